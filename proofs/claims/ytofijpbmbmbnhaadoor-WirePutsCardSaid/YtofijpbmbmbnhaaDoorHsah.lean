/- The tables of the program, written by a program of mine (ShowTab.lean); that they are the program's is proved here. -/
import Derived.Test.YtofijpbmbmbnhaaDoorHsag
import Derived.Test.YtofijpbmbmbnhaaDoorProg
import Derived.KernelRfl
import Derived.WalkKit
import Derived.Lib.Builder
import Derived.Lib.Walk
import Derived.Laws.Externs
set_option linter.unusedSimpArgs false
set_option linter.unusedVariables false
set_option maxRecDepth 100000
namespace Go.Proofs.YtofijpbmbmbnhaaDoor
open Go Go.Hs Go.Proofs
def ti0 : TI := ⟨.other, 1, 0, some (.tuple #[]), true⟩
def ti1 : TI := ⟨.func, 1, 8, some (.nilFunc), true⟩
def ti2 : TI := ⟨.int .i64, 1, 8, some (.int .i64 0), true⟩
def ti3 : TI := ⟨.int .i64, 1, 8, some (.int .i64 0), true⟩
def ti4 : TI := ⟨.bool, 1, 1, some (.bool false), true⟩
def ti5 : TI := ⟨.int .u8, 1, 1, some (.int .u8 0), true⟩
def ti6 : TI := ⟨.int .u8, 1, 1, some (.int .u8 0), true⟩
def ti7 : TI := ⟨.struct [(0, 2, 1), (1, 3, 1), (2, 4, 1), (3, 6, 1)], 4, 24, some (.agg #[.int .i64 0, .int .i64 0, .bool false, .int .u8 0]), true⟩
def ti8 : TI := ⟨.struct [(0, 2, 1), (1, 3, 1), (2, 4, 1), (3, 6, 1)], 4, 24, some (.agg #[.int .i64 0, .int .i64 0, .bool false, .int .u8 0]), true⟩
def ti9 : TI := ⟨.string, 1, 16, some (.string ⟨#[]⟩), true⟩
def ti10 : TI := ⟨.string, 1, 16, some (.string ⟨#[]⟩), true⟩
def ti11 : TI := ⟨.string, 1, 16, some (.string ⟨#[]⟩), true⟩
def ti12 : TI := ⟨.int .u64, 1, 8, some (.int .u64 0), true⟩
def ti13 : TI := ⟨.struct [(0, 9, 1), (1, 12, 1)], 2, 24, some (.agg #[.string ⟨#[]⟩, .int .u64 0]), false⟩
def ti14 : TI := ⟨.struct [(0, 9, 1), (1, 12, 1)], 2, 24, some (.agg #[.string ⟨#[]⟩, .int .u64 0]), false⟩
def ti15 : TI := ⟨.pointer 193, 1, 8, some (.pointer none), true⟩
def ti16 : TI := ⟨.pointer 196, 1, 8, some (.pointer none), true⟩
def ti17 : TI := ⟨.pointer 203, 1, 8, some (.pointer none), true⟩
def ti18 : TI := ⟨.struct [(0, 17, 1)], 1, 8, some (.agg #[.pointer none]), false⟩
def ti19 : TI := ⟨.struct [(0, 17, 1)], 1, 8, some (.agg #[.pointer none]), false⟩
def ti20 : TI := ⟨.other, 1, 16, some (.nilIface), true⟩
def ti21 : TI := ⟨.int .i32, 1, 4, some (.int .i32 0), true⟩
def ti22 : TI := ⟨.func, 1, 8, some (.nilFunc), true⟩
def ti23 : TI := ⟨.slice 25 4 56, 1, 24, some (.slice none 0 0), true⟩
def ti24 : TI := ⟨.struct [(0, 3, 1), (1, 3, 1), (2, 9, 1), (3, 23, 1)], 4, 56, some (.agg #[.int .i64 0, .int .i64 0, .string ⟨#[]⟩, .slice none 0 0]), true⟩
def ti25 : TI := ⟨.struct [(0, 3, 1), (1, 3, 1), (2, 9, 1), (3, 23, 1)], 4, 56, some (.agg #[.int .i64 0, .int .i64 0, .string ⟨#[]⟩, .slice none 0 0]), true⟩
def ti26 : TI := ⟨.int .i64, 1, 8, some (.int .i64 0), true⟩
def ti27 : TI := ⟨.other, 1, 0, some (.tuple #[.agg #[.int .i64 0, .int .i64 0, .string ⟨#[]⟩, .slice none 0 0], .int .i64 0, .int .i64 0]), true⟩
def ti28 : TI := ⟨.func, 1, 8, some (.nilFunc), true⟩
def ti29 : TI := ⟨.func, 1, 8, some (.nilFunc), true⟩
def ti30 : TI := ⟨.func, 1, 8, some (.nilFunc), true⟩
def ti31 : TI := ⟨.slice 5 1 1, 1, 24, some (.slice none 0 0), true⟩
def ti32 : TI := ⟨.func, 1, 8, some (.nilFunc), true⟩
def ti33 : TI := ⟨.func, 1, 8, some (.nilFunc), true⟩
def ti34 : TI := ⟨.other, 1, 0, some (.tuple #[.slice none 0 0, .int .i64 0, .int .i64 0]), true⟩
def ti35 : TI := ⟨.func, 1, 8, some (.nilFunc), true⟩
def ti36 : TI := ⟨.func, 1, 8, some (.nilFunc), true⟩
def ti37 : TI := ⟨.func, 1, 8, some (.nilFunc), true⟩
def ti38 : TI := ⟨.func, 1, 8, some (.nilFunc), true⟩
def ti39 : TI := ⟨.func, 1, 8, some (.nilFunc), true⟩
def ti40 : TI := ⟨.int .u16, 1, 2, some (.int .u16 0), true⟩
def ti41 : TI := ⟨.func, 1, 8, some (.nilFunc), true⟩
def ti42 : TI := ⟨.pointer 101, 1, 8, some (.pointer none), true⟩
def ti43 : TI := ⟨.func, 1, 8, some (.nilFunc), true⟩
def ti44 : TI := ⟨.other, 1, 0, some (.tuple #[.slice none 0 0, .int .i64 0]), true⟩
def ti45 : TI := ⟨.func, 1, 8, some (.nilFunc), true⟩
def ti46 : TI := ⟨.other, 1, 0, some (.tuple #[.string ⟨#[]⟩, .int .i64 0]), true⟩
def ti47 : TI := ⟨.func, 1, 8, some (.nilFunc), true⟩
def ti48 : TI := ⟨.func, 1, 8, some (.nilFunc), true⟩
def ti49 : TI := ⟨.array 3 3 1, 3, 24, some (.agg #[.int .i64 0, .int .i64 0, .int .i64 0]), true⟩
def ti50 : TI := ⟨.array 3 49 3, 9, 72, some (.agg #[.int .i64 0, .int .i64 0, .int .i64 0, .int .i64 0, .int .i64 0, .int .i64 0, .int .i64 0, .int .i64 0, .int .i64 0]), true⟩
def ti51 : TI := ⟨.other, 1, 0, some (.tuple #[.int .i64 0, .int .i64 0]), true⟩
def ti52 : TI := ⟨.func, 1, 8, some (.nilFunc), true⟩
def ti53 : TI := ⟨.slice 3 1 8, 1, 24, some (.slice none 0 0), true⟩
def ti54 : TI := ⟨.other, 1, 0, some (.tuple #[.slice none 0 0, .int .i64 0]), true⟩
def ti55 : TI := ⟨.func, 1, 8, some (.nilFunc), true⟩
def ti56 : TI := ⟨.other, 1, 0, some (.tuple #[.agg #[.int .i64 0, .int .i64 0, .string ⟨#[]⟩, .slice none 0 0], .int .i64 0]), true⟩
def ti57 : TI := ⟨.func, 1, 8, some (.nilFunc), true⟩
def ti58 : TI := ⟨.func, 1, 8, some (.nilFunc), true⟩
def ti59 : TI := ⟨.func, 1, 8, some (.nilFunc), true⟩
def ti60 : TI := ⟨.func, 1, 8, some (.nilFunc), true⟩
def ti61 : TI := ⟨.other, 1, 0, some (.tuple #[.int .i64 0, .int .i64 0, .int .i64 0]), true⟩
def ti62 : TI := ⟨.func, 1, 8, some (.nilFunc), true⟩
def ti63 : TI := ⟨.func, 1, 8, some (.nilFunc), true⟩
def ti64 : TI := ⟨.func, 1, 8, some (.nilFunc), true⟩
def ti65 : TI := ⟨.func, 1, 8, some (.nilFunc), true⟩
def ti66 : TI := ⟨.func, 1, 8, some (.nilFunc), true⟩
def ti67 : TI := ⟨.func, 1, 8, some (.nilFunc), true⟩
def ti68 : TI := ⟨.slice 53 1 24, 1, 24, some (.slice none 0 0), true⟩
def ti69 : TI := ⟨.func, 1, 8, some (.nilFunc), true⟩
def ti70 : TI := ⟨.func, 1, 8, some (.nilFunc), true⟩
def ti71 : TI := ⟨.other, 1, 0, some (.tuple #[.slice none 0 0, .int .i64 0]), true⟩
def ti72 : TI := ⟨.func, 1, 8, some (.nilFunc), true⟩
def ti73 : TI := ⟨.func, 1, 8, some (.nilFunc), true⟩
def ti74 : TI := ⟨.func, 1, 8, some (.nilFunc), true⟩
def ti75 : TI := ⟨.func, 1, 8, some (.nilFunc), true⟩
def ti76 : TI := ⟨.func, 1, 8, some (.nilFunc), true⟩
def ti77 : TI := ⟨.func, 1, 8, some (.nilFunc), true⟩
def ti78 : TI := ⟨.func, 1, 8, some (.nilFunc), true⟩
def ti79 : TI := ⟨.struct [(0, 31, 1), (1, 3, 1)], 2, 32, some (.agg #[.slice none 0 0, .int .i64 0]), true⟩
def ti80 : TI := ⟨.slice 79 2 32, 1, 24, some (.slice none 0 0), true⟩
def ti81 : TI := ⟨.struct [(0, 9, 1), (1, 3, 1), (2, 26, 1)], 3, 32, some (.agg #[.string ⟨#[]⟩, .int .i64 0, .int .i64 0]), true⟩
def ti82 : TI := ⟨.slice 81 3 32, 1, 24, some (.slice none 0 0), true⟩
def ti83 : TI := ⟨.struct [(0, 9, 1), (1, 3, 1), (2, 26, 1)], 3, 32, some (.agg #[.string ⟨#[]⟩, .int .i64 0, .int .i64 0]), true⟩
def ti84 : TI := ⟨.struct [(0, 9, 1), (1, 3, 1), (2, 26, 1)], 3, 32, some (.agg #[.string ⟨#[]⟩, .int .i64 0, .int .i64 0]), true⟩
def ti85 : TI := ⟨.struct [(0, 84, 3), (3, 3, 1)], 4, 40, some (.agg #[.string ⟨#[]⟩, .int .i64 0, .int .i64 0, .int .i64 0]), true⟩
def ti86 : TI := ⟨.struct [(0, 84, 3), (3, 3, 1)], 4, 40, some (.agg #[.string ⟨#[]⟩, .int .i64 0, .int .i64 0, .int .i64 0]), true⟩
def ti87 : TI := ⟨.func, 1, 8, some (.nilFunc), true⟩
def ti88 : TI := ⟨.other, 1, 0, some (.tuple #[.agg #[.int .i64 0, .int .i64 0, .string ⟨#[]⟩, .slice none 0 0], .bool false]), true⟩
def ti89 : TI := ⟨.func, 1, 8, some (.nilFunc), true⟩
def ti90 : TI := ⟨.struct [(0, 31, 1), (1, 3, 1), (2, 3, 1), (3, 3, 1), (4, 26, 1)], 5, 56, some (.agg #[.slice none 0 0, .int .i64 0, .int .i64 0, .int .i64 0, .int .i64 0]), true⟩
def ti91 : TI := ⟨.struct [(0, 31, 1), (1, 3, 1), (2, 3, 1), (3, 3, 1), (4, 26, 1)], 5, 56, some (.agg #[.slice none 0 0, .int .i64 0, .int .i64 0, .int .i64 0, .int .i64 0]), true⟩
def ti92 : TI := ⟨.func, 1, 8, some (.nilFunc), true⟩
def ti93 : TI := ⟨.func, 1, 8, some (.nilFunc), true⟩
def ti94 : TI := ⟨.func, 1, 8, some (.nilFunc), true⟩
def ti95 : TI := ⟨.func, 1, 8, some (.nilFunc), true⟩
def ti96 : TI := ⟨.func, 1, 8, some (.nilFunc), true⟩
def ti97 : TI := ⟨.func, 1, 8, some (.nilFunc), true⟩
def ti98 : TI := ⟨.pointer 3, 1, 8, some (.pointer none), true⟩
def ti99 : TI := ⟨.int .u64, 1, 8, some (.int .u64 0), true⟩
def ti100 : TI := ⟨.struct [(0, 31, 1), (1, 3, 1), (2, 99, 1)], 3, 40, some (.agg #[.slice none 0 0, .int .i64 0, .int .u64 0]), true⟩
def ti101 : TI := ⟨.struct [(0, 31, 1), (1, 3, 1), (2, 99, 1)], 3, 40, some (.agg #[.slice none 0 0, .int .i64 0, .int .u64 0]), true⟩
def ti102 : TI := ⟨.func, 1, 8, some (.nilFunc), true⟩
def ti103 : TI := ⟨.func, 1, 8, some (.nilFunc), true⟩
def ti104 : TI := ⟨.pointer 106, 1, 8, some (.pointer none), true⟩
def ti105 : TI := ⟨.struct [(0, 104, 1), (1, 31, 1)], 2, 32, some (.agg #[.pointer none, .slice none 0 0]), true⟩
def ti106 : TI := ⟨.struct [(0, 104, 1), (1, 31, 1)], 2, 32, some (.agg #[.pointer none, .slice none 0 0]), true⟩
def ti107 : TI := ⟨.func, 1, 8, some (.nilFunc), true⟩
def ti108 : TI := ⟨.func, 1, 8, some (.nilFunc), true⟩
def ti109 : TI := ⟨.func, 1, 8, some (.nilFunc), true⟩
def ti110 : TI := ⟨.func, 1, 8, some (.nilFunc), true⟩
def ti111 : TI := ⟨.func, 1, 8, some (.nilFunc), true⟩
def ti112 : TI := ⟨.other, 1, 0, some (.tuple #[.slice none 0 0, .bool false]), true⟩
def ti113 : TI := ⟨.func, 1, 8, some (.nilFunc), true⟩
def ti114 : TI := ⟨.func, 1, 8, some (.nilFunc), true⟩
def ti115 : TI := ⟨.func, 1, 8, some (.nilFunc), true⟩
def ti116 : TI := ⟨.func, 1, 8, some (.nilFunc), true⟩
def ti117 : TI := ⟨.func, 1, 8, some (.nilFunc), true⟩
def ti118 : TI := ⟨.func, 1, 8, some (.nilFunc), true⟩
def ti119 : TI := ⟨.func, 1, 8, some (.nilFunc), true⟩
def ti120 : TI := ⟨.func, 1, 8, some (.nilFunc), true⟩
def ti121 : TI := ⟨.func, 1, 8, some (.nilFunc), true⟩
def ti122 : TI := ⟨.pointer 25, 1, 8, some (.pointer none), true⟩
def ti123 : TI := ⟨.func, 1, 8, some (.nilFunc), true⟩
def ti124 : TI := ⟨.func, 1, 8, some (.nilFunc), true⟩
def ti125 : TI := ⟨.int .u64, 1, 8, some (.int .u64 0), true⟩
def ti126 : TI := ⟨.other, 1, 0, some (.tuple #[.int .u64 0, .int .u64 0]), true⟩
def ti127 : TI := ⟨.func, 1, 8, some (.nilFunc), true⟩
def ti128 : TI := ⟨.func, 1, 8, some (.nilFunc), true⟩
def ti129 : TI := ⟨.pointer 86, 1, 8, some (.pointer none), true⟩
def ti130 : TI := ⟨.func, 1, 8, some (.nilFunc), true⟩
def ti131 : TI := ⟨.other, 1, 0, some (.tuple #[.int .i64 0, .bool false]), true⟩
def ti132 : TI := ⟨.func, 1, 8, some (.nilFunc), true⟩
def ti133 : TI := ⟨.func, 1, 8, some (.nilFunc), true⟩
def ti134 : TI := ⟨.other, 1, 0, some (.tuple #[.string ⟨#[]⟩, .bool false]), true⟩
def ti135 : TI := ⟨.func, 1, 8, some (.nilFunc), true⟩
def ti136 : TI := ⟨.pointer 91, 1, 8, some (.pointer none), true⟩
def ti137 : TI := ⟨.func, 1, 8, some (.nilFunc), true⟩
def ti138 : TI := ⟨.func, 1, 8, some (.nilFunc), true⟩
def ti139 : TI := ⟨.func, 1, 8, some (.nilFunc), true⟩
def ti140 : TI := ⟨.struct [(0, 5, 1), (1, 139, 1)], 2, 16, some (.agg #[.int .u8 0, .nilFunc]), true⟩
def ti141 : TI := ⟨.struct [(0, 5, 1), (1, 139, 1)], 2, 16, some (.agg #[.int .u8 0, .nilFunc]), true⟩
def ti142 : TI := ⟨.array 3 141 2, 6, 48, some (.agg #[.int .u8 0, .nilFunc, .int .u8 0, .nilFunc, .int .u8 0, .nilFunc]), true⟩
def ti143 : TI := ⟨.func, 1, 8, some (.nilFunc), true⟩
def ti144 : TI := ⟨.func, 1, 8, some (.nilFunc), true⟩
def ti145 : TI := ⟨.func, 1, 8, some (.nilFunc), true⟩
def ti146 : TI := ⟨.func, 1, 8, some (.nilFunc), true⟩
def ti147 : TI := ⟨.other, 1, 16, some (.nilIface), false⟩
def ti148 : TI := ⟨.other, 1, 16, some (.nilIface), false⟩
def ti149 : TI := ⟨.other, 1, 0, some (.tuple #[.int .i64 0, .nilIface]), true⟩
def ti150 : TI := ⟨.func, 1, 8, some (.nilFunc), true⟩
def ti151 : TI := ⟨.func, 1, 8, some (.nilFunc), true⟩
def ti152 : TI := ⟨.func, 1, 8, some (.nilFunc), true⟩
def ti153 : TI := ⟨.array 2 5 1, 2, 2, some (.agg #[.int .u8 0, .int .u8 0]), true⟩
def ti154 : TI := ⟨.func, 1, 8, some (.nilFunc), true⟩
def ti155 : TI := ⟨.func, 1, 8, some (.nilFunc), true⟩
def ti156 : TI := ⟨.pointer 5, 1, 8, some (.pointer none), true⟩
def ti157 : TI := ⟨.func, 1, 8, some (.nilFunc), true⟩
def ti158 : TI := ⟨.func, 1, 8, some (.nilFunc), true⟩
def ti159 : TI := ⟨.func, 1, 8, some (.nilFunc), true⟩
def ti160 : TI := ⟨.struct [(0, 3, 1), (1, 3, 1), (2, 3, 1), (3, 9, 1)], 4, 40, some (.agg #[.int .i64 0, .int .i64 0, .int .i64 0, .string ⟨#[]⟩]), true⟩
def ti161 : TI := ⟨.struct [(0, 3, 1), (1, 3, 1), (2, 3, 1), (3, 9, 1)], 4, 40, some (.agg #[.int .i64 0, .int .i64 0, .int .i64 0, .string ⟨#[]⟩]), true⟩
def ti162 : TI := ⟨.func, 1, 8, some (.nilFunc), true⟩
def ti163 : TI := ⟨.func, 1, 8, some (.nilFunc), true⟩
def ti164 : TI := ⟨.int .u32, 1, 4, some (.int .u32 0), true⟩
def ti165 : TI := ⟨.other, 1, 0, some (.tuple #[.int .u32 0, .int .u32 0]), true⟩
def ti166 : TI := ⟨.func, 1, 8, some (.nilFunc), true⟩
def ti167 : TI := ⟨.other, 1, 0, some (.tuple #[.int .u64 0, .int .u64 0]), true⟩
def ti168 : TI := ⟨.func, 1, 8, some (.nilFunc), true⟩
def ti169 : TI := ⟨.pointer 84, 1, 8, some (.pointer none), true⟩
def ti170 : TI := ⟨.map 5 5, 1, 8, some (.map none), true⟩
def ti171 : TI := ⟨.func, 1, 8, some (.nilFunc), true⟩
def ti172 : TI := ⟨.other, 1, 0, some (.tuple #[.int .u8 0, .bool false]), true⟩
def ti173 : TI := ⟨.func, 1, 8, some (.nilFunc), true⟩
def ti174 : TI := ⟨.func, 1, 8, some (.nilFunc), true⟩
def ti175 : TI := ⟨.func, 1, 8, some (.nilFunc), true⟩
def ti176 : TI := ⟨.slice 31 1 24, 1, 24, some (.slice none 0 0), true⟩
def ti177 : TI := ⟨.other, 1, 8, some (.pointer none), true⟩
def ti178 : TI := ⟨.func, 1, 8, some (.nilFunc), true⟩
def ti179 : TI := ⟨.func, 1, 8, some (.nilFunc), true⟩
def ti180 : TI := ⟨.array 24 5 1, 24, 24, some (.agg #[.int .u8 0, .int .u8 0, .int .u8 0, .int .u8 0, .int .u8 0, .int .u8 0, .int .u8 0, .int .u8 0, .int .u8 0, .int .u8 0, .int .u8 0, .int .u8 0, .int .u8 0, .int .u8 0, .int .u8 0, .int .u8 0, .int .u8 0, .int .u8 0, .int .u8 0, .int .u8 0, .int .u8 0, .int .u8 0, .int .u8 0, .int .u8 0]), true⟩
def ti181 : TI := ⟨.func, 1, 8, some (.nilFunc), true⟩
def ti182 : TI := ⟨.func, 1, 8, some (.nilFunc), true⟩
def ti183 : TI := ⟨.other, 1, 0, some (.tuple #[.slice none 0 0, .string ⟨#[]⟩]), true⟩
def ti184 : TI := ⟨.func, 1, 8, some (.nilFunc), true⟩
def ti185 : TI := ⟨.func, 1, 8, some (.nilFunc), true⟩
def ti186 : TI := ⟨.array 20 99 1, 20, 160, some (.agg #[.int .u64 0, .int .u64 0, .int .u64 0, .int .u64 0, .int .u64 0, .int .u64 0, .int .u64 0, .int .u64 0, .int .u64 0, .int .u64 0, .int .u64 0, .int .u64 0, .int .u64 0, .int .u64 0, .int .u64 0, .int .u64 0, .int .u64 0, .int .u64 0, .int .u64 0, .int .u64 0]), true⟩
def ti187 : TI := ⟨.array 65 5 1, 65, 65, some (.agg #[.int .u8 0, .int .u8 0, .int .u8 0, .int .u8 0, .int .u8 0, .int .u8 0, .int .u8 0, .int .u8 0, .int .u8 0, .int .u8 0, .int .u8 0, .int .u8 0, .int .u8 0, .int .u8 0, .int .u8 0, .int .u8 0, .int .u8 0, .int .u8 0, .int .u8 0, .int .u8 0, .int .u8 0, .int .u8 0, .int .u8 0, .int .u8 0, .int .u8 0, .int .u8 0, .int .u8 0, .int .u8 0, .int .u8 0, .int .u8 0, .int .u8 0, .int .u8 0, .int .u8 0, .int .u8 0, .int .u8 0, .int .u8 0, .int .u8 0, .int .u8 0, .int .u8 0, .int .u8 0, .int .u8 0, .int .u8 0, .int .u8 0, .int .u8 0, .int .u8 0, .int .u8 0, .int .u8 0, .int .u8 0, .int .u8 0, .int .u8 0, .int .u8 0, .int .u8 0, .int .u8 0, .int .u8 0, .int .u8 0, .int .u8 0, .int .u8 0, .int .u8 0, .int .u8 0, .int .u8 0, .int .u8 0, .int .u8 0, .int .u8 0, .int .u8 0, .int .u8 0]), true⟩
def ti188 : TI := ⟨.func, 1, 8, some (.nilFunc), true⟩
def ti189 : TI := ⟨.func, 1, 8, some (.nilFunc), true⟩
def ti190 : TI := ⟨.array 32 5 1, 32, 32, some (.agg #[.int .u8 0, .int .u8 0, .int .u8 0, .int .u8 0, .int .u8 0, .int .u8 0, .int .u8 0, .int .u8 0, .int .u8 0, .int .u8 0, .int .u8 0, .int .u8 0, .int .u8 0, .int .u8 0, .int .u8 0, .int .u8 0, .int .u8 0, .int .u8 0, .int .u8 0, .int .u8 0, .int .u8 0, .int .u8 0, .int .u8 0, .int .u8 0, .int .u8 0, .int .u8 0, .int .u8 0, .int .u8 0, .int .u8 0, .int .u8 0, .int .u8 0, .int .u8 0]), true⟩
def ti191 : TI := ⟨.array 64 5 1, 64, 64, some (.agg #[.int .u8 0, .int .u8 0, .int .u8 0, .int .u8 0, .int .u8 0, .int .u8 0, .int .u8 0, .int .u8 0, .int .u8 0, .int .u8 0, .int .u8 0, .int .u8 0, .int .u8 0, .int .u8 0, .int .u8 0, .int .u8 0, .int .u8 0, .int .u8 0, .int .u8 0, .int .u8 0, .int .u8 0, .int .u8 0, .int .u8 0, .int .u8 0, .int .u8 0, .int .u8 0, .int .u8 0, .int .u8 0, .int .u8 0, .int .u8 0, .int .u8 0, .int .u8 0, .int .u8 0, .int .u8 0, .int .u8 0, .int .u8 0, .int .u8 0, .int .u8 0, .int .u8 0, .int .u8 0, .int .u8 0, .int .u8 0, .int .u8 0, .int .u8 0, .int .u8 0, .int .u8 0, .int .u8 0, .int .u8 0, .int .u8 0, .int .u8 0, .int .u8 0, .int .u8 0, .int .u8 0, .int .u8 0, .int .u8 0, .int .u8 0, .int .u8 0, .int .u8 0, .int .u8 0, .int .u8 0, .int .u8 0, .int .u8 0, .int .u8 0, .int .u8 0]), true⟩
def ti192 : TI := ⟨.struct [(0, 17, 1), (1, 17, 1), (2, 17, 1), (3, 9, 1)], 4, 40, some (.agg #[.pointer none, .pointer none, .pointer none, .string ⟨#[]⟩]), false⟩
def ti193 : TI := ⟨.struct [(0, 17, 1), (1, 17, 1), (2, 17, 1), (3, 9, 1)], 4, 40, some (.agg #[.pointer none, .pointer none, .pointer none, .string ⟨#[]⟩]), false⟩
def ti194 : TI := ⟨.array 0 16 1, 0, 0, some (.agg #[]), true⟩
def ti195 : TI := ⟨.other, 0, 0, some (.agg #[]), false⟩
def ti196 : TI := ⟨.other, 0, 0, some (.agg #[]), false⟩
def ti197 : TI := ⟨.int .u8, 1, 1, some (.int .u8 0), true⟩
def ti198 : TI := ⟨.int .u8, 1, 1, some (.int .u8 0), true⟩
def ti199 : TI := ⟨.func, 1, 8, some (.nilFunc), true⟩
def ti200 : TI := ⟨.int .i32, 1, 4, some (.int .i32 0), true⟩
def ti201 : TI := ⟨.int .i32, 1, 4, some (.int .i32 0), true⟩
def ti202 : TI := ⟨.struct [(0, 12, 1), (1, 12, 1), (2, 164, 1), (3, 197, 1), (4, 5, 1), (5, 5, 1), (6, 198, 1), (7, 199, 1), (8, 156, 1), (9, 200, 1), (10, 201, 1)], 11, 48, some (.agg #[.int .u64 0, .int .u64 0, .int .u32 0, .int .u8 0, .int .u8 0, .int .u8 0, .int .u8 0, .nilFunc, .pointer none, .int .i32 0, .int .i32 0]), false⟩
def ti203 : TI := ⟨.struct [(0, 12, 1), (1, 12, 1), (2, 164, 1), (3, 197, 1), (4, 5, 1), (5, 5, 1), (6, 198, 1), (7, 199, 1), (8, 156, 1), (9, 200, 1), (10, 201, 1)], 11, 48, some (.agg #[.int .u64 0, .int .u64 0, .int .u32 0, .int .u8 0, .int .u8 0, .int .u8 0, .int .u8 0, .nilFunc, .pointer none, .int .i32 0, .int .i32 0]), false⟩
def tyL : List (Option TI) := [some ti0, some ti1, some ti2, some ti3, some ti4, some ti5, some ti6, some ti7, some ti8, some ti9, some ti10, some ti11, some ti12, some ti13, some ti14, some ti15, some ti16, some ti17, some ti18, some ti19, some ti20, some ti21, some ti22, some ti23, some ti24, some ti25, some ti26, some ti27, some ti28, some ti29, some ti30, some ti31, some ti32, some ti33, some ti34, some ti35, some ti36, some ti37, some ti38, some ti39, some ti40, some ti41, some ti42, some ti43, some ti44, some ti45, some ti46, some ti47, some ti48, some ti49, some ti50, some ti51, some ti52, some ti53, some ti54, some ti55, some ti56, some ti57, some ti58, some ti59, some ti60, some ti61, some ti62, some ti63, some ti64, some ti65, some ti66, some ti67, some ti68, some ti69, some ti70, some ti71, some ti72, some ti73, some ti74, some ti75, some ti76, some ti77, some ti78, some ti79, some ti80, some ti81, some ti82, some ti83, some ti84, some ti85, some ti86, some ti87, some ti88, some ti89, some ti90, some ti91, some ti92, some ti93, some ti94, some ti95, some ti96, some ti97, some ti98, some ti99, some ti100, some ti101, some ti102, some ti103, some ti104, some ti105, some ti106, some ti107, some ti108, some ti109, some ti110, some ti111, some ti112, some ti113, some ti114, some ti115, some ti116, some ti117, some ti118, some ti119, some ti120, some ti121, some ti122, some ti123, some ti124, some ti125, some ti126, some ti127, some ti128, some ti129, some ti130, some ti131, some ti132, some ti133, some ti134, some ti135, some ti136, some ti137, some ti138, some ti139, some ti140, some ti141, some ti142, some ti143, some ti144, some ti145, some ti146, some ti147, some ti148, some ti149, some ti150, some ti151, some ti152, some ti153, some ti154, some ti155, some ti156, some ti157, some ti158, some ti159, some ti160, some ti161, some ti162, some ti163, some ti164, some ti165, some ti166, some ti167, some ti168, some ti169, some ti170, some ti171, some ti172, some ti173, some ti174, some ti175, some ti176, some ti177, some ti178, some ti179, some ti180, some ti181, some ti182, some ti183, some ti184, some ti185, some ti186, some ti187, some ti188, some ti189, some ti190, some ti191, some ti192, some ti193, some ti194, some ti195, some ti196, some ti197, some ti198, some ti199, some ti200, some ti201, some ti202, some ti203]
def tyT : T TI := (.node (.node (.node (.node (.node (.node (.node (.node .nil (some ti127) .nil) (some ti63) (.node .nil (some ti191) .nil)) (some ti31) (.node (.node .nil (some ti159) .nil) (some ti95) .nil)) (some ti15) (.node (.node (.node .nil (some ti143) .nil) (some ti79) .nil) (some ti47) (.node (.node .nil (some ti175) .nil) (some ti111) .nil))) (some ti7) (.node (.node (.node (.node .nil (some ti135) .nil) (some ti71) (.node .nil (some ti199) .nil)) (some ti39) (.node (.node .nil (some ti167) .nil) (some ti103) .nil)) (some ti23) (.node (.node (.node .nil (some ti151) .nil) (some ti87) .nil) (some ti55) (.node (.node .nil (some ti183) .nil) (some ti119) .nil)))) (some ti3) (.node (.node (.node (.node (.node .nil (some ti131) .nil) (some ti67) (.node .nil (some ti195) .nil)) (some ti35) (.node (.node .nil (some ti163) .nil) (some ti99) .nil)) (some ti19) (.node (.node (.node .nil (some ti147) .nil) (some ti83) .nil) (some ti51) (.node (.node .nil (some ti179) .nil) (some ti115) .nil))) (some ti11) (.node (.node (.node (.node .nil (some ti139) .nil) (some ti75) (.node .nil (some ti203) .nil)) (some ti43) (.node (.node .nil (some ti171) .nil) (some ti107) .nil)) (some ti27) (.node (.node (.node .nil (some ti155) .nil) (some ti91) .nil) (some ti59) (.node (.node .nil (some ti187) .nil) (some ti123) .nil))))) (some ti1) (.node (.node (.node (.node (.node (.node .nil (some ti129) .nil) (some ti65) (.node .nil (some ti193) .nil)) (some ti33) (.node (.node .nil (some ti161) .nil) (some ti97) .nil)) (some ti17) (.node (.node (.node .nil (some ti145) .nil) (some ti81) .nil) (some ti49) (.node (.node .nil (some ti177) .nil) (some ti113) .nil))) (some ti9) (.node (.node (.node (.node .nil (some ti137) .nil) (some ti73) (.node .nil (some ti201) .nil)) (some ti41) (.node (.node .nil (some ti169) .nil) (some ti105) .nil)) (some ti25) (.node (.node (.node .nil (some ti153) .nil) (some ti89) .nil) (some ti57) (.node (.node .nil (some ti185) .nil) (some ti121) .nil)))) (some ti5) (.node (.node (.node (.node (.node .nil (some ti133) .nil) (some ti69) (.node .nil (some ti197) .nil)) (some ti37) (.node (.node .nil (some ti165) .nil) (some ti101) .nil)) (some ti21) (.node (.node (.node .nil (some ti149) .nil) (some ti85) .nil) (some ti53) (.node (.node .nil (some ti181) .nil) (some ti117) .nil))) (some ti13) (.node (.node (.node (.node .nil (some ti141) .nil) (some ti77) .nil) (some ti45) (.node (.node .nil (some ti173) .nil) (some ti109) .nil)) (some ti29) (.node (.node (.node .nil (some ti157) .nil) (some ti93) .nil) (some ti61) (.node (.node .nil (some ti189) .nil) (some ti125) .nil)))))) (some ti0) (.node (.node (.node (.node (.node (.node (.node .nil (some ti128) .nil) (some ti64) (.node .nil (some ti192) .nil)) (some ti32) (.node (.node .nil (some ti160) .nil) (some ti96) .nil)) (some ti16) (.node (.node (.node .nil (some ti144) .nil) (some ti80) .nil) (some ti48) (.node (.node .nil (some ti176) .nil) (some ti112) .nil))) (some ti8) (.node (.node (.node (.node .nil (some ti136) .nil) (some ti72) (.node .nil (some ti200) .nil)) (some ti40) (.node (.node .nil (some ti168) .nil) (some ti104) .nil)) (some ti24) (.node (.node (.node .nil (some ti152) .nil) (some ti88) .nil) (some ti56) (.node (.node .nil (some ti184) .nil) (some ti120) .nil)))) (some ti4) (.node (.node (.node (.node (.node .nil (some ti132) .nil) (some ti68) (.node .nil (some ti196) .nil)) (some ti36) (.node (.node .nil (some ti164) .nil) (some ti100) .nil)) (some ti20) (.node (.node (.node .nil (some ti148) .nil) (some ti84) .nil) (some ti52) (.node (.node .nil (some ti180) .nil) (some ti116) .nil))) (some ti12) (.node (.node (.node (.node .nil (some ti140) .nil) (some ti76) .nil) (some ti44) (.node (.node .nil (some ti172) .nil) (some ti108) .nil)) (some ti28) (.node (.node (.node .nil (some ti156) .nil) (some ti92) .nil) (some ti60) (.node (.node .nil (some ti188) .nil) (some ti124) .nil))))) (some ti2) (.node (.node (.node (.node (.node (.node .nil (some ti130) .nil) (some ti66) (.node .nil (some ti194) .nil)) (some ti34) (.node (.node .nil (some ti162) .nil) (some ti98) .nil)) (some ti18) (.node (.node (.node .nil (some ti146) .nil) (some ti82) .nil) (some ti50) (.node (.node .nil (some ti178) .nil) (some ti114) .nil))) (some ti10) (.node (.node (.node (.node .nil (some ti138) .nil) (some ti74) (.node .nil (some ti202) .nil)) (some ti42) (.node (.node .nil (some ti170) .nil) (some ti106) .nil)) (some ti26) (.node (.node (.node .nil (some ti154) .nil) (some ti90) .nil) (some ti58) (.node (.node .nil (some ti186) .nil) (some ti122) .nil)))) (some ti6) (.node (.node (.node (.node (.node .nil (some ti134) .nil) (some ti70) (.node .nil (some ti198) .nil)) (some ti38) (.node (.node .nil (some ti166) .nil) (some ti102) .nil)) (some ti22) (.node (.node (.node .nil (some ti150) .nil) (some ti86) .nil) (some ti54) (.node (.node .nil (some ti182) .nil) (some ti118) .nil))) (some ti14) (.node (.node (.node (.node .nil (some ti142) .nil) (some ti78) .nil) (some ti46) (.node (.node .nil (some ti174) .nil) (some ti110) .nil)) (some ti30) (.node (.node (.node .nil (some ti158) .nil) (some ti94) .nil) (some ti62) (.node (.node .nil (some ti190) .nil) (some ti126) .nil)))))))
noncomputable def fnL : List Func := [Tryd.f0, Tryd.f1, Tryd.f2, Tryd.f3, Tryd.f4, Tryd.f5, Tryd.f6, Tryd.f7, Tryd.f8, Tryd.f9, Tryd.f10, Tryd.f11, Tryd.f12, Tryd.f13, Tryd.f14, Tryd.f15, Tryd.f16, Tryd.f17, Tryd.f18, Tryd.f19, Tryd.f20, Tryd.f21, Tryd.f22, Tryd.f23, Tryd.f24, Tryd.f25, Tryd.f26, Tryd.f27, Tryd.f28, Tryd.f29, Tryd.f30, Tryd.f31, Tryd.f32, Tryd.f33, Tryd.f34, Tryd.f35, Tryd.f36, Tryd.f37, Tryd.f38, Tryd.f39, Tryd.f40, Tryd.f41, Tryd.f42, Tryd.f43, Tryd.f44, Tryd.f45, Tryd.f46, Tryd.f47, Tryd.f48, Tryd.f49, Tryd.f50, Tryd.f51, Tryd.f52, Tryd.f53, Tryd.f54, Tryd.f55, Tryd.f56, Tryd.f57, Tryd.f58, Tryd.f59, Tryd.f60, Tryd.f61, Tryd.f62, Tryd.f63, Tryd.f64, Tryd.f65, Tryd.f66, Tryd.f67, Tryd.f68, Tryd.f69, Tryd.f70, Tryd.f71, Tryd.f72, Tryd.f73, Tryd.f74, Tryd.f75, Tryd.f76, Tryd.f77, Tryd.f78, Tryd.f79, Tryd.f80, Tryd.f81, Tryd.f82, Tryd.f83, Tryd.f84, Tryd.f85, Tryd.f86, Tryd.f87, Tryd.f88, Tryd.f89, Tryd.f90, Tryd.f91, Tryd.f92, Tryd.f93, Tryd.f94, Tryd.f95, Tryd.f96, Tryd.f97, Tryd.f98, Tryd.f99, Tryd.f100, Tryd.f101, Tryd.f102, Tryd.f103, Tryd.f104, Tryd.f105, Tryd.f106, Tryd.f107, Tryd.f108, Tryd.f109, Tryd.f110, Tryd.f111, Tryd.f112, Tryd.f113, Tryd.f114, Tryd.f115, Tryd.f116, Tryd.f117, Tryd.f118, Tryd.f119, Tryd.f120, Tryd.f121, Tryd.f122, Tryd.f123, Tryd.f124, Tryd.f125, Tryd.f126, Tryd.f127, Tryd.f128, Tryd.f129, Tryd.f130, Tryd.f131, Tryd.f132, Tryd.f133, Tryd.f134, Tryd.f135, Tryd.f136, Tryd.f137, Tryd.f138, Tryd.f139, Tryd.f140, Tryd.f141, Tryd.f142, Tryd.f143, Tryd.f144, Tryd.f145, Tryd.f146, Tryd.f147, Tryd.f148, Tryd.f149, Tryd.f150, Tryd.f151, Tryd.f152, Tryd.f153, Tryd.f154, Tryd.f155, Tryd.f156, Tryd.f157, Tryd.f158, Tryd.f159, Tryd.f160, Tryd.f161, Tryd.f162, Tryd.f163, Tryd.f164, Tryd.f165]
noncomputable def fnT : T Func := (.node (.node (.node (.node (.node (.node (.node (.node .nil (some Tryd.f127) .nil) (some Tryd.f63) .nil) (some Tryd.f31) (.node (.node .nil (some Tryd.f159) .nil) (some Tryd.f95) .nil)) (some Tryd.f15) (.node (.node (.node .nil (some Tryd.f143) .nil) (some Tryd.f79) .nil) (some Tryd.f47) (.node .nil (some Tryd.f111) .nil))) (some Tryd.f7) (.node (.node (.node (.node .nil (some Tryd.f135) .nil) (some Tryd.f71) .nil) (some Tryd.f39) (.node .nil (some Tryd.f103) .nil)) (some Tryd.f23) (.node (.node (.node .nil (some Tryd.f151) .nil) (some Tryd.f87) .nil) (some Tryd.f55) (.node .nil (some Tryd.f119) .nil)))) (some Tryd.f3) (.node (.node (.node (.node (.node .nil (some Tryd.f131) .nil) (some Tryd.f67) .nil) (some Tryd.f35) (.node (.node .nil (some Tryd.f163) .nil) (some Tryd.f99) .nil)) (some Tryd.f19) (.node (.node (.node .nil (some Tryd.f147) .nil) (some Tryd.f83) .nil) (some Tryd.f51) (.node .nil (some Tryd.f115) .nil))) (some Tryd.f11) (.node (.node (.node (.node .nil (some Tryd.f139) .nil) (some Tryd.f75) .nil) (some Tryd.f43) (.node .nil (some Tryd.f107) .nil)) (some Tryd.f27) (.node (.node (.node .nil (some Tryd.f155) .nil) (some Tryd.f91) .nil) (some Tryd.f59) (.node .nil (some Tryd.f123) .nil))))) (some Tryd.f1) (.node (.node (.node (.node (.node (.node .nil (some Tryd.f129) .nil) (some Tryd.f65) .nil) (some Tryd.f33) (.node (.node .nil (some Tryd.f161) .nil) (some Tryd.f97) .nil)) (some Tryd.f17) (.node (.node (.node .nil (some Tryd.f145) .nil) (some Tryd.f81) .nil) (some Tryd.f49) (.node .nil (some Tryd.f113) .nil))) (some Tryd.f9) (.node (.node (.node (.node .nil (some Tryd.f137) .nil) (some Tryd.f73) .nil) (some Tryd.f41) (.node .nil (some Tryd.f105) .nil)) (some Tryd.f25) (.node (.node (.node .nil (some Tryd.f153) .nil) (some Tryd.f89) .nil) (some Tryd.f57) (.node .nil (some Tryd.f121) .nil)))) (some Tryd.f5) (.node (.node (.node (.node (.node .nil (some Tryd.f133) .nil) (some Tryd.f69) .nil) (some Tryd.f37) (.node (.node .nil (some Tryd.f165) .nil) (some Tryd.f101) .nil)) (some Tryd.f21) (.node (.node (.node .nil (some Tryd.f149) .nil) (some Tryd.f85) .nil) (some Tryd.f53) (.node .nil (some Tryd.f117) .nil))) (some Tryd.f13) (.node (.node (.node (.node .nil (some Tryd.f141) .nil) (some Tryd.f77) .nil) (some Tryd.f45) (.node .nil (some Tryd.f109) .nil)) (some Tryd.f29) (.node (.node (.node .nil (some Tryd.f157) .nil) (some Tryd.f93) .nil) (some Tryd.f61) (.node .nil (some Tryd.f125) .nil)))))) (some Tryd.f0) (.node (.node (.node (.node (.node (.node (.node .nil (some Tryd.f128) .nil) (some Tryd.f64) .nil) (some Tryd.f32) (.node (.node .nil (some Tryd.f160) .nil) (some Tryd.f96) .nil)) (some Tryd.f16) (.node (.node (.node .nil (some Tryd.f144) .nil) (some Tryd.f80) .nil) (some Tryd.f48) (.node .nil (some Tryd.f112) .nil))) (some Tryd.f8) (.node (.node (.node (.node .nil (some Tryd.f136) .nil) (some Tryd.f72) .nil) (some Tryd.f40) (.node .nil (some Tryd.f104) .nil)) (some Tryd.f24) (.node (.node (.node .nil (some Tryd.f152) .nil) (some Tryd.f88) .nil) (some Tryd.f56) (.node .nil (some Tryd.f120) .nil)))) (some Tryd.f4) (.node (.node (.node (.node (.node .nil (some Tryd.f132) .nil) (some Tryd.f68) .nil) (some Tryd.f36) (.node (.node .nil (some Tryd.f164) .nil) (some Tryd.f100) .nil)) (some Tryd.f20) (.node (.node (.node .nil (some Tryd.f148) .nil) (some Tryd.f84) .nil) (some Tryd.f52) (.node .nil (some Tryd.f116) .nil))) (some Tryd.f12) (.node (.node (.node (.node .nil (some Tryd.f140) .nil) (some Tryd.f76) .nil) (some Tryd.f44) (.node .nil (some Tryd.f108) .nil)) (some Tryd.f28) (.node (.node (.node .nil (some Tryd.f156) .nil) (some Tryd.f92) .nil) (some Tryd.f60) (.node .nil (some Tryd.f124) .nil))))) (some Tryd.f2) (.node (.node (.node (.node (.node (.node .nil (some Tryd.f130) .nil) (some Tryd.f66) .nil) (some Tryd.f34) (.node (.node .nil (some Tryd.f162) .nil) (some Tryd.f98) .nil)) (some Tryd.f18) (.node (.node (.node .nil (some Tryd.f146) .nil) (some Tryd.f82) .nil) (some Tryd.f50) (.node .nil (some Tryd.f114) .nil))) (some Tryd.f10) (.node (.node (.node (.node .nil (some Tryd.f138) .nil) (some Tryd.f74) .nil) (some Tryd.f42) (.node .nil (some Tryd.f106) .nil)) (some Tryd.f26) (.node (.node (.node .nil (some Tryd.f154) .nil) (some Tryd.f90) .nil) (some Tryd.f58) (.node .nil (some Tryd.f122) .nil)))) (some Tryd.f6) (.node (.node (.node (.node (.node .nil (some Tryd.f134) .nil) (some Tryd.f70) .nil) (some Tryd.f38) (.node .nil (some Tryd.f102) .nil)) (some Tryd.f22) (.node (.node (.node .nil (some Tryd.f150) .nil) (some Tryd.f86) .nil) (some Tryd.f54) (.node .nil (some Tryd.f118) .nil))) (some Tryd.f14) (.node (.node (.node (.node .nil (some Tryd.f142) .nil) (some Tryd.f78) .nil) (some Tryd.f46) (.node .nil (some Tryd.f110) .nil)) (some Tryd.f30) (.node (.node (.node .nil (some Tryd.f158) .nil) (some Tryd.f94) .nil) (some Tryd.f62) (.node .nil (some Tryd.f126) .nil)))))))
noncomputable def tab : Tab := ⟨tyT, fnT⟩
theorem tyL_is : (List.range 204).map (tiOf Tryd.prog) = tyL := by kernel_rfl
theorem tyT_is : T.ofOpts tyL 0 .nil = tyT := by kernel_rfl
theorem fnL_is : Tryd.prog.funcs.toList = fnL := by kernel_rfl
theorem fnT_is : T.ofList fnL 0 .nil = fnT := by kernel_rfl
theorem tab_of : tab.Of Tryd.prog := Tab.of_lists 204 tyL_is tyT_is fnL_is fnT_is
end Go.Proofs.YtofijpbmbmbnhaaDoor
/- The program's copyCheck, walked; what is known of the program's library functions; the examples of the chapter, reckoned by the kernel. -/
set_option maxRecDepth 100000
set_option maxHeartbeats 1000000
namespace Go.Proofs.YtofijpbmbmbnhaaDoor
open Go Go.Hs Go.Proofs
theorem inf106 : ∃ j, Tryd.prog.info? 106 = some j ∧ j.size = 2 :=
  Option.map_eq_some_iff.1 (show (Tryd.prog.info? 106).map (·.size) = some 2 by kernel_rfl)
theorem cc_used (b : Nat) (w : World) (h0 : w.cell? ⟨b, 0, none⟩ = some (.pointer (some ⟨b, 0, none⟩))) :
    Calls Tryd.prog 123 #[.pointer (some ⟨b, 0, none⟩)] w fun e w' => e = .returned (.tuple #[]) ∧ w' = w := by
  obtain ⟨j, hj, _⟩ := inf106
  have t104 : Tryd.prog.underlying 104 = some (.pointer 106) := by kernel_rfl
  go_enter Tryd.func123, Tryd.ntmps123
  go_wp2
  rw [Lib.run_neq_ptr_same w _ t104 hj]
  go_wp2
  go_end0
  exact ⟨rfl, rfl⟩
theorem cc_fresh (b : Nat) (w : World) (h0 : w.cell? ⟨b, 0, none⟩ = some (.pointer none)) (hsh : w.shape? b = some (106, 2)) (hfz : w.frozen? ⟨b, 0, none⟩ = false) :
    Calls Tryd.prog 123 #[.pointer (some ⟨b, 0, none⟩)] w fun e w' => e = .returned (.tuple #[]) ∧ w' = w.setCell ⟨b, 0, none⟩ (.pointer (some ⟨b, 0, none⟩)) := by
  obtain ⟨j, hj, hjs⟩ := inf106
  have t104 : Tryd.prog.underlying 104 = some (.pointer 106) := by kernel_rfl
  have t177 : Tryd.prog.underlying 177 = some .unsafePointer := by kernel_rfl
  go_enter Tryd.func123, Tryd.ntmps123
  go_wp2
  rw [Lib.run_to_unsafe w ⟨b, 0, none⟩ t104 t177 hj (by rw [hjs]; decide) hsh (Nat.zero_lt_succ 1)]
  simp only [Result.andThen]
  rw [Oper.upon_value]
  go_wp2
  rw [run_callFunc_extern Tryd.func128 (by kernel_rfl) (by kernel_rfl) (by kernel_rfl) (e := Extern.AbiNoEscape.same) (by kernel_rfl)]
  rw [Lib.run_noEscape]
  simp only [Result.andThen]
  rw [Oper.upon_value]
  go_wp2
  rw [Lib.run_from_unsafe w ⟨b, 0, none⟩ t177 t104 hj hsh (by kernel_rfl)]
  simp only [Result.andThen]
  rw [Oper.upon_value]
  go_wp2
  go_end0
  exact ⟨rfl, rfl⟩
theorem cc : CopyCheck Tryd.prog 123 106 := ⟨⟨_, Tryd.func123, by kernel_rfl⟩, cc_used, cc_fresh⟩
theorem noNum : NoNum Tryd.prog := by
  intro f fn hf
  have h1 : Tryd.prog.funcs.all (fun fn => !(fn.name == "runtime.NumGoroutine")) = true := by kernel_rfl
  rw [Array.all_eq_true_iff_forall_mem] at h1
  simpa using h1 fn (Array.mem_of_getElem? hf)
noncomputable def E0 : Env := fun b o => match Nat.beq b 1 && Nat.beq o 2 with
  | true => some (.int .u64 100)
  | false => none
noncomputable def I0 : Known := fun f args h => match Nat.beq f 123 with
  | true => some (kCheck 106 args h)
  | false => match Nat.beq f 130 with
    | true => some (kCmp args h)
    | false => none
theorem known0 (E : Env) (n0 : Nat) : KnownGood Tryd.prog tab E n0 I0 := by
  have key : ∀ {f args h r h'}, I0 f args h = some (some (r, h')) → (f = 123 ∧ kCheck 106 args h = some (r, h')) ∨ (f = 130 ∧ kCmp args h = some (r, h')) := by
    intro f args h r h' hi
    unfold I0 at hi
    split at hi
    · next e => exact .inl ⟨Nat.eq_of_beq_eq_true e, Option.some.inj hi⟩
    · split at hi
      · next e => exact .inr ⟨Nat.eq_of_beq_eq_true e, Option.some.inj hi⟩
      · cases hi
  refine ⟨?_, ?_, ?_⟩
  · intro f args h r h' hi φ w R hok
    rcases key hi with ⟨rfl, hk⟩ | ⟨rfl, hk⟩
    · exact kCheck_sim noNum cc (by decide) hk R hok
    · exact kCmp_sim Tryd.func130 (by kernel_rfl) (by kernel_rfl) (by kernel_rfl) (by kernel_rfl) hk R
  · intro f args h r h' hi o
    rcases key hi with ⟨rfl, hk⟩ | ⟨rfl, hk⟩
    · exact kCheck_lg hk o
    · rw [kCmp_same hk]; exact Lg.refl o
  · intro f args h r h' hi
    rcases key hi with ⟨rfl, hk⟩ | ⟨rfl, hk⟩
    · unfold kCheck at hk
      repeat' split at hk
      all_goals first
        | (cases hk; done)
        | (cases hk; exact Nat.le_refl _)
        | (obtain ⟨h1, hput, he⟩ := Option.map_eq_some_iff.1 hk; cases he; exact Nat.le_of_eq (put_next hput).symm)
    · rw [kCmp_same hk]; exact Nat.le_refl _
end Go.Proofs.YtofijpbmbmbnhaaDoor
/- The examples of the chapter, reckoned by the kernel. -/
set_option maxRecDepth 100000
namespace Go.Proofs.YtofijpbmbmbnhaaDoor
open Go Go.Hs Go.Proofs
theorem awake_ev : ((ev tab E0 I0 3000).call 11 [] H.empty).map (·.1) = some (.bool true) := by kernel_rfl
theorem awake_sim {E : Env} (hE : ∀ b o v, E0 b o = some v → E b o = some v) {n0 : Nat} {φ : Ph} {h : H} {w : World} (R : Tie tab E n0 All φ h w) : Sim Tryd.prog tab E n0 (callFunc 11 (([] : List Value).map (ren φ)).toArray) φ h w (.bool true) h := by
  obtain ⟨⟨v, h0⟩, h1, h2⟩ := Option.map_eq_some_iff.1 awake_ev
  simp only at h2
  subst h2
  exact closed_sim tab_of noNum (fun n0 => known0 E0 n0) hE h1 rfl (by simp) R
end Go.Proofs.YtofijpbmbmbnhaaDoor
/- Facts on types, printed by wip/tools/tyl.py. -/
set_option maxRecDepth 100000
namespace Go.Proofs.YtofijpbmbmbnhaaDoor
open Go Go.Hs Go.Proofs
variable {E : Env}
theorem qty3 : tab.ty.get 3 = some ⟨.int .i64, 1, 8, some (.int .i64 0), true⟩ := by kernel_rfl
theorem qtz3 : tzero tab 3 = some (.int .i64 0) := by unfold tzero; rw [qty3]
theorem qld3 (a : Addr) {h : H} : aload tab E 3 a h = h.cell E a := by unfold aload; rw [qty3]; rfl
theorem qty4 : tab.ty.get 4 = some ⟨.bool, 1, 1, some (.bool false), true⟩ := by kernel_rfl
theorem qld4 (a : Addr) {h : H} : aload tab E 4 a h = h.cell E a := by unfold aload; rw [qty4]; rfl
theorem qty5 : tab.ty.get 5 = some ⟨.int .u8, 1, 1, some (.int .u8 0), true⟩ := by kernel_rfl
theorem qld5 (a : Addr) {h : H} : aload tab E 5 a h = h.cell E a := by unfold aload; rw [qty5]; rfl
theorem qty9 : tab.ty.get 9 = some ⟨.string, 1, 16, some (.string ⟨#[]⟩), true⟩ := by kernel_rfl
theorem qld9 (a : Addr) {h : H} : aload tab E 9 a h = h.cell E a := by unfold aload; rw [qty9]; rfl
theorem qlen9 {h : H} (s : ByteArray) : alen tab 9 (.string s) h = some (.int .i64 (s.data.toList.length : Nat)) := by unfold alen; rw [qty9]
theorem qty23 : tab.ty.get 23 = some ⟨.slice 25 4 56, 1, 24, some (.slice none 0 0), true⟩ := by kernel_rfl
theorem qld23 (a : Addr) {h : H} : aload tab E 23 a h = h.cell E a := by unfold aload; rw [qty23]; rfl
theorem qlen23 {h : H} (b : Option Addr) (n c : Nat) : alen tab 23 (.slice b n c) h = some (.int .i64 n) := by unfold alen; rw [qty23]
theorem qia23 (a : Addr) (n c : Nat) (i : Int) (hi : inRange i n = true) : aindexAddr tab 23 (.slice (some a) n c) (.int .i64 i) = some (.pointer (some (aadd a (i.toNat * 4)))) := by unfold aindexAddr; simp only [qty23, hi]
theorem qty25 : tab.ty.get 25 = some ⟨.struct [(0, 3, 1), (1, 3, 1), (2, 9, 1), (3, 23, 1)], 4, 56, some (.agg #[.int .i64 0, .int .i64 0, .string ⟨#[]⟩, .slice none 0 0]), true⟩ := by kernel_rfl
theorem qtz25 : tzero tab 25 = some (.agg #[.int .i64 0, .int .i64 0, .string ⟨#[]⟩, .slice none 0 0]) := by unfold tzero; rw [qty25]
theorem qld25 (a : Addr) {h : H} : aload tab E 25 a h = match h.cells E a 4 with | some cs => some (.agg ⟨cs⟩) | none => none := by unfold aload; rw [qty25]; rfl
theorem qfa25_0 (a : Addr) : afieldAddr tab 25 (.pointer (some a)) 0 = some (.pointer (some (aadd a 0))) := by unfold afieldAddr; rw [qty25]; rfl
theorem qfa25_1 (a : Addr) : afieldAddr tab 25 (.pointer (some a)) 1 = some (.pointer (some (aadd a 1))) := by unfold afieldAddr; rw [qty25]; rfl
theorem qfa25_2 (a : Addr) : afieldAddr tab 25 (.pointer (some a)) 2 = some (.pointer (some (aadd a 2))) := by unfold afieldAddr; rw [qty25]; rfl
theorem qfa25_3 (a : Addr) : afieldAddr tab 25 (.pointer (some a)) 3 = some (.pointer (some (aadd a 3))) := by unfold afieldAddr; rw [qty25]; rfl
theorem qty26 : tab.ty.get 26 = some ⟨.int .i64, 1, 8, some (.int .i64 0), true⟩ := by kernel_rfl
theorem qld26 (a : Addr) {h : H} : aload tab E 26 a h = h.cell E a := by unfold aload; rw [qty26]; rfl
theorem qty31 : tab.ty.get 31 = some ⟨.slice 5 1 1, 1, 24, some (.slice none 0 0), true⟩ := by kernel_rfl
theorem qld31 (a : Addr) {h : H} : aload tab E 31 a h = h.cell E a := by unfold aload; rw [qty31]; rfl
theorem qlen31 {h : H} (b : Option Addr) (n c : Nat) : alen tab 31 (.slice b n c) h = some (.int .i64 n) := by unfold alen; rw [qty31]
theorem qty53 : tab.ty.get 53 = some ⟨.slice 3 1 8, 1, 24, some (.slice none 0 0), true⟩ := by kernel_rfl
theorem qtz53 : tzero tab 53 = some (.slice none 0 0) := by unfold tzero; rw [qty53]
theorem qld53 (a : Addr) {h : H} : aload tab E 53 a h = h.cell E a := by unfold aload; rw [qty53]; rfl
theorem qlen53 {h : H} (b : Option Addr) (n c : Nat) : alen tab 53 (.slice b n c) h = some (.int .i64 n) := by unfold alen; rw [qty53]
theorem qia53 (a : Addr) (n c : Nat) (i : Int) (hi : inRange i n = true) : aindexAddr tab 53 (.slice (some a) n c) (.int .i64 i) = some (.pointer (some (aadd a (i.toNat * 1)))) := by unfold aindexAddr; simp only [qty53, hi]
theorem qty84 : tab.ty.get 84 = some ⟨.struct [(0, 9, 1), (1, 3, 1), (2, 26, 1)], 3, 32, some (.agg #[.string ⟨#[]⟩, .int .i64 0, .int .i64 0]), true⟩ := by kernel_rfl
theorem qld84 (a : Addr) {h : H} : aload tab E 84 a h = match h.cells E a 3 with | some cs => some (.agg ⟨cs⟩) | none => none := by unfold aload; rw [qty84]; rfl
theorem qfa84_0 (a : Addr) : afieldAddr tab 84 (.pointer (some a)) 0 = some (.pointer (some (aadd a 0))) := by unfold afieldAddr; rw [qty84]; rfl
theorem qfa84_1 (a : Addr) : afieldAddr tab 84 (.pointer (some a)) 1 = some (.pointer (some (aadd a 1))) := by unfold afieldAddr; rw [qty84]; rfl
theorem qfa84_2 (a : Addr) : afieldAddr tab 84 (.pointer (some a)) 2 = some (.pointer (some (aadd a 2))) := by unfold afieldAddr; rw [qty84]; rfl
theorem qty86 : tab.ty.get 86 = some ⟨.struct [(0, 84, 3), (3, 3, 1)], 4, 40, some (.agg #[.string ⟨#[]⟩, .int .i64 0, .int .i64 0, .int .i64 0]), true⟩ := by kernel_rfl
theorem qld86 (a : Addr) {h : H} : aload tab E 86 a h = match h.cells E a 4 with | some cs => some (.agg ⟨cs⟩) | none => none := by unfold aload; rw [qty86]; rfl
theorem qfa86_0 (a : Addr) : afieldAddr tab 86 (.pointer (some a)) 0 = some (.pointer (some (aadd a 0))) := by unfold afieldAddr; rw [qty86]; rfl
theorem qfa86_1 (a : Addr) : afieldAddr tab 86 (.pointer (some a)) 1 = some (.pointer (some (aadd a 3))) := by unfold afieldAddr; rw [qty86]; rfl
theorem qty91 : tab.ty.get 91 = some ⟨.struct [(0, 31, 1), (1, 3, 1), (2, 3, 1), (3, 3, 1), (4, 26, 1)], 5, 56, some (.agg #[.slice none 0 0, .int .i64 0, .int .i64 0, .int .i64 0, .int .i64 0]), true⟩ := by kernel_rfl
theorem qld91 (a : Addr) {h : H} : aload tab E 91 a h = match h.cells E a 5 with | some cs => some (.agg ⟨cs⟩) | none => none := by unfold aload; rw [qty91]; rfl
theorem qfa91_0 (a : Addr) : afieldAddr tab 91 (.pointer (some a)) 0 = some (.pointer (some (aadd a 0))) := by unfold afieldAddr; rw [qty91]; rfl
theorem qfa91_1 (a : Addr) : afieldAddr tab 91 (.pointer (some a)) 1 = some (.pointer (some (aadd a 1))) := by unfold afieldAddr; rw [qty91]; rfl
theorem qfa91_2 (a : Addr) : afieldAddr tab 91 (.pointer (some a)) 2 = some (.pointer (some (aadd a 2))) := by unfold afieldAddr; rw [qty91]; rfl
theorem qfa91_3 (a : Addr) : afieldAddr tab 91 (.pointer (some a)) 3 = some (.pointer (some (aadd a 3))) := by unfold afieldAddr; rw [qty91]; rfl
theorem qfa91_4 (a : Addr) : afieldAddr tab 91 (.pointer (some a)) 4 = some (.pointer (some (aadd a 4))) := by unfold afieldAddr; rw [qty91]; rfl
theorem qty139 : tab.ty.get 139 = some ⟨.func, 1, 8, some (.nilFunc), true⟩ := by kernel_rfl
theorem qld139 (a : Addr) {h : H} : aload tab E 139 a h = h.cell E a := by unfold aload; rw [qty139]; rfl
theorem qty141 : tab.ty.get 141 = some ⟨.struct [(0, 5, 1), (1, 139, 1)], 2, 16, some (.agg #[.int .u8 0, .nilFunc]), true⟩ := by kernel_rfl
theorem qld141 (a : Addr) {h : H} : aload tab E 141 a h = match h.cells E a 2 with | some cs => some (.agg ⟨cs⟩) | none => none := by unfold aload; rw [qty141]; rfl
theorem qfa141_0 (a : Addr) : afieldAddr tab 141 (.pointer (some a)) 0 = some (.pointer (some (aadd a 0))) := by unfold afieldAddr; rw [qty141]; rfl
theorem qfa141_1 (a : Addr) : afieldAddr tab 141 (.pointer (some a)) 1 = some (.pointer (some (aadd a 1))) := by unfold afieldAddr; rw [qty141]; rfl
theorem qty142 : tab.ty.get 142 = some ⟨.array 3 141 2, 6, 48, some (.agg #[.int .u8 0, .nilFunc, .int .u8 0, .nilFunc, .int .u8 0, .nilFunc]), true⟩ := by kernel_rfl
theorem qld142 (a : Addr) {h : H} : aload tab E 142 a h = match h.cells E a 6 with | some cs => some (.agg ⟨cs⟩) | none => none := by unfold aload; rw [qty142]; rfl
theorem Qx : (∀ (E : Env) (a : Addr) (h : H), aload tab E 3 a h = h.cell E a) ∧ (∀ (E : Env) (a : Addr) (h : H), aload tab E 4 a h = h.cell E a) ∧ (∀ (E : Env) (a : Addr) (h : H), aload tab E 5 a h = h.cell E a) ∧ (∀ (E : Env) (a : Addr) (h : H), aload tab E 9 a h = h.cell E a) ∧ (∀ (h : H) (s : ByteArray), alen tab 9 (.string s) h = some (.int .i64 (s.data.toList.length : Nat))) ∧ (∀ (E : Env) (a : Addr) (h : H), aload tab E 23 a h = h.cell E a) ∧ (∀ (h : H) (b : Option Addr) (n c : Nat), alen tab 23 (.slice b n c) h = some (.int .i64 n)) ∧ (∀ (E : Env) (a : Addr) (h : H), aload tab E 25 a h = match h.cells E a 4 with | some cs => some (.agg ⟨cs⟩) | none => none) ∧ (∀ (a : Addr), afieldAddr tab 25 (.pointer (some a)) 0 = some (.pointer (some (aadd a 0)))) ∧ (∀ (a : Addr), afieldAddr tab 25 (.pointer (some a)) 1 = some (.pointer (some (aadd a 1)))) ∧ (∀ (a : Addr), afieldAddr tab 25 (.pointer (some a)) 2 = some (.pointer (some (aadd a 2)))) ∧ (∀ (a : Addr), afieldAddr tab 25 (.pointer (some a)) 3 = some (.pointer (some (aadd a 3)))) ∧ (∀ (E : Env) (a : Addr) (h : H), aload tab E 26 a h = h.cell E a) ∧ (∀ (E : Env) (a : Addr) (h : H), aload tab E 31 a h = h.cell E a) ∧ (∀ (h : H) (b : Option Addr) (n c : Nat), alen tab 31 (.slice b n c) h = some (.int .i64 n)) ∧ (∀ (E : Env) (a : Addr) (h : H), aload tab E 53 a h = h.cell E a) ∧ (∀ (h : H) (b : Option Addr) (n c : Nat), alen tab 53 (.slice b n c) h = some (.int .i64 n)) ∧ (∀ (E : Env) (a : Addr) (h : H), aload tab E 84 a h = match h.cells E a 3 with | some cs => some (.agg ⟨cs⟩) | none => none) ∧ (∀ (a : Addr), afieldAddr tab 84 (.pointer (some a)) 0 = some (.pointer (some (aadd a 0)))) ∧ (∀ (a : Addr), afieldAddr tab 84 (.pointer (some a)) 1 = some (.pointer (some (aadd a 1)))) ∧ (∀ (a : Addr), afieldAddr tab 84 (.pointer (some a)) 2 = some (.pointer (some (aadd a 2)))) ∧ (∀ (E : Env) (a : Addr) (h : H), aload tab E 86 a h = match h.cells E a 4 with | some cs => some (.agg ⟨cs⟩) | none => none) ∧ (∀ (a : Addr), afieldAddr tab 86 (.pointer (some a)) 0 = some (.pointer (some (aadd a 0)))) ∧ (∀ (a : Addr), afieldAddr tab 86 (.pointer (some a)) 1 = some (.pointer (some (aadd a 3)))) ∧ (∀ (E : Env) (a : Addr) (h : H), aload tab E 91 a h = match h.cells E a 5 with | some cs => some (.agg ⟨cs⟩) | none => none) ∧ (∀ (a : Addr), afieldAddr tab 91 (.pointer (some a)) 0 = some (.pointer (some (aadd a 0)))) ∧ (∀ (a : Addr), afieldAddr tab 91 (.pointer (some a)) 1 = some (.pointer (some (aadd a 1)))) ∧ (∀ (a : Addr), afieldAddr tab 91 (.pointer (some a)) 2 = some (.pointer (some (aadd a 2)))) ∧ (∀ (a : Addr), afieldAddr tab 91 (.pointer (some a)) 3 = some (.pointer (some (aadd a 3)))) ∧ (∀ (a : Addr), afieldAddr tab 91 (.pointer (some a)) 4 = some (.pointer (some (aadd a 4)))) ∧ (∀ (E : Env) (a : Addr) (h : H), aload tab E 139 a h = h.cell E a) ∧ (∀ (E : Env) (a : Addr) (h : H), aload tab E 141 a h = match h.cells E a 2 with | some cs => some (.agg ⟨cs⟩) | none => none) ∧ (∀ (a : Addr), afieldAddr tab 141 (.pointer (some a)) 0 = some (.pointer (some (aadd a 0)))) ∧ (∀ (a : Addr), afieldAddr tab 141 (.pointer (some a)) 1 = some (.pointer (some (aadd a 1)))) ∧ (∀ (E : Env) (a : Addr) (h : H), aload tab E 142 a h = match h.cells E a 6 with | some cs => some (.agg ⟨cs⟩) | none => none) :=
  ⟨fun E a h => by first | exact qld3 _ | exact qld3 _ _ _, fun E a h => by first | exact qld4 _ | exact qld4 _ _ _, fun E a h => by first | exact qld5 _ | exact qld5 _ _ _, fun E a h => by first | exact qld9 _ | exact qld9 _ _ _, fun h s => by first | exact qlen9 _ | exact qlen9 _ _ _, fun E a h => by first | exact qld23 _ | exact qld23 _ _ _, fun h b n c => by first | exact qlen23 _ | exact qlen23 _ _ _, fun E a h => by first | exact qld25 _ | exact qld25 _ _ _, fun a => by first | exact qfa25_0 _ | exact qfa25_0 _ _ _, fun a => by first | exact qfa25_1 _ | exact qfa25_1 _ _ _, fun a => by first | exact qfa25_2 _ | exact qfa25_2 _ _ _, fun a => by first | exact qfa25_3 _ | exact qfa25_3 _ _ _, fun E a h => by first | exact qld26 _ | exact qld26 _ _ _, fun E a h => by first | exact qld31 _ | exact qld31 _ _ _, fun h b n c => by first | exact qlen31 _ | exact qlen31 _ _ _, fun E a h => by first | exact qld53 _ | exact qld53 _ _ _, fun h b n c => by first | exact qlen53 _ | exact qlen53 _ _ _, fun E a h => by first | exact qld84 _ | exact qld84 _ _ _, fun a => by first | exact qfa84_0 _ | exact qfa84_0 _ _ _, fun a => by first | exact qfa84_1 _ | exact qfa84_1 _ _ _, fun a => by first | exact qfa84_2 _ | exact qfa84_2 _ _ _, fun E a h => by first | exact qld86 _ | exact qld86 _ _ _, fun a => by first | exact qfa86_0 _ | exact qfa86_0 _ _ _, fun a => by first | exact qfa86_1 _ | exact qfa86_1 _ _ _, fun E a h => by first | exact qld91 _ | exact qld91 _ _ _, fun a => by first | exact qfa91_0 _ | exact qfa91_0 _ _ _, fun a => by first | exact qfa91_1 _ | exact qfa91_1 _ _ _, fun a => by first | exact qfa91_2 _ | exact qfa91_2 _ _ _, fun a => by first | exact qfa91_3 _ | exact qfa91_3 _ _ _, fun a => by first | exact qfa91_4 _ | exact qfa91_4 _ _ _, fun E a h => by first | exact qld139 _ | exact qld139 _ _ _, fun E a h => by first | exact qld141 _ | exact qld141 _ _ _, fun a => by first | exact qfa141_0 _ | exact qfa141_0 _ _ _, fun a => by first | exact qfa141_1 _ | exact qfa141_1 _ _ _, fun E a h => by first | exact qld142 _ | exact qld142 _ _ _⟩
end Go.Proofs.YtofijpbmbmbnhaaDoor
/- Facts on types, printed by wip/tools/tyl.py. -/
set_option maxRecDepth 100000
namespace Go.Proofs.YtofijpbmbmbnhaaDoor
open Go Go.Hs Go.Proofs
variable {E : Env}
theorem qty122 : tab.ty.get 122 = some ⟨.pointer 25, 1, 8, some (.pointer none), true⟩ := by kernel_rfl
theorem qtz122 : tzero tab 122 = some (.pointer none) := by unfold tzero; rw [qty122]
theorem qld122 (a : Addr) {h : H} : aload tab E 122 a h = h.cell E a := by unfold aload; rw [qty122]; rfl
theorem qty96 : tab.ty.get 96 = some ⟨.func, 1, 8, some (.nilFunc), true⟩ := by kernel_rfl
theorem qld96 (a : Addr) {h : H} : aload tab E 96 a h = h.cell E a := by unfold aload; rw [qty96]; rfl
theorem qty68 : tab.ty.get 68 = some ⟨.slice 53 1 24, 1, 24, some (.slice none 0 0), true⟩ := by kernel_rfl
theorem qtz68 : tzero tab 68 = some (.slice none 0 0) := by unfold tzero; rw [qty68]
theorem qld68 (a : Addr) {h : H} : aload tab E 68 a h = h.cell E a := by unfold aload; rw [qty68]; rfl
theorem qlen68 {h : H} (b : Option Addr) (n c : Nat) : alen tab 68 (.slice b n c) h = some (.int .i64 n) := by unfold alen; rw [qty68]
theorem qia68 (a : Addr) (n c : Nat) (i : Int) (hi : inRange i n = true) : aindexAddr tab 68 (.slice (some a) n c) (.int .i64 i) = some (.pointer (some (aadd a (i.toNat * 1)))) := by unfold aindexAddr; simp only [qty68, hi]
theorem Qy : (∀ (E : Env) (a : Addr) (h : H), aload tab E 122 a h = h.cell E a) ∧ (∀ (E : Env) (a : Addr) (h : H), aload tab E 96 a h = h.cell E a) ∧ (∀ (E : Env) (a : Addr) (h : H), aload tab E 68 a h = h.cell E a) ∧ (∀ (h : H) (b : Option Addr) (n c : Nat), alen tab 68 (.slice b n c) h = some (.int .i64 n)) :=
  ⟨fun E a h => by first | exact qld122 _ | exact qld122 _ _ _, fun E a h => by first | exact qld96 _ | exact qld96 _ _ _, fun E a h => by first | exact qld68 _ | exact qld68 _ _ _, fun h b n c => by first | exact qlen68 _ | exact qlen68 _ _ _⟩
end Go.Proofs.YtofijpbmbmbnhaaDoor
/- Put: the closure that goes one step down. -/
set_option maxRecDepth 100000
set_option maxHeartbeats 16000000
namespace Go.Proofs.YtofijpbmbmbnhaaDoor
open Go Go.Hs Go.Proofs
variable {E : Env} {I : Known}
theorem fn76 : tab.fn.get 76 = some Tryd.f76 := by kernel_rfl
theorem step76 (hI : ∀ args h, I 76 args h = none) {g : H} {kp kc o n c i kc2 : Nat} {xs : List Value} {ro : Option (Nat × Nat)} {x0 x1 x2 : Value} (f : Fit g) (hp : g.blk kp = some (.cells [.pointer (some (aadd (own kc) o))] 122 none)) (hb : g.blk kc = some (.cells xs 25 ro)) (hx : (xs.drop o).take 4 = [x0, x1, x2, .slice (some (own kc2)) n c]) (hi : i < n) (hn : n ≤ 1000000) (hm : g.mark ≤ kp) :
    ∃ k x g', (ev tab E I k).call 76 [.int .i64 (i : Nat), .pointer (some (own kp))] g = some (x, g') ∧ (x = .bool true ∧ g' = g.setl kp (.cells [.pointer (some (aadd (own kc2) (i * 4)))] 122 none)) := by
  have c0 : g.cell E (own kp) = some (.pointer (some (aadd (own kc) o))) := cell_blk0 (E := E) hp
  have h3 : xs[o + 3]? = some (.slice (some (own kc2)) n c) := by
    have : ((xs.drop o).take 4)[3]? = some (.slice (some (own kc2)) n c) := by rw [hx]; rfl
    rw [List.getElem?_take, if_pos (by omega), List.getElem?_drop] at this
    exact this
  have e1 : decide ((i : Int) < 0) = false := decide_eq_false (by omega)
  have e2 : decide ((i : Int) ≥ (n : Int)) = false := decide_eq_false (by omega)
  have hir : inRange (i : Int) n = true := by
    show Nat.blt i n = true
    rw [Nat.blt_eq]; exact hi
  have l3 : g.cell E (aadd (aadd (own kc) o) 3) = some (.slice (some (own kc2)) n c) := by
    have := cell_blk (E := E) hb (o + 3)
    rw [h3] at this
    exact this
  have s1 : astore tab 122 (own kp) (.pointer (some (aadd (own kc2) (i * 4)))) g = some (g.setl kp (.cells [.pointer (some (aadd (own kc2) (i * 4)))] 122 none)) := astore_one (o := 0) qty122 rfl hp rfl rfl (by simp) rfl
  refine Wc.call (hI _ _) fn76 rfl ?_
  generalize hA0 : (⟨T.ofList [.int .i64 (i : Nat), .pointer (some (own kp))] 0 .nil, max ([.int .i64 (i : Nat), .pointer (some (own kp))] : List Value).length Tryd.f76.ntmps, []⟩ : Ac) = A0
  have n0 : A0.n = 21 := by rw [← hA0]; rfl
  have q0 : A0.get 0 = .int .i64 (i : Nat) := by rw [← hA0]; rfl
  have q1 : A0.get 1 = .pointer (some (own kp)) := by rw [← hA0]; rfl
  have d0 : A0.defers = [] := by rw [← hA0]
  clear hA0
  (repeat' (with_reducible apply Wc.seq)); (apply Wc.opsN 1; (focus ((repeat' (first | with_reducible exact RO.nil | ((with_reducible apply RO.run (awant_none rfl)); (focus ((first | simp +decide only [awant, ayield_get, oper1, aop, opv, opvs, opvo, opvp, abuiltin, aun, Gx, abin, isShift, aint, roV, pair, bind, Option.bind, acall, Sx, n0] | skip); with_reducible rfl))) | ((with_reducible apply RO.runG); (focus rfl); (focus rfl); (focus (simp +decide only [Gx, Sx, decide_true, decide_false, n0]; done)); (focus ((first | simp +decide only [awant, ayield_get, oper1, aop, opv, opvs, opvo, opvp, abuiltin, aun, Gx, abin, isShift, aint, roV, pair, bind, Option.bind, acall, Sx, n0] | skip); with_reducible rfl))) | ((with_reducible apply RO.skipG); (focus rfl); (focus rfl); (focus (simp +decide only [Gx, Sx, decide_true, decide_false, n0]; done))))); done)))
  (repeat' (with_reducible apply Wc.seq)); (apply Wc.opsN 1; (focus ((repeat' (first | with_reducible exact RO.nil | ((with_reducible apply RO.run (awant_none rfl)); (focus ((first | simp +decide only [awant, ayield_get, oper1, aop, opv, opvs, opvo, opvp, abuiltin, aun, Gx, abin, isShift, aint, roV, pair, bind, Option.bind, acall, Sx, n0, q0, q1, e1, Qx, Qy, c0, l3, e2] | skip); with_reducible rfl))) | ((with_reducible apply RO.runG); (focus rfl); (focus rfl); (focus (simp +decide only [Gx, Sx, decide_true, decide_false, n0, q0, q1, e1, Qx, Qy, c0, l3, e2]; done)); (focus ((first | simp +decide only [awant, ayield_get, oper1, aop, opv, opvs, opvo, opvp, abuiltin, aun, Gx, abin, isShift, aint, roV, pair, bind, Option.bind, acall, Sx, n0, q0, q1, e1, Qx, Qy, c0, l3, e2] | skip); with_reducible rfl))) | ((with_reducible apply RO.skipG); (focus rfl); (focus rfl); (focus (simp +decide only [Gx, Sx, decide_true, decide_false, n0, q0, q1, e1, Qx, Qy, c0, l3, e2]; done))))); done)))
  repeat' (first | (with_reducible apply Wc.seq) | (apply Wc.ops; (focus ((repeat' (first | with_reducible exact RO.nil | ((with_reducible apply RO.run (awant_none rfl)); (focus ((first | simp +decide only [awant, ayield_get, oper1, aop, opv, opvs, opvo, opvp, abuiltin, aun, Gx, abin, isShift, aint, roV, pair, bind, Option.bind, acall, Sx, n0] | skip); with_reducible rfl))))); done))) | (refine Wc.cond2 (by simp +decide only [opv, Gx, Sx, n0]; try with_reducible rfl) (fun hb => ?_) (fun hb => ?_) <;> try contradiction) | refine Wc.skip ?_ | refine Wc.ret ?_ | refine Wc.exit ?_ | refine Wc.block ?_)
  (repeat' (with_reducible apply Wc.seq)); (apply Wc.opsN 1; (focus ((repeat' (first | with_reducible exact RO.nil | ((with_reducible apply RO.run (awant_none rfl)); (focus ((first | simp +decide only [awant, ayield_get, oper1, aop, opv, opvs, opvo, opvp, abuiltin, aun, Gx, abin, isShift, aint, roV, pair, bind, Option.bind, acall, Sx, n0, q0, q1, Qx, Qy, c0, l3, qia23 _ _ _ _ hir, Int.toNat_natCast, s1] | skip); with_reducible rfl))) | ((with_reducible apply RO.runG); (focus rfl); (focus rfl); (focus (simp +decide only [Gx, Sx, decide_true, decide_false, n0, q0, q1, Qx, Qy, c0, l3, qia23 _ _ _ _ hir, Int.toNat_natCast, s1]; done)); (focus ((first | simp +decide only [awant, ayield_get, oper1, aop, opv, opvs, opvo, opvp, abuiltin, aun, Gx, abin, isShift, aint, roV, pair, bind, Option.bind, acall, Sx, n0, q0, q1, Qx, Qy, c0, l3, qia23 _ _ _ _ hir, Int.toNat_natCast, s1] | skip); with_reducible rfl))) | ((with_reducible apply RO.skipG); (focus rfl); (focus rfl); (focus (simp +decide only [Gx, Sx, decide_true, decide_false, n0, q0, q1, Qx, Qy, c0, l3, qia23 _ _ _ _ hir, Int.toNat_natCast, s1]; done))))); done)))
  repeat' (first | (with_reducible apply Wc.seq) | (apply Wc.ops; (focus ((repeat' (first | with_reducible exact RO.nil | ((with_reducible apply RO.run (awant_none rfl)); (focus ((first | simp +decide only [awant, ayield_get, oper1, aop, opv, opvs, opvo, opvp, abuiltin, aun, Gx, abin, isShift, aint, roV, pair, bind, Option.bind, acall, Sx, n0] | skip); with_reducible rfl))))); done))) | (refine Wc.cond2 (by simp +decide only [opv, Gx, Sx, n0]; try with_reducible rfl) (fun hb => ?_) (fun hb => ?_) <;> try contradiction) | refine Wc.skip ?_ | refine Wc.ret ?_ | refine Wc.exit ?_ | refine Wc.block ?_)
  exact done_q (v := .bool true) (.inr rfl) (by simp +decide only [Gx, Sx, d0]) rfl (by simp +decide only [Gx, Sx, n0]) ⟨rfl, rfl⟩
end Go.Proofs.YtofijpbmbmbnhaaDoor
/- The program's reader: an item's Kids. -/
set_option maxRecDepth 100000
set_option maxHeartbeats 16000000
namespace Go.Proofs.YtofijpbmbmbnhaaDoor
open Go Go.Hs Go.Proofs
variable {E : Env} {I : Known}
def zeroL : List Value := [.int .i64 0, .int .i64 0, .string ⟨#[]⟩, .slice none 0 0]
end Go.Proofs.YtofijpbmbmbnhaaDoor
/- Bytes put behind one another. -/
set_option maxRecDepth 100000
set_option maxHeartbeats 16000000
namespace Go.Proofs.YtofijpbmbmbnhaaDoor
open Go Go.Hs Go.Proofs
variable {E : Env} {I : Known}
theorem _root_.Go.Hs.Mod.gof2 {g h : H} (m : Mod (fun _ => False) g h) : Grows g h := fun j B hj => m.blk j B (fun h => h) hj
end Go.Proofs.YtofijpbmbmbnhaaDoor
/- Items are written: Encode, Join. -/
set_option maxRecDepth 100000
set_option maxHeartbeats 16000000
namespace Go.Proofs.YtofijpbmbmbnhaaDoor
open Go Go.Hs Go.Proofs
variable {E : Env} {I : Known}
def Chk (E : Env) (K : Known) : Prop := (∀ t xv h, rep E h t xv → isz t ≤ 1000000 → K 35 [xv] h = some (some (.int .i64 (chkI t 0 1).2, h))) ∧ ∀ ks sl h, repK E h ks sl → iszL ks ≤ 1000000 → K 65 [sl] h = some (some (.int .i64 (chkAll ks), h))
theorem chkI_fine {t : Hs.Item} (h : goodI t ∧ lvlI t ≤ 250 ∧ isz t ≤ 5000) : (chkI t 0 1).2 = 0 := chkI_good t 0 1 h.1 (by omega) (by omega) (by omega)
theorem chkAll_fine : ∀ {ks : List Hs.Item}, fineL ks → chkAll ks = 0
  | [], _ => by rw [chkAll]
  | x :: xs, h => by
    rw [chkAll, chkI_fine (h x (by simp)), if_neg (by simp)]
    exact chkAll_fine fun t ht => h t (by simp [ht])
end Go.Proofs.YtofijpbmbmbnhaaDoor
/- What the tables say, a line each. -/
set_option maxRecDepth 100000
namespace Go.Proofs.YtofijpbmbmbnhaaDoor
open Go Go.Hs Go.Proofs
theorem ty3 : tab.ty.get 3 = some ⟨.int .i64, 1, 8, some (.int .i64 0), true⟩ := by kernel_rfl
theorem ty9 : tab.ty.get 9 = some ⟨.string, 1, 16, some (.string ⟨#[]⟩), true⟩ := by kernel_rfl
theorem ty23 : tab.ty.get 23 = some ⟨.slice 25 4 56, 1, 24, some (.slice none 0 0), true⟩ := by kernel_rfl
theorem ty25 : tab.ty.get 25 = some ⟨.struct [(0, 3, 1), (1, 3, 1), (2, 9, 1), (3, 23, 1)], 4, 56, some (.agg #[.int .i64 0, .int .i64 0, .string ⟨#[]⟩, .slice none 0 0]), true⟩ := by kernel_rfl
theorem ty26 : tab.ty.get 26 = some ⟨.int .i64, 1, 8, some (.int .i64 0), true⟩ := by kernel_rfl
variable {E : Env} {h : H}
theorem ld3 (a : Addr) : aload tab E 3 a h = h.cell E a := by unfold aload; rw [ty3]; rfl
theorem ld9 (a : Addr) : aload tab E 9 a h = h.cell E a := by unfold aload; rw [ty9]; rfl
theorem ld23 (a : Addr) : aload tab E 23 a h = h.cell E a := by unfold aload; rw [ty23]; rfl
theorem ld25 (a : Addr) : aload tab E 25 a h = match h.cells E a 4 with | some cs => some (.agg ⟨cs⟩) | none => none := by unfold aload; rw [ty25]; rfl
theorem fa25_0 (a : Addr) : afieldAddr tab 25 (.pointer (some a)) 0 = some (.pointer (some (aadd a 0))) := by unfold afieldAddr; rw [ty25]; rfl
theorem fa25_1 (a : Addr) : afieldAddr tab 25 (.pointer (some a)) 1 = some (.pointer (some (aadd a 1))) := by unfold afieldAddr; rw [ty25]; rfl
theorem fa25_2 (a : Addr) : afieldAddr tab 25 (.pointer (some a)) 2 = some (.pointer (some (aadd a 2))) := by unfold afieldAddr; rw [ty25]; rfl
theorem fa25_3 (a : Addr) : afieldAddr tab 25 (.pointer (some a)) 3 = some (.pointer (some (aadd a 3))) := by unfold afieldAddr; rw [ty25]; rfl
theorem len23 (b : Option Addr) (n c : Nat) : alen tab 23 (.slice b n c) h = some (.int .i64 n) := by unfold alen; rw [ty23]
theorem len9 (s : ByteArray) : alen tab 9 (.string s) h = some (.int .i64 (s.data.toList.length : Nat)) := by unfold alen; rw [ty9]
theorem ia23 (a : Addr) (n c : Nat) (i : Int) (hi : inRange i n = true) : aindexAddr tab 23 (.slice (some a) n c) (.int .i64 i) = some (.pointer (some (aadd a (i.toNat * 4)))) := by unfold aindexAddr; simp only [ty23, hi]
end Go.Proofs.YtofijpbmbmbnhaaDoor
/- The reference's checks and levels. -/
set_option maxRecDepth 100000
set_option maxHeartbeats 4000000
namespace Go.Proofs.YtofijpbmbmbnhaaDoor
open Go Go.Hs Go.Proofs
variable {E : Env} {I : Known}
theorem ex0 (a b : Value) : (#[a, b] : Array Value).toList[0]? = some a := rfl
theorem ex1 (a b : Value) : (#[a, b] : Array Value).toList[1]? = some b := rfl
/-! ### levels -/
end Go.Proofs.YtofijpbmbmbnhaaDoor
/- A copy of an item. -/
set_option maxRecDepth 100000
set_option maxHeartbeats 4000000
namespace Go.Proofs.YtofijpbmbmbnhaaDoor
open Go Go.Hs Go.Proofs
variable {E : Env} {I : Known}
theorem tz25 : tzero tab 25 = some (.agg #[.int .i64 0, .int .i64 0, .string ⟨#[]⟩, .slice none 0 0]) := by unfold tzero; rw [ty25]
theorem za23 (b : Option Addr) (n c : Nat) : zeroArg tab 23 (.slice b n c) = some false := by unfold zeroArg; rw [ty23]
theorem bs23 (a b c d : Value) (h1 : [a, b, c, d].all isOne = true) {h : H} : abuildSlice tab 23 1 [(0, .agg ⟨[a, b, c, d]⟩)] h = some (.slice (some (own h.next)) 1 1, h.new (.cells [a, b, c, d] 25 none)) := by
  unfold abuildSlice
  simp only [ty23, tz25]
  rfl
end Go.Proofs.YtofijpbmbmbnhaaDoor
/- Two items are alike. -/
set_option maxRecDepth 100000
set_option maxHeartbeats 4000000
namespace Go.Proofs.YtofijpbmbmbnhaaDoor
open Go Go.Hs Go.Proofs
variable {E : Env} {I : Known}
theorem ty53 : tab.ty.get 53 = some ⟨.slice 3 1 8, 1, 24, some (.slice none 0 0), true⟩ := by kernel_rfl
theorem fn14 : tab.fn.get 14 = some Tryd.f14 := by kernel_rfl
theorem fn53 : tab.fn.get 53 = some Tryd.f53 := by kernel_rfl
theorem fn54 : tab.fn.get 54 = some Tryd.f54 := by kernel_rfl
theorem fn55 : tab.fn.get 55 = some Tryd.f55 := by kernel_rfl
theorem fn89 : tab.fn.get 89 = some Tryd.f89 := by kernel_rfl
theorem tz3 : tzero tab 3 = some (.int .i64 0) := by unfold tzero; rw [ty3]
theorem za53 (b : Option Addr) (n c : Nat) : zeroArg tab 53 (.slice b n c) = some false := by unfold zeroArg; rw [ty53]
theorem bs53 (i : Int) {h : H} : abuildSlice tab 53 1 [(0, .int .i64 i)] h = some (.slice (some (own h.next)) 1 1, h.new (.cells [.int .i64 i] 3 none)) := by
  unfold abuildSlice
  simp only [ty53, tz3]
  rfl
theorem len53 {h : H} (b : Option Addr) (n c : Nat) : alen tab 53 (.slice b n c) h = some (.int .i64 n) := by unfold alen; rw [ty53]
theorem ia53 (a : Addr) (n c : Nat) (i : Int) (hi : inRange i n = true) : aindexAddr tab 53 (.slice (some a) n c) (.int .i64 i) = some (.pointer (some (aadd a (i.toNat * 1)))) := by unfold aindexAddr; simp only [ty53, hi]
def ints : Nat → List Value
  | 0 => []
  | n + 1 => ints n ++ [.int .i64 (n : Nat)]
theorem ints_length : ∀ n, (ints n).length = n
  | 0 => rfl
  | n + 1 => by rw [ints, List.length_append, ints_length n]; rfl
theorem ints_get : ∀ (n i : Nat), i < n → (ints n)[i]? = some (.int .i64 (i : Nat))
  | 0, i, h => by omega
  | n + 1, i, h => by
    rw [ints]
    by_cases hi : i < n
    · rw [List.getElem?_append_left (by rw [ints_length]; exact hi)]; exact ints_get n i hi
    · have : i = n := by omega
      subst this
      rw [List.getElem?_append_right (by rw [ints_length]; exact Nat.le_refl _), ints_length, Nat.sub_self]; rfl
def IntsAt (h : H) (v : Value) (n : Nat) : Prop := (n = 0 ∧ v = .slice none 0 0) ∨ ∃ k rt, v = .slice (some (own k)) n n ∧ h.blk k = some (.cells (ints n) 3 rt)
/-! ### upto -/
noncomputable def loop54 : Code := loopOf Tryd.f54
theorem upto54 (hI : ∀ args h, I 54 args h = none) (N : Nat) (hN : N ≤ 1000000) (h : H) (hfit : Fit h) :
    ∃ n v h', (ev tab E I n).call 54 [.int .i64 (N : Nat)] h = some (v, h') ∧ (Ahd h h' ∧ IntsAt h' v N) := by
  refine Wc.call (hI _ _) fn54 rfl ?_
  generalize hA0 : (⟨T.ofList [.int .i64 (N : Nat)] 0 .nil, max ([.int .i64 (N : Nat)] : List Value).length Tryd.f54.ntmps, []⟩ : Ac) = A0
  have n0 : A0.n = 15 := by rw [← hA0]; rfl
  have g00 : A0.get 0 = .int .i64 (N : Nat) := by rw [← hA0]; rfl
  have d0 : A0.defers = [] := by rw [← hA0]
  have key : ∀ (r i : Nat) (s : Value) (ro : Option Nat) (A : Ac) (g : H), r = N - i → i ≤ N → A.n = 15 → A.defers = [] → A.get 3 = s → A.get 5 = .int .i64 (N : Nat) → A.get 6 = .int .i64 (i : Nat) → Ahd h g → Ap g h.next 3 1 s i (ints i) ro →
      Wc tab E I ⟨54, none⟩ (.loop loop54) A g (fun ex A' g' => ex = .exit 0 ∧ A'.n = 15 ∧ A'.defers = [] ∧ ∃ s ro, A'.get 3 = s ∧ Ahd h g' ∧ Ap g' h.next 3 1 s N (ints N) ro) := by
    intro r
    induction r with
    | zero =>
      intro i s ro A g hr' hi nA dA p3 p5 p6 ah ap
      have hil : i = N := by omega
      have hlt : decide ((i : Int) < (N : Int)) = false := by simp; omega
      apply Wc.loop
      simp only [loop54, loopOf, firstLoop, Option.getD, Tryd.f54]
      repeat' (first | (with_reducible apply Wc.seq) | (apply Wc.ops; (focus ((repeat' (first | with_reducible exact RO.nil | ((with_reducible apply RO.run (awant_none rfl)); (focus ((first | simp +decide only [awant, ayield_get, oper1, aop, opv, opvs, opvo, opvp, abuiltin, aun, Ac.get_put, abin, isShift, aint, roV, pair, bind, Option.bind, acall, Sx, nA, p3, p5, p6, hlt] | skip); with_reducible rfl))))); done))) | (refine Wc.cond2 (by simp +decide only [opv, Ac.get_put, Sx, nA, p3, p5, p6, hlt]; try with_reducible rfl) (fun hb => ?_) (fun hb => ?_) <;> try contradiction) | refine Wc.skip ?_ | refine Wc.ret ?_ | refine Wc.exit ?_ | refine Wc.block ?_)
      refine ⟨rfl, by simp +decide only [Ac.get_put, Sx, nA], by simp +decide only [Ac.get_put, Sx, dA], s, ro, by simp +decide only [Ac.get_put, Sx, nA, p3], ah, ?_⟩
      rw [hil] at ap; exact ap
    | succ r ih =>
      intro i s ro A g hr' hi nA dA p3 p5 p6 ah ap
      have hil : i < N := by omega
      have hlt : decide ((i : Int) < (N : Int)) = true := by simp; omega
      have w3 : IntKind.i64.wrap ((i : Int) + 1) = (i : Int) + 1 := wrap64 (by omega) (by omega)
      have hbs := bs53 (i : Nat) (h := g)
      generalize hg2 : g.new (.cells [.int .i64 (i : Nat)] 3 none) = g2 at hbs
      have ah2 : Ahd g g2 := by rw [← hg2]; exact Ahd.new0 ah.fit rfl
      have hx2 : g2.cells E (own g.next) 1 = some [.int .i64 (i : Nat)] := by rw [← hg2]; exact box_cells rfl rfl
      have ahT : Ahd h g2 := ah.trans ah2
      have hro : ∀ r, ro = some r → h.next ≤ r ∧ r < g.next := by
        intro r hr
        rcases ap with ap | ⟨kk, rr, _, e2, _, _, e5, _, e7⟩
        · rw [ap.2.2.2] at hr; cases hr
        · rw [e7] at hr; cases hr
          exact ⟨e5, ah.fit.ok.1 _ _ _ _ _ (H.blk_dyn e2)⟩
      have ap2 : Ap g2 h.next 3 1 s i (ints i) ro := by
        rcases ap with ap | ⟨kk, rr, e1, e2, e3, e4, e5, e6, e7⟩
        · exact .inl ap
        · refine .inr ⟨kk, rr, e1, ah2.grows _ _ e2, e3, e4, e5, ?_, e7⟩
          rw [ah2.chain rr (hro _ e7).2]; exact e6
      have hrm : roomy (i + 1) 8 = true := by
        unfold roomy
        simp only [Bool.and_eq_true, Nat.ble_eq]; omega
      obtain ⟨s', g3, ro', happ, ap3, gw, _⟩ := ap_step (E := E) (t2 := 53) (c := 1) ahT.fit (by rw [ahT.mark]; exact hfit.ok.2) ahT.next ap2 ty53 tz3 rfl (za53 _ _ _) hx2 rfl rfl hrm
      have ah3 : Ahd h g3 := ahT.grew hfit (fun r hr => (hro r hr).1) gw
      apply Wc.loop
      simp only [loop54, loopOf, firstLoop, Option.getD, Tryd.f54]
      repeat' (first | (with_reducible apply Wc.seq) | (apply Wc.ops; (focus ((repeat' (first | with_reducible exact RO.nil | ((with_reducible apply RO.run (awant_none rfl)); (focus ((first | simp +decide only [awant, ayield_get, oper1, aop, opv, opvs, opvo, opvp, abuiltin, aun, Ac.get_put, abin, isShift, aint, roV, pair, bind, Option.bind, acall, Sx, nA, p3, p5, p6, hlt, hbs, happ, w3] | skip); with_reducible rfl))))); done))) | (refine Wc.cond2 (by simp +decide only [opv, Ac.get_put, Sx, nA, p3, p5, p6, hlt, hbs, happ, w3]; try with_reducible rfl) (fun hb => ?_) (fun hb => ?_) <;> try contradiction) | refine Wc.skip ?_ | refine Wc.ret ?_ | refine Wc.exit ?_ | refine Wc.block ?_)
      refine (ih (i + 1) s' ro' _ g3 (by omega) (by omega) ?_ ?_ ?_ ?_ ?_ ah3 ap3).mono ?_
      · simp +decide only [Ac.get_put, Sx, nA]
      · simp +decide only [Ac.get_put, Sx, dA]
      · simp +decide only [Ac.get_put, Sx, nA]
      · simp +decide only [Ac.get_put, Sx, nA, p5]
      · simp +decide only [Ac.get_put, Sx, nA]
        rfl
      · rintro ex A' h' ⟨rfl, e1⟩
        exact ⟨rfl, e1⟩
  repeat' (first | (with_reducible apply Wc.seq) | (apply Wc.ops; (focus ((repeat' (first | with_reducible exact RO.nil | ((with_reducible apply RO.run (awant_none rfl)); (focus ((first | simp +decide only [awant, ayield_get, oper1, aop, opv, opvs, opvo, opvp, abuiltin, aun, Ac.get_put, abin, isShift, aint, roV, pair, bind, Option.bind, acall, Sx, n0, g00, d0] | skip); with_reducible rfl))))); done))) | (refine Wc.cond2 (by simp +decide only [opv, Ac.get_put, Sx, n0, g00, d0]; try with_reducible rfl) (fun hb => ?_) (fun hb => ?_) <;> try contradiction) | refine Wc.skip ?_ | refine Wc.ret ?_ | refine Wc.exit ?_ | refine Wc.block ?_)
  refine (key N 0 (.slice none 0 0) none _ h rfl (Nat.zero_le _) ?_ ?_ ?_ ?_ ?_ (Ahd.refl hfit) (.inl ⟨rfl, rfl, rfl, rfl⟩)).mono ?_
  · simp +decide only [Ac.get_put, Sx, n0]
  · simp +decide only [Ac.get_put, Sx, d0]
  · simp +decide only [Ac.get_put, Sx, n0]
  · simp +decide only [Ac.get_put, Sx, n0]
  · simp +decide only [Ac.get_put, Sx, n0]
    rfl
  · rintro ex A' g ⟨rfl, e1, e2, s, ro, e3, ah, ap⟩
    simp only [if_true]
    repeat' (first | (with_reducible apply Wc.seq) | (apply Wc.ops; (focus ((repeat' (first | with_reducible exact RO.nil | ((with_reducible apply RO.run (awant_none rfl)); (focus ((first | simp +decide only [awant, ayield_get, oper1, aop, opv, opvs, opvo, opvp, abuiltin, aun, Ac.get_put, abin, isShift, aint, roV, pair, bind, Option.bind, acall, Sx, e1, e3] | skip); with_reducible rfl))))); done))) | (refine Wc.cond2 (by simp +decide only [opv, Ac.get_put, Sx, e1, e3]; try with_reducible rfl) (fun hb => ?_) (fun hb => ?_) <;> try contradiction) | refine Wc.skip ?_ | refine Wc.ret ?_ | refine Wc.exit ?_ | refine Wc.block ?_)
    refine done_q (v := s) (.inr rfl) (by simp +decide only [Ac.get_put, Sx, e2]) rfl (by simp +decide only [Ac.get_put, Sx, e1, e3]) ⟨ah, ?_⟩
    rcases ap with ap | ⟨kk, rr, q1, q2, _⟩
    · exact .inl ⟨ap.1, ap.2.2.1⟩
    · exact .inr ⟨kk, _, q1, q2⟩
/-! ### alike -/
def Cap (E : Env) (h : H) (t : Hs.Item) (p3 p4 p5 : Value) (d : Int) : Prop := ∃ k3 k4 k5 cs3 cs4, p3 = .pointer (some (own k3)) ∧ p4 = .pointer (some (own k4)) ∧ p5 = .pointer (some (own k5)) ∧ h.blk k3 = some (.cells cs3 25 none) ∧ rep E h t (.agg ⟨cs3⟩) ∧ h.blk k4 = some (.cells cs4 25 none) ∧ rep E h t (.agg ⟨cs4⟩) ∧ h.blk k5 = some (.cells [.int .i64 d] 3 none) ∧ 0 ≤ d ∧ d + lvlI t ≤ 400 ∧ isz t ≤ 1000000
theorem lvl_kid {k n : Int} {t : ByteArray} {ks : List Hs.Item} {x : Hs.Item} (h : x ∈ ks) : lvlI x + 1 ≤ lvlI (.mk k n t ks) := by
  rw [lvlI]
  have key : ∀ (ks : List Hs.Item) (m : Int), 0 ≤ m → x ∈ ks → lvlI x ≤ lvlL ks m := by
    intro ks
    induction ks with
    | nil => intro m _ h; cases h
    | cons y ys ih =>
      intro m hm h
      rw [lvlL]
      have hy := lvlI_bound y
      rcases List.mem_cons.1 h with rfl | h
      · split
        · exact (lvlL_bound ys _ (by omega)).1
        · have := (lvlL_bound ys m hm).1
          omega
      · split
        · exact ih _ (by omega) h
        · exact ih _ hm h
  have := key ks 0 (Int.le_refl _) h
  omega
noncomputable def loop89 : Code := loopOf Tryd.f89
theorem ev_knownS {D : Tab} {E : Env} {I : Known} {n : Nat} {f : FuncId} {args : List Value} {h : H} {r : Value × H} (hI : I f args h = some (some r)) : (ev D E I (n + 1)).call f args h = some r := by
  show doCall D E I (ev D E I n) f args h = _
  simp only [doCall, hI]
theorem ev_later {D : Tab} {E : Env} {I : Known} {n : Nat} {f : FuncId} {args : List Value} {h : H} {r : Value × H} (hc : (ev D E I n).call f args h = some r) : (ev D E I (n + 1)).call f args h = some r := (ev_mono I (Nat.le_succ n)).call hc
end Go.Proofs.YtofijpbmbmbnhaaDoor
