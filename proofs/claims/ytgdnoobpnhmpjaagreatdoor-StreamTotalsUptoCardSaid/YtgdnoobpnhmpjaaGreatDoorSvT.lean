/- The table of this program's types, as the executor asks it; held against the program by the kernel. Printed by a program of this session. -/
import Derived.Test.YtgdnoobpnhmpjaaGreatDoorSvQ
import Derived.Test.YtgdnoobpnhmpjaaGreatDoorProg
import Derived.KernelRfl
set_option linter.unusedVariables false
set_option maxRecDepth 100000
namespace Go.Sv
open Go Go.Proofs
def ti1 : TI := ⟨.func, 1, 8, .nilFunc, false⟩
def ti2 : TI := ⟨.int .i64, 1, 8, .int .i64 0, false⟩
def ti3 : TI := ⟨.int .i64, 1, 8, .int .i64 0, false⟩
def ti4 : TI := ⟨.bool, 1, 1, .bool false, false⟩
def ti5 : TI := ⟨.int .u8, 1, 1, .int .u8 0, false⟩
def ti6 : TI := ⟨.int .u8, 1, 1, .int .u8 0, false⟩
def ti7 : TI := ⟨.struct [(0, 2), (1, 3), (2, 4), (3, 6)], 4, 24, .agg #[.int .i64 0, .int .i64 0, .bool false, .int .u8 0], false⟩
def ti8 : TI := ⟨.struct [(0, 2), (1, 3), (2, 4), (3, 6)], 4, 24, .agg #[.int .i64 0, .int .i64 0, .bool false, .int .u8 0], false⟩
def ti9 : TI := ⟨.str, 1, 16, .string ⟨#[]⟩, false⟩
def ti10 : TI := ⟨.str, 1, 16, .string ⟨#[]⟩, false⟩
def ti11 : TI := ⟨.str, 1, 16, .string ⟨#[]⟩, false⟩
def ti12 : TI := ⟨.int .u64, 1, 8, .int .u64 0, false⟩
def ti13 : TI := ⟨.struct [(0, 9), (1, 12)], 2, 24, .agg #[.string ⟨#[]⟩, .int .u64 0], false⟩
def ti14 : TI := ⟨.struct [(0, 9), (1, 12)], 2, 24, .agg #[.string ⟨#[]⟩, .int .u64 0], false⟩
def ti15 : TI := ⟨.ptr 276, 1, 8, .pointer none, false⟩
def ti16 : TI := ⟨.ptr 279, 1, 8, .pointer none, false⟩
def ti17 : TI := ⟨.ptr 287, 1, 8, .pointer none, false⟩
def ti18 : TI := ⟨.struct [(0, 17)], 1, 8, .agg #[.pointer none], false⟩
def ti19 : TI := ⟨.struct [(0, 17)], 1, 8, .agg #[.pointer none], false⟩
def ti20 : TI := ⟨.iface 0, 1, 16, .nilIface, false⟩
def ti21 : TI := ⟨.int .i32, 1, 4, .int .i32 0, false⟩
def ti22 : TI := ⟨.slice 31, 1, 24, .slice none 0 0, false⟩
def ti23 : TI := ⟨.iface 1, 1, 16, .nilIface, false⟩
def ti24 : TI := ⟨.iface 1, 1, 16, .nilIface, false⟩
def ti26 : TI := ⟨.func, 1, 8, .nilFunc, false⟩
def ti27 : TI := ⟨.struct [(0, 9), (1, 9)], 2, 32, .agg #[.string ⟨#[]⟩, .string ⟨#[]⟩], false⟩
def ti28 : TI := ⟨.struct [(0, 9), (1, 9)], 2, 32, .agg #[.string ⟨#[]⟩, .string ⟨#[]⟩], true⟩
def ti29 : TI := ⟨.slice 46, 1, 24, .slice none 0 0, false⟩
def ti30 : TI := ⟨.struct [(0, 3), (1, 28), (3, 28), (5, 9), (6, 29), (7, 9), (8, 3)], 9, 136, .agg #[.int .i64 0, .string ⟨#[]⟩, .string ⟨#[]⟩, .string ⟨#[]⟩, .string ⟨#[]⟩, .string ⟨#[]⟩, .slice none 0 0, .string ⟨#[]⟩, .int .i64 0], false⟩
def ti31 : TI := ⟨.struct [(0, 3), (1, 28), (3, 28), (5, 9), (6, 29), (7, 9), (8, 3)], 9, 136, .agg #[.int .i64 0, .string ⟨#[]⟩, .string ⟨#[]⟩, .string ⟨#[]⟩, .string ⟨#[]⟩, .string ⟨#[]⟩, .slice none 0 0, .string ⟨#[]⟩, .int .i64 0], false⟩
def ti32 : TI := ⟨.func, 1, 8, .nilFunc, false⟩
def ti33 : TI := ⟨.func, 1, 8, .nilFunc, false⟩
def ti34 : TI := ⟨.func, 1, 8, .nilFunc, false⟩
def ti35 : TI := ⟨.func, 1, 8, .nilFunc, false⟩
def ti36 : TI := ⟨.func, 1, 8, .nilFunc, false⟩
def ti38 : TI := ⟨.func, 1, 8, .nilFunc, false⟩
def ti40 : TI := ⟨.func, 1, 8, .nilFunc, false⟩
def ti41 : TI := ⟨.func, 1, 8, .nilFunc, false⟩
def ti42 : TI := ⟨.func, 1, 8, .nilFunc, false⟩
def ti43 : TI := ⟨.slice 79, 1, 24, .slice none 0 0, false⟩
def ti44 : TI := ⟨.func, 1, 8, .nilFunc, false⟩
def ti45 : TI := ⟨.struct [(0, 3), (1, 3), (2, 3), (3, 3), (4, 9), (5, 43)], 6, 72, .agg #[.int .i64 0, .int .i64 0, .int .i64 0, .int .i64 0, .string ⟨#[]⟩, .slice none 0 0], false⟩
def ti46 : TI := ⟨.struct [(0, 3), (1, 3), (2, 3), (3, 3), (4, 9), (5, 43)], 6, 72, .agg #[.int .i64 0, .int .i64 0, .int .i64 0, .int .i64 0, .string ⟨#[]⟩, .slice none 0 0], false⟩
def ti47 : TI := ⟨.func, 1, 8, .nilFunc, false⟩
def ti48 : TI := ⟨.slice 56, 1, 24, .slice none 0 0, false⟩
def ti50 : TI := ⟨.func, 1, 8, .nilFunc, false⟩
def ti51 : TI := ⟨.slice 55, 1, 24, .slice none 0 0, false⟩
def ti53 : TI := ⟨.func, 1, 8, .nilFunc, false⟩
def ti54 : TI := ⟨.struct [(0, 9), (1, 3), (2, 3)], 3, 32, .agg #[.string ⟨#[]⟩, .int .i64 0, .int .i64 0], false⟩
def ti55 : TI := ⟨.struct [(0, 9), (1, 3), (2, 3)], 3, 32, .agg #[.string ⟨#[]⟩, .int .i64 0, .int .i64 0], true⟩
def ti56 : TI := ⟨.struct [(0, 9), (1, 3), (2, 3)], 3, 32, .agg #[.string ⟨#[]⟩, .int .i64 0, .int .i64 0], true⟩
def ti58 : TI := ⟨.func, 1, 8, .nilFunc, false⟩
def ti60 : TI := ⟨.func, 1, 8, .nilFunc, false⟩
def ti61 : TI := ⟨.int .i64, 1, 8, .int .i64 0, false⟩
def ti62 : TI := ⟨.ptr 66, 1, 8, .pointer none, false⟩
def ti63 : TI := ⟨.slice 9, 1, 24, .slice none 0 0, false⟩
def ti64 : TI := ⟨.func, 1, 8, .nilFunc, false⟩
def ti65 : TI := ⟨.struct [(0, 63), (1, 3), (2, 9), (3, 22)], 4, 72, .agg #[.slice none 0 0, .int .i64 0, .string ⟨#[]⟩, .slice none 0 0], false⟩
def ti66 : TI := ⟨.struct [(0, 63), (1, 3), (2, 9), (3, 22)], 4, 72, .agg #[.slice none 0 0, .int .i64 0, .string ⟨#[]⟩, .slice none 0 0], false⟩
def ti68 : TI := ⟨.func, 1, 8, .nilFunc, false⟩
def ti70 : TI := ⟨.func, 1, 8, .nilFunc, false⟩
def ti71 : TI := ⟨.func, 1, 8, .nilFunc, false⟩
def ti72 : TI := ⟨.func, 1, 8, .nilFunc, false⟩
def ti73 : TI := ⟨.func, 1, 8, .nilFunc, false⟩
def ti74 : TI := ⟨.func, 1, 8, .nilFunc, false⟩
def ti75 : TI := ⟨.ptr 61, 1, 8, .pointer none, false⟩
def ti76 : TI := ⟨.func, 1, 8, .nilFunc, false⟩
def ti77 : TI := ⟨.func, 1, 8, .nilFunc, false⟩
def ti78 : TI := ⟨.struct [(0, 3), (1, 9)], 2, 24, .agg #[.int .i64 0, .string ⟨#[]⟩], false⟩
def ti79 : TI := ⟨.struct [(0, 3), (1, 9)], 2, 24, .agg #[.int .i64 0, .string ⟨#[]⟩], true⟩
def ti80 : TI := ⟨.func, 1, 8, .nilFunc, false⟩
def ti81 : TI := ⟨.func, 1, 8, .nilFunc, false⟩
def ti83 : TI := ⟨.func, 1, 8, .nilFunc, false⟩
def ti84 : TI := ⟨.func, 1, 8, .nilFunc, false⟩
def ti86 : TI := ⟨.func, 1, 8, .nilFunc, false⟩
def ti87 : TI := ⟨.func, 1, 8, .nilFunc, false⟩
def ti89 : TI := ⟨.func, 1, 8, .nilFunc, false⟩
def ti91 : TI := ⟨.func, 1, 8, .nilFunc, false⟩
def ti92 : TI := ⟨.func, 1, 8, .nilFunc, false⟩
def ti93 : TI := ⟨.func, 1, 8, .nilFunc, false⟩
def ti94 : TI := ⟨.func, 1, 8, .nilFunc, false⟩
def ti95 : TI := ⟨.slice 5, 1, 24, .slice none 0 0, false⟩
def ti96 : TI := ⟨.func, 1, 8, .nilFunc, false⟩
def ti97 : TI := ⟨.func, 1, 8, .nilFunc, false⟩
def ti98 : TI := ⟨.func, 1, 8, .nilFunc, false⟩
def ti99 : TI := ⟨.func, 1, 8, .nilFunc, false⟩
def ti101 : TI := ⟨.func, 1, 8, .nilFunc, false⟩
def ti102 : TI := ⟨.func, 1, 8, .nilFunc, false⟩
def ti104 : TI := ⟨.func, 1, 8, .nilFunc, false⟩
def ti105 : TI := ⟨.func, 1, 8, .nilFunc, false⟩
def ti106 : TI := ⟨.ptr 108, 1, 8, .pointer none, false⟩
def ti107 : TI := ⟨.struct [(0, 63), (1, 3)], 2, 32, .agg #[.slice none 0 0, .int .i64 0], false⟩
def ti108 : TI := ⟨.struct [(0, 63), (1, 3)], 2, 32, .agg #[.slice none 0 0, .int .i64 0], false⟩
def ti109 : TI := ⟨.ptr 113, 1, 8, .pointer none, false⟩
def ti111 : TI := ⟨.func, 1, 8, .nilFunc, false⟩
def ti112 : TI := ⟨.struct [(0, 61), (1, 3)], 2, 16, .agg #[.int .i64 0, .int .i64 0], false⟩
def ti113 : TI := ⟨.struct [(0, 61), (1, 3)], 2, 16, .agg #[.int .i64 0, .int .i64 0], true⟩
def ti114 : TI := ⟨.func, 1, 8, .nilFunc, false⟩
def ti115 : TI := ⟨.ptr 117, 1, 8, .pointer none, false⟩
def ti116 : TI := ⟨.struct [(0, 63), (1, 3)], 2, 32, .agg #[.slice none 0 0, .int .i64 0], false⟩
def ti117 : TI := ⟨.struct [(0, 63), (1, 3)], 2, 32, .agg #[.slice none 0 0, .int .i64 0], false⟩
def ti119 : TI := ⟨.func, 1, 8, .nilFunc, false⟩
def ti120 : TI := ⟨.func, 1, 8, .nilFunc, false⟩
def ti121 : TI := ⟨.func, 1, 8, .nilFunc, false⟩
def ti123 : TI := ⟨.func, 1, 8, .nilFunc, false⟩
def ti124 : TI := ⟨.func, 1, 8, .nilFunc, false⟩
def ti126 : TI := ⟨.func, 1, 8, .nilFunc, false⟩
def ti128 : TI := ⟨.func, 1, 8, .nilFunc, false⟩
def ti129 : TI := ⟨.func, 1, 8, .nilFunc, false⟩
def ti130 : TI := ⟨.unsafeptr, 1, 8, .pointer none, false⟩
def ti131 : TI := ⟨.int .u64, 1, 8, .int .u64 0, false⟩
def ti132 : TI := ⟨.struct [(0, 17), (1, 130), (2, 131)], 3, 24, .agg #[.pointer none, .pointer none, .int .u64 0], false⟩
def ti133 : TI := ⟨.struct [(0, 17), (1, 130), (2, 131)], 3, 24, .agg #[.pointer none, .pointer none, .int .u64 0], false⟩
def ti134 : TI := ⟨.func, 1, 8, .nilFunc, false⟩
def ti135 : TI := ⟨.iface 11, 1, 16, .nilIface, false⟩
def ti136 : TI := ⟨.iface 11, 1, 16, .nilIface, false⟩
def ti137 : TI := ⟨.func, 1, 8, .nilFunc, false⟩
def ti138 : TI := ⟨.int .u8, 1, 1, .int .u8 0, false⟩
def ti139 : TI := ⟨.func, 1, 8, .nilFunc, false⟩
def ti140 : TI := ⟨.func, 1, 8, .nilFunc, false⟩
def ti141 : TI := ⟨.func, 1, 8, .nilFunc, false⟩
def ti142 : TI := ⟨.func, 1, 8, .nilFunc, false⟩
def ti143 : TI := ⟨.func, 1, 8, .nilFunc, false⟩
def ti144 : TI := ⟨.func, 1, 8, .nilFunc, false⟩
def ti146 : TI := ⟨.func, 1, 8, .nilFunc, false⟩
def ti147 : TI := ⟨.func, 1, 8, .nilFunc, false⟩
def ti148 : TI := ⟨.func, 1, 8, .nilFunc, false⟩
def ti149 : TI := ⟨.func, 1, 8, .nilFunc, false⟩
def ti150 : TI := ⟨.func, 1, 8, .nilFunc, false⟩
def ti152 : TI := ⟨.func, 1, 8, .nilFunc, false⟩
def ti154 : TI := ⟨.func, 1, 8, .nilFunc, false⟩
def ti155 : TI := ⟨.struct [(0, 3), (1, 3), (2, 4)], 3, 24, .agg #[.int .i64 0, .int .i64 0, .bool false], false⟩
def ti156 : TI := ⟨.struct [(0, 3), (1, 3), (2, 4)], 3, 24, .agg #[.int .i64 0, .int .i64 0, .bool false], true⟩
def ti158 : TI := ⟨.func, 1, 8, .nilFunc, false⟩
def ti159 : TI := ⟨.slice 217, 1, 24, .slice none 0 0, false⟩
def ti160 : TI := ⟨.func, 1, 8, .nilFunc, false⟩
def ti162 : TI := ⟨.func, 1, 8, .nilFunc, false⟩
def ti163 : TI := ⟨.func, 1, 8, .nilFunc, false⟩
def ti164 : TI := ⟨.func, 1, 8, .nilFunc, false⟩
def ti165 : TI := ⟨.ptr 167, 1, 8, .pointer none, false⟩
def ti166 : TI := ⟨.struct [(0, 63), (1, 3)], 2, 32, .agg #[.slice none 0 0, .int .i64 0], false⟩
def ti167 : TI := ⟨.struct [(0, 63), (1, 3)], 2, 32, .agg #[.slice none 0 0, .int .i64 0], false⟩
def ti169 : TI := ⟨.func, 1, 8, .nilFunc, false⟩
def ti170 : TI := ⟨.func, 1, 8, .nilFunc, false⟩
def ti171 : TI := ⟨.ptr 46, 1, 8, .pointer none, false⟩
def ti172 : TI := ⟨.func, 1, 8, .nilFunc, false⟩
def ti174 : TI := ⟨.func, 1, 8, .nilFunc, false⟩
def ti175 : TI := ⟨.func, 1, 8, .nilFunc, false⟩
def ti176 : TI := ⟨.func, 1, 8, .nilFunc, false⟩
def ti177 : TI := ⟨.array 256 4, 256, 256, .agg #[.bool false, .bool false, .bool false, .bool false, .bool false, .bool false, .bool false, .bool false, .bool false, .bool false, .bool false, .bool false, .bool false, .bool false, .bool false, .bool false, .bool false, .bool false, .bool false, .bool false, .bool false, .bool false, .bool false, .bool false, .bool false, .bool false, .bool false, .bool false, .bool false, .bool false, .bool false, .bool false, .bool false, .bool false, .bool false, .bool false, .bool false, .bool false, .bool false, .bool false, .bool false, .bool false, .bool false, .bool false, .bool false, .bool false, .bool false, .bool false, .bool false, .bool false, .bool false, .bool false, .bool false, .bool false, .bool false, .bool false, .bool false, .bool false, .bool false, .bool false, .bool false, .bool false, .bool false, .bool false, .bool false, .bool false, .bool false, .bool false, .bool false, .bool false, .bool false, .bool false, .bool false, .bool false, .bool false, .bool false, .bool false, .bool false, .bool false, .bool false, .bool false, .bool false, .bool false, .bool false, .bool false, .bool false, .bool false, .bool false, .bool false, .bool false, .bool false, .bool false, .bool false, .bool false, .bool false, .bool false, .bool false, .bool false, .bool false, .bool false, .bool false, .bool false, .bool false, .bool false, .bool false, .bool false, .bool false, .bool false, .bool false, .bool false, .bool false, .bool false, .bool false, .bool false, .bool false, .bool false, .bool false, .bool false, .bool false, .bool false, .bool false, .bool false, .bool false, .bool false, .bool false, .bool false, .bool false, .bool false, .bool false, .bool false, .bool false, .bool false, .bool false, .bool false, .bool false, .bool false, .bool false, .bool false, .bool false, .bool false, .bool false, .bool false, .bool false, .bool false, .bool false, .bool false, .bool false, .bool false, .bool false, .bool false, .bool false, .bool false, .bool false, .bool false, .bool false, .bool false, .bool false, .bool false, .bool false, .bool false, .bool false, .bool false, .bool false, .bool false, .bool false, .bool false, .bool false, .bool false, .bool false, .bool false, .bool false, .bool false, .bool false, .bool false, .bool false, .bool false, .bool false, .bool false, .bool false, .bool false, .bool false, .bool false, .bool false, .bool false, .bool false, .bool false, .bool false, .bool false, .bool false, .bool false, .bool false, .bool false, .bool false, .bool false, .bool false, .bool false, .bool false, .bool false, .bool false, .bool false, .bool false, .bool false, .bool false, .bool false, .bool false, .bool false, .bool false, .bool false, .bool false, .bool false, .bool false, .bool false, .bool false, .bool false, .bool false, .bool false, .bool false, .bool false, .bool false, .bool false, .bool false, .bool false, .bool false, .bool false, .bool false, .bool false, .bool false, .bool false, .bool false, .bool false, .bool false, .bool false, .bool false, .bool false, .bool false, .bool false, .bool false, .bool false, .bool false, .bool false, .bool false, .bool false, .bool false, .bool false, .bool false, .bool false, .bool false, .bool false, .bool false, .bool false, .bool false, .bool false, .bool false, .bool false, .bool false, .bool false], false⟩
def ti178 : TI := ⟨.array 256 4, 256, 256, .agg #[.bool false, .bool false, .bool false, .bool false, .bool false, .bool false, .bool false, .bool false, .bool false, .bool false, .bool false, .bool false, .bool false, .bool false, .bool false, .bool false, .bool false, .bool false, .bool false, .bool false, .bool false, .bool false, .bool false, .bool false, .bool false, .bool false, .bool false, .bool false, .bool false, .bool false, .bool false, .bool false, .bool false, .bool false, .bool false, .bool false, .bool false, .bool false, .bool false, .bool false, .bool false, .bool false, .bool false, .bool false, .bool false, .bool false, .bool false, .bool false, .bool false, .bool false, .bool false, .bool false, .bool false, .bool false, .bool false, .bool false, .bool false, .bool false, .bool false, .bool false, .bool false, .bool false, .bool false, .bool false, .bool false, .bool false, .bool false, .bool false, .bool false, .bool false, .bool false, .bool false, .bool false, .bool false, .bool false, .bool false, .bool false, .bool false, .bool false, .bool false, .bool false, .bool false, .bool false, .bool false, .bool false, .bool false, .bool false, .bool false, .bool false, .bool false, .bool false, .bool false, .bool false, .bool false, .bool false, .bool false, .bool false, .bool false, .bool false, .bool false, .bool false, .bool false, .bool false, .bool false, .bool false, .bool false, .bool false, .bool false, .bool false, .bool false, .bool false, .bool false, .bool false, .bool false, .bool false, .bool false, .bool false, .bool false, .bool false, .bool false, .bool false, .bool false, .bool false, .bool false, .bool false, .bool false, .bool false, .bool false, .bool false, .bool false, .bool false, .bool false, .bool false, .bool false, .bool false, .bool false, .bool false, .bool false, .bool false, .bool false, .bool false, .bool false, .bool false, .bool false, .bool false, .bool false, .bool false, .bool false, .bool false, .bool false, .bool false, .bool false, .bool false, .bool false, .bool false, .bool false, .bool false, .bool false, .bool false, .bool false, .bool false, .bool false, .bool false, .bool false, .bool false, .bool false, .bool false, .bool false, .bool false, .bool false, .bool false, .bool false, .bool false, .bool false, .bool false, .bool false, .bool false, .bool false, .bool false, .bool false, .bool false, .bool false, .bool false, .bool false, .bool false, .bool false, .bool false, .bool false, .bool false, .bool false, .bool false, .bool false, .bool false, .bool false, .bool false, .bool false, .bool false, .bool false, .bool false, .bool false, .bool false, .bool false, .bool false, .bool false, .bool false, .bool false, .bool false, .bool false, .bool false, .bool false, .bool false, .bool false, .bool false, .bool false, .bool false, .bool false, .bool false, .bool false, .bool false, .bool false, .bool false, .bool false, .bool false, .bool false, .bool false, .bool false, .bool false, .bool false, .bool false, .bool false, .bool false, .bool false, .bool false, .bool false, .bool false, .bool false, .bool false, .bool false, .bool false, .bool false, .bool false, .bool false, .bool false, .bool false, .bool false, .bool false, .bool false, .bool false, .bool false, .bool false, .bool false, .bool false, .bool false, .bool false, .bool false, .bool false], false⟩
def ti180 : TI := ⟨.func, 1, 8, .nilFunc, false⟩
def ti181 : TI := ⟨.func, 1, 8, .nilFunc, false⟩
def ti182 : TI := ⟨.ptr 178, 1, 8, .pointer none, false⟩
def ti183 : TI := ⟨.struct [(0, 17)], 1, 8, .agg #[.pointer none], false⟩
def ti184 : TI := ⟨.struct [(0, 17)], 1, 8, .agg #[.pointer none], false⟩
def ti185 : TI := ⟨.ptr 291, 1, 8, .pointer none, false⟩
def ti186 : TI := ⟨.func, 1, 8, .nilFunc, false⟩
def ti187 : TI := ⟨.func, 1, 8, .nilFunc, false⟩
def ti188 : TI := ⟨.func, 1, 8, .nilFunc, false⟩
def ti189 : TI := ⟨.iface 1, 1, 16, .nilIface, false⟩
def ti191 : TI := ⟨.func, 1, 8, .nilFunc, false⟩
def ti192 : TI := ⟨.iface 1, 1, 16, .nilIface, false⟩
def ti193 : TI := ⟨.func, 1, 8, .nilFunc, false⟩
def ti194 : TI := ⟨.iface 1, 1, 16, .nilIface, false⟩
def ti195 : TI := ⟨.slice 24, 1, 24, .slice none 0 0, false⟩
def ti196 : TI := ⟨.func, 1, 8, .nilFunc, false⟩
def ti197 : TI := ⟨.struct [(0, 3), (1, 4)], 2, 16, .agg #[.int .i64 0, .bool false], false⟩
def ti198 : TI := ⟨.struct [(0, 3), (1, 4)], 2, 16, .agg #[.int .i64 0, .bool false], true⟩
def ti200 : TI := ⟨.func, 1, 8, .nilFunc, false⟩
def ti201 : TI := ⟨.func, 1, 8, .nilFunc, false⟩
def ti203 : TI := ⟨.func, 1, 8, .nilFunc, false⟩
def ti204 : TI := ⟨.func, 1, 8, .nilFunc, false⟩
def ti206 : TI := ⟨.func, 1, 8, .nilFunc, false⟩
def ti207 : TI := ⟨.func, 1, 8, .nilFunc, false⟩
def ti208 : TI := ⟨.ptr 210, 1, 8, .pointer none, false⟩
def ti209 : TI := ⟨.struct [(0, 208), (1, 95)], 2, 32, .agg #[.pointer none, .slice none 0 0], false⟩
def ti210 : TI := ⟨.struct [(0, 208), (1, 95)], 2, 32, .agg #[.pointer none, .slice none 0 0], false⟩
def ti211 : TI := ⟨.func, 1, 8, .nilFunc, false⟩
def ti212 : TI := ⟨.func, 1, 8, .nilFunc, false⟩
def ti214 : TI := ⟨.func, 1, 8, .nilFunc, false⟩
def ti215 : TI := ⟨.ptr 217, 1, 8, .pointer none, false⟩
def ti216 : TI := ⟨.struct [(0, 5), (1, 9)], 2, 24, .agg #[.int .u8 0, .string ⟨#[]⟩], false⟩
def ti217 : TI := ⟨.struct [(0, 5), (1, 9)], 2, 24, .agg #[.int .u8 0, .string ⟨#[]⟩], true⟩
def ti218 : TI := ⟨.func, 1, 8, .nilFunc, false⟩
def ti220 : TI := ⟨.func, 1, 8, .nilFunc, false⟩
def ti221 : TI := ⟨.func, 1, 8, .nilFunc, false⟩
def ti223 : TI := ⟨.func, 1, 8, .nilFunc, false⟩
def ti224 : TI := ⟨.func, 1, 8, .nilFunc, false⟩
def ti225 : TI := ⟨.func, 1, 8, .nilFunc, false⟩
def ti227 : TI := ⟨.func, 1, 8, .nilFunc, false⟩
def ti228 : TI := ⟨.func, 1, 8, .nilFunc, false⟩
def ti229 : TI := ⟨.func, 1, 8, .nilFunc, false⟩
def ti230 : TI := ⟨.func, 1, 8, .nilFunc, false⟩
def ti231 : TI := ⟨.func, 1, 8, .nilFunc, false⟩
def ti232 : TI := ⟨.ptr 5, 1, 8, .pointer none, false⟩
def ti233 : TI := ⟨.ptr 79, 1, 8, .pointer none, false⟩
def ti234 : TI := ⟨.func, 1, 8, .nilFunc, false⟩
def ti235 : TI := ⟨.func, 1, 8, .nilFunc, false⟩
def ti236 : TI := ⟨.int .u64, 1, 8, .int .u64 0, false⟩
def ti237 : TI := ⟨.ptr 198, 1, 8, .pointer none, false⟩
def ti238 : TI := ⟨.int .i64, 1, 8, .int .i64 0, false⟩
def ti240 : TI := ⟨.func, 1, 8, .nilFunc, false⟩
def ti241 : TI := ⟨.ptr 259, 1, 8, .pointer none, false⟩
def ti242 : TI := ⟨.func, 1, 8, .nilFunc, false⟩
def ti243 : TI := ⟨.func, 1, 8, .nilFunc, false⟩
def ti244 : TI := ⟨.array 24 5, 24, 24, .agg #[.int .u8 0, .int .u8 0, .int .u8 0, .int .u8 0, .int .u8 0, .int .u8 0, .int .u8 0, .int .u8 0, .int .u8 0, .int .u8 0, .int .u8 0, .int .u8 0, .int .u8 0, .int .u8 0, .int .u8 0, .int .u8 0, .int .u8 0, .int .u8 0, .int .u8 0, .int .u8 0, .int .u8 0, .int .u8 0, .int .u8 0, .int .u8 0], false⟩
def ti245 : TI := ⟨.int .u64, 1, 8, .int .u64 0, false⟩
def ti246 : TI := ⟨.func, 1, 8, .nilFunc, false⟩
def ti247 : TI := ⟨.func, 1, 8, .nilFunc, false⟩
def ti249 : TI := ⟨.func, 1, 8, .nilFunc, false⟩
def ti250 : TI := ⟨.func, 1, 8, .nilFunc, false⟩
def ti251 : TI := ⟨.func, 1, 8, .nilFunc, false⟩
def ti252 : TI := ⟨.array 256 5, 256, 256, .agg #[.int .u8 0, .int .u8 0, .int .u8 0, .int .u8 0, .int .u8 0, .int .u8 0, .int .u8 0, .int .u8 0, .int .u8 0, .int .u8 0, .int .u8 0, .int .u8 0, .int .u8 0, .int .u8 0, .int .u8 0, .int .u8 0, .int .u8 0, .int .u8 0, .int .u8 0, .int .u8 0, .int .u8 0, .int .u8 0, .int .u8 0, .int .u8 0, .int .u8 0, .int .u8 0, .int .u8 0, .int .u8 0, .int .u8 0, .int .u8 0, .int .u8 0, .int .u8 0, .int .u8 0, .int .u8 0, .int .u8 0, .int .u8 0, .int .u8 0, .int .u8 0, .int .u8 0, .int .u8 0, .int .u8 0, .int .u8 0, .int .u8 0, .int .u8 0, .int .u8 0, .int .u8 0, .int .u8 0, .int .u8 0, .int .u8 0, .int .u8 0, .int .u8 0, .int .u8 0, .int .u8 0, .int .u8 0, .int .u8 0, .int .u8 0, .int .u8 0, .int .u8 0, .int .u8 0, .int .u8 0, .int .u8 0, .int .u8 0, .int .u8 0, .int .u8 0, .int .u8 0, .int .u8 0, .int .u8 0, .int .u8 0, .int .u8 0, .int .u8 0, .int .u8 0, .int .u8 0, .int .u8 0, .int .u8 0, .int .u8 0, .int .u8 0, .int .u8 0, .int .u8 0, .int .u8 0, .int .u8 0, .int .u8 0, .int .u8 0, .int .u8 0, .int .u8 0, .int .u8 0, .int .u8 0, .int .u8 0, .int .u8 0, .int .u8 0, .int .u8 0, .int .u8 0, .int .u8 0, .int .u8 0, .int .u8 0, .int .u8 0, .int .u8 0, .int .u8 0, .int .u8 0, .int .u8 0, .int .u8 0, .int .u8 0, .int .u8 0, .int .u8 0, .int .u8 0, .int .u8 0, .int .u8 0, .int .u8 0, .int .u8 0, .int .u8 0, .int .u8 0, .int .u8 0, .int .u8 0, .int .u8 0, .int .u8 0, .int .u8 0, .int .u8 0, .int .u8 0, .int .u8 0, .int .u8 0, .int .u8 0, .int .u8 0, .int .u8 0, .int .u8 0, .int .u8 0, .int .u8 0, .int .u8 0, .int .u8 0, .int .u8 0, .int .u8 0, .int .u8 0, .int .u8 0, .int .u8 0, .int .u8 0, .int .u8 0, .int .u8 0, .int .u8 0, .int .u8 0, .int .u8 0, .int .u8 0, .int .u8 0, .int .u8 0, .int .u8 0, .int .u8 0, .int .u8 0, .int .u8 0, .int .u8 0, .int .u8 0, .int .u8 0, .int .u8 0, .int .u8 0, .int .u8 0, .int .u8 0, .int .u8 0, .int .u8 0, .int .u8 0, .int .u8 0, .int .u8 0, .int .u8 0, .int .u8 0, .int .u8 0, .int .u8 0, .int .u8 0, .int .u8 0, .int .u8 0, .int .u8 0, .int .u8 0, .int .u8 0, .int .u8 0, .int .u8 0, .int .u8 0, .int .u8 0, .int .u8 0, .int .u8 0, .int .u8 0, .int .u8 0, .int .u8 0, .int .u8 0, .int .u8 0, .int .u8 0, .int .u8 0, .int .u8 0, .int .u8 0, .int .u8 0, .int .u8 0, .int .u8 0, .int .u8 0, .int .u8 0, .int .u8 0, .int .u8 0, .int .u8 0, .int .u8 0, .int .u8 0, .int .u8 0, .int .u8 0, .int .u8 0, .int .u8 0, .int .u8 0, .int .u8 0, .int .u8 0, .int .u8 0, .int .u8 0, .int .u8 0, .int .u8 0, .int .u8 0, .int .u8 0, .int .u8 0, .int .u8 0, .int .u8 0, .int .u8 0, .int .u8 0, .int .u8 0, .int .u8 0, .int .u8 0, .int .u8 0, .int .u8 0, .int .u8 0, .int .u8 0, .int .u8 0, .int .u8 0, .int .u8 0, .int .u8 0, .int .u8 0, .int .u8 0, .int .u8 0, .int .u8 0, .int .u8 0, .int .u8 0, .int .u8 0, .int .u8 0, .int .u8 0, .int .u8 0, .int .u8 0, .int .u8 0, .int .u8 0, .int .u8 0, .int .u8 0, .int .u8 0, .int .u8 0, .int .u8 0, .int .u8 0, .int .u8 0, .int .u8 0, .int .u8 0, .int .u8 0, .int .u8 0, .int .u8 0, .int .u8 0, .int .u8 0, .int .u8 0, .int .u8 0, .int .u8 0, .int .u8 0, .int .u8 0, .int .u8 0, .int .u8 0, .int .u8 0], false⟩
def ti253 : TI := ⟨.struct [(0, 5), (1, 5)], 2, 2, .agg #[.int .u8 0, .int .u8 0], false⟩
def ti254 : TI := ⟨.struct [(0, 5), (1, 5)], 2, 2, .agg #[.int .u8 0, .int .u8 0], false⟩
def ti255 : TI := ⟨.array 16 254, 32, 32, .agg #[.int .u8 0, .int .u8 0, .int .u8 0, .int .u8 0, .int .u8 0, .int .u8 0, .int .u8 0, .int .u8 0, .int .u8 0, .int .u8 0, .int .u8 0, .int .u8 0, .int .u8 0, .int .u8 0, .int .u8 0, .int .u8 0, .int .u8 0, .int .u8 0, .int .u8 0, .int .u8 0, .int .u8 0, .int .u8 0, .int .u8 0, .int .u8 0, .int .u8 0, .int .u8 0, .int .u8 0, .int .u8 0, .int .u8 0, .int .u8 0, .int .u8 0, .int .u8 0], false⟩
def ti257 : TI := ⟨.func, 1, 8, .nilFunc, false⟩
def ti258 : TI := ⟨.struct [(0, 9), (1, 9), (2, 24)], 3, 48, .agg #[.string ⟨#[]⟩, .string ⟨#[]⟩, .nilIface], false⟩
def ti259 : TI := ⟨.struct [(0, 9), (1, 9), (2, 24)], 3, 48, .agg #[.string ⟨#[]⟩, .string ⟨#[]⟩, .nilIface], false⟩
def ti260 : TI := ⟨.func, 1, 8, .nilFunc, false⟩
def ti261 : TI := ⟨.func, 1, 8, .nilFunc, false⟩
def ti262 : TI := ⟨.array 20 245, 20, 160, .agg #[.int .u64 0, .int .u64 0, .int .u64 0, .int .u64 0, .int .u64 0, .int .u64 0, .int .u64 0, .int .u64 0, .int .u64 0, .int .u64 0, .int .u64 0, .int .u64 0, .int .u64 0, .int .u64 0, .int .u64 0, .int .u64 0, .int .u64 0, .int .u64 0, .int .u64 0, .int .u64 0], false⟩
def ti263 : TI := ⟨.int .u32, 1, 4, .int .u32 0, false⟩
def ti264 : TI := ⟨.array 65 5, 65, 65, .agg #[.int .u8 0, .int .u8 0, .int .u8 0, .int .u8 0, .int .u8 0, .int .u8 0, .int .u8 0, .int .u8 0, .int .u8 0, .int .u8 0, .int .u8 0, .int .u8 0, .int .u8 0, .int .u8 0, .int .u8 0, .int .u8 0, .int .u8 0, .int .u8 0, .int .u8 0, .int .u8 0, .int .u8 0, .int .u8 0, .int .u8 0, .int .u8 0, .int .u8 0, .int .u8 0, .int .u8 0, .int .u8 0, .int .u8 0, .int .u8 0, .int .u8 0, .int .u8 0, .int .u8 0, .int .u8 0, .int .u8 0, .int .u8 0, .int .u8 0, .int .u8 0, .int .u8 0, .int .u8 0, .int .u8 0, .int .u8 0, .int .u8 0, .int .u8 0, .int .u8 0, .int .u8 0, .int .u8 0, .int .u8 0, .int .u8 0, .int .u8 0, .int .u8 0, .int .u8 0, .int .u8 0, .int .u8 0, .int .u8 0, .int .u8 0, .int .u8 0, .int .u8 0, .int .u8 0, .int .u8 0, .int .u8 0, .int .u8 0, .int .u8 0, .int .u8 0, .int .u8 0], false⟩
def ti265 : TI := ⟨.func, 1, 8, .nilFunc, false⟩
def ti267 : TI := ⟨.func, 1, 8, .nilFunc, false⟩
def ti268 : TI := ⟨.func, 1, 8, .nilFunc, false⟩
def ti269 : TI := ⟨.ptr 271, 1, 8, .pointer none, false⟩
def ti270 : TI := ⟨.struct [(0, 9)], 1, 16, .agg #[.string ⟨#[]⟩], false⟩
def ti271 : TI := ⟨.struct [(0, 9)], 1, 16, .agg #[.string ⟨#[]⟩], false⟩
def ti272 : TI := ⟨.func, 1, 8, .nilFunc, false⟩
def ti273 : TI := ⟨.array 32 5, 32, 32, .agg #[.int .u8 0, .int .u8 0, .int .u8 0, .int .u8 0, .int .u8 0, .int .u8 0, .int .u8 0, .int .u8 0, .int .u8 0, .int .u8 0, .int .u8 0, .int .u8 0, .int .u8 0, .int .u8 0, .int .u8 0, .int .u8 0, .int .u8 0, .int .u8 0, .int .u8 0, .int .u8 0, .int .u8 0, .int .u8 0, .int .u8 0, .int .u8 0, .int .u8 0, .int .u8 0, .int .u8 0, .int .u8 0, .int .u8 0, .int .u8 0, .int .u8 0, .int .u8 0], false⟩
def ti274 : TI := ⟨.array 64 5, 64, 64, .agg #[.int .u8 0, .int .u8 0, .int .u8 0, .int .u8 0, .int .u8 0, .int .u8 0, .int .u8 0, .int .u8 0, .int .u8 0, .int .u8 0, .int .u8 0, .int .u8 0, .int .u8 0, .int .u8 0, .int .u8 0, .int .u8 0, .int .u8 0, .int .u8 0, .int .u8 0, .int .u8 0, .int .u8 0, .int .u8 0, .int .u8 0, .int .u8 0, .int .u8 0, .int .u8 0, .int .u8 0, .int .u8 0, .int .u8 0, .int .u8 0, .int .u8 0, .int .u8 0, .int .u8 0, .int .u8 0, .int .u8 0, .int .u8 0, .int .u8 0, .int .u8 0, .int .u8 0, .int .u8 0, .int .u8 0, .int .u8 0, .int .u8 0, .int .u8 0, .int .u8 0, .int .u8 0, .int .u8 0, .int .u8 0, .int .u8 0, .int .u8 0, .int .u8 0, .int .u8 0, .int .u8 0, .int .u8 0, .int .u8 0, .int .u8 0, .int .u8 0, .int .u8 0, .int .u8 0, .int .u8 0, .int .u8 0, .int .u8 0, .int .u8 0, .int .u8 0], false⟩
def ti275 : TI := ⟨.struct [(0, 17), (1, 17), (2, 17), (3, 9)], 4, 40, .agg #[.pointer none, .pointer none, .pointer none, .string ⟨#[]⟩], false⟩
def ti276 : TI := ⟨.struct [(0, 17), (1, 17), (2, 17), (3, 9)], 4, 40, .agg #[.pointer none, .pointer none, .pointer none, .string ⟨#[]⟩], false⟩
def ti277 : TI := ⟨.array 0 16, 0, 0, .agg #[], false⟩
def ti278 : TI := ⟨.struct [(0, 277)], 0, 0, .agg #[], false⟩
def ti279 : TI := ⟨.struct [(0, 277)], 0, 0, .agg #[], false⟩
def ti280 : TI := ⟨.func, 1, 8, .nilFunc, false⟩
def ti281 : TI := ⟨.func, 1, 8, .nilFunc, false⟩
def ti282 : TI := ⟨.int .u8, 1, 1, .int .u8 0, false⟩
def ti283 : TI := ⟨.func, 1, 8, .nilFunc, false⟩
def ti284 : TI := ⟨.int .i32, 1, 4, .int .i32 0, false⟩
def ti285 : TI := ⟨.int .i32, 1, 4, .int .i32 0, false⟩
def ti286 : TI := ⟨.struct [(0, 12), (1, 12), (2, 263), (3, 282), (4, 5), (5, 5), (6, 138), (7, 283), (8, 232), (9, 284), (10, 285)], 11, 48, .agg #[.int .u64 0, .int .u64 0, .int .u32 0, .int .u8 0, .int .u8 0, .int .u8 0, .int .u8 0, .nilFunc, .pointer none, .int .i32 0, .int .i32 0], false⟩
def ti287 : TI := ⟨.struct [(0, 12), (1, 12), (2, 263), (3, 282), (4, 5), (5, 5), (6, 138), (7, 283), (8, 232), (9, 284), (10, 285)], 11, 48, .agg #[.int .u64 0, .int .u64 0, .int .u32 0, .int .u8 0, .int .u8 0, .int .u8 0, .int .u8 0, .nilFunc, .pointer none, .int .i32 0, .int .i32 0], false⟩
def ti288 : TI := ⟨.func, 1, 8, .nilFunc, false⟩
def ti289 : TI := ⟨.func, 1, 8, .nilFunc, false⟩
def ti290 : TI := ⟨.struct [(0, 9), (1, 138)], 2, 24, .agg #[.string ⟨#[]⟩, .int .u8 0], false⟩
def ti291 : TI := ⟨.struct [(0, 9), (1, 138)], 2, 24, .agg #[.string ⟨#[]⟩, .int .u8 0], false⟩
def ti292 : TI := ⟨.ptr 296, 1, 8, .pointer none, false⟩
def ti293 : TI := ⟨.func, 1, 8, .nilFunc, false⟩
def ti294 : TI := ⟨.int .u16, 1, 2, .int .u16 0, false⟩
def ti295 : TI := ⟨.struct [(0, 284), (1, 294), (2, 294), (3, 263), (4, 263)], 5, 16, .agg #[.int .i32 0, .int .u16 0, .int .u16 0, .int .u32 0, .int .u32 0], false⟩
def ti296 : TI := ⟨.struct [(0, 284), (1, 294), (2, 294), (3, 263), (4, 263)], 5, 16, .agg #[.int .i32 0, .int .u16 0, .int .u16 0, .int .u32 0, .int .u32 0], false⟩
def ti297 : TI := ⟨.slice 300, 1, 24, .slice none 0 0, false⟩
def ti298 : TI := ⟨.int .i32, 1, 4, .int .i32 0, false⟩
def ti299 : TI := ⟨.struct [(0, 284), (1, 285), (2, 298), (3, 298)], 4, 16, .agg #[.int .i32 0, .int .i32 0, .int .i32 0, .int .i32 0], false⟩
def ti300 : TI := ⟨.struct [(0, 284), (1, 285), (2, 298), (3, 298)], 4, 16, .agg #[.int .i32 0, .int .i32 0, .int .i32 0, .int .i32 0], false⟩
def ti301 : TI := ⟨.ptr 24, 1, 8, .pointer none, false⟩
def tiList : List (Option TI) := [none, some ti1, some ti2, some ti3, some ti4, some ti5, some ti6, some ti7, some ti8, some ti9, some ti10, some ti11, some ti12, some ti13, some ti14, some ti15, some ti16, some ti17, some ti18, some ti19, some ti20, some ti21, some ti22, some ti23, some ti24, none, some ti26, some ti27, some ti28, some ti29, some ti30, some ti31, some ti32, some ti33, some ti34, some ti35, some ti36, none, some ti38, none, some ti40, some ti41, some ti42, some ti43, some ti44, some ti45, some ti46, some ti47, some ti48, none, some ti50, some ti51, none, some ti53, some ti54, some ti55, some ti56, none, some ti58, none, some ti60, some ti61, some ti62, some ti63, some ti64, some ti65, some ti66, none, some ti68, none, some ti70, some ti71, some ti72, some ti73, some ti74, some ti75, some ti76, some ti77, some ti78, some ti79, some ti80, some ti81, none, some ti83, some ti84, none, some ti86, some ti87, none, some ti89, none, some ti91, some ti92, some ti93, some ti94, some ti95, some ti96, some ti97, some ti98, some ti99, none, some ti101, some ti102, none, some ti104, some ti105, some ti106, some ti107, some ti108, some ti109, none, some ti111, some ti112, some ti113, some ti114, some ti115, some ti116, some ti117, none, some ti119, some ti120, some ti121, none, some ti123, some ti124, none, some ti126, none, some ti128, some ti129, some ti130, some ti131, some ti132, some ti133, some ti134, some ti135, some ti136, some ti137, some ti138, some ti139, some ti140, some ti141, some ti142, some ti143, some ti144, none, some ti146, some ti147, some ti148, some ti149, some ti150, none, some ti152, none, some ti154, some ti155, some ti156, none, some ti158, some ti159, some ti160, none, some ti162, some ti163, some ti164, some ti165, some ti166, some ti167, none, some ti169, some ti170, some ti171, some ti172, none, some ti174, some ti175, some ti176, some ti177, some ti178, none, some ti180, some ti181, some ti182, some ti183, some ti184, some ti185, some ti186, some ti187, some ti188, some ti189, none, some ti191, some ti192, some ti193, some ti194, some ti195, some ti196, some ti197, some ti198, none, some ti200, some ti201, none, some ti203, some ti204, none, some ti206, some ti207, some ti208, some ti209, some ti210, some ti211, some ti212, none, some ti214, some ti215, some ti216, some ti217, some ti218, none, some ti220, some ti221, none, some ti223, some ti224, some ti225, none, some ti227, some ti228, some ti229, some ti230, some ti231, some ti232, some ti233, some ti234, some ti235, some ti236, some ti237, some ti238, none, some ti240, some ti241, some ti242, some ti243, some ti244, some ti245, some ti246, some ti247, none, some ti249, some ti250, some ti251, some ti252, some ti253, some ti254, some ti255, none, some ti257, some ti258, some ti259, some ti260, some ti261, some ti262, some ti263, some ti264, some ti265, none, some ti267, some ti268, some ti269, some ti270, some ti271, some ti272, some ti273, some ti274, some ti275, some ti276, some ti277, some ti278, some ti279, some ti280, some ti281, some ti282, some ti283, some ti284, some ti285, some ti286, some ti287, some ti288, some ti289, some ti290, some ti291, some ti292, some ti293, some ti294, some ti295, some ti296, some ti297, some ti298, some ti299, some ti300, some ti301]
def tabS : TypeId → Option TI := listTab tiList
@[simp] theorem tab3 : tabS 3 = some ti3 := rfl
@[simp] theorem tab9 : tabS 9 = some ti9 := rfl
@[simp] theorem tab22 : tabS 22 = some ti22 := rfl
@[simp] theorem tab28 : tabS 28 = some ti28 := rfl
@[simp] theorem tab29 : tabS 29 = some ti29 := rfl
@[simp] theorem tab31 : tabS 31 = some ti31 := rfl
@[simp] theorem tab43 : tabS 43 = some ti43 := rfl
@[simp] theorem tab46 : tabS 46 = some ti46 := rfl
@[simp] theorem tab55 : tabS 55 = some ti55 := rfl
@[simp] theorem tab56 : tabS 56 = some ti56 := rfl
@[simp] theorem tab79 : tabS 79 = some ti79 := rfl
@[simp] theorem ti3_td : ti3.td = .int .i64 := rfl
@[simp] theorem ti9_td : ti9.td = .str := rfl
@[simp] theorem ti22_td : ti22.td = .slice 31 := rfl
@[simp] theorem ti28_td : ti28.td = .struct [(0, 9), (1, 9)] := rfl
@[simp] theorem ti29_td : ti29.td = .slice 46 := rfl
@[simp] theorem ti31_td : ti31.td = .struct [(0, 3), (1, 28), (3, 28), (5, 9), (6, 29), (7, 9), (8, 3)] := rfl
@[simp] theorem ti43_td : ti43.td = .slice 79 := rfl
@[simp] theorem ti46_td : ti46.td = .struct [(0, 3), (1, 3), (2, 3), (3, 3), (4, 9), (5, 43)] := rfl
@[simp] theorem ti79_td : ti79.td = .struct [(0, 3), (1, 9)] := rfl
theorem tabOK : okList Tryz.prog 0 tiList = true := by kernel_rfl
def isBS (t : TypeId) : Bool := Nat.beq t 210
structure Base where
  w : World
  K0 : KS
noncomputable def cx (w0 : Base) : Ctx := { P := Tryz.prog, w0 := w0.w, K0 := w0.K0, tab := tabS, glob := fun _ => none, lits := ["quote.go:61", "ref.go:42", "myers.go:73"], seals := ["law.go:49", "law.go:59", "myers.go:87"], isB := isBS, u8 := 5 }
theorem cxOK (w0 : Base) : CtxOK (cx w0) := ⟨listTab_ok rfl tabOK, (by kernel_rfl : Tryz.prog.follows .mixedOrders = true), fun t ti hb ht => (by
  have e : t = 210 := Nat.eq_of_beq_eq_true hb
  subst e
  have : some ti210 = some ti := ht
  cases this
  rfl), fun _ => rfl⟩
theorem cxG (w0 : Base) : ∀ g a, (cx w0).glob g = some a → AV.under 0 a = true := fun g a h => by cases h
@[reducible] def selvagelaw28_StreamTotals.id : FuncId := 5
@[reducible] def stream_Parse.id : FuncId := 7
@[reducible] def selvagelaw28_num.id : FuncId := 9
@[reducible] def selvagelaw28_works.id : FuncId := 10
@[reducible] def selvagelaw28_twins.id : FuncId := 11
@[reducible] def stream_Reverse.id : FuncId := 12
@[reducible] def stream_Counts.id : FuncId := 17
@[reducible] def selvageref28_Counts.id : FuncId := 18
@[reducible] def lines_Split.id : FuncId := 21
@[reducible] def lines_Whole.id : FuncId := 22
@[reducible] def stream_reader_now.id : FuncId := 23
@[reducible] def stream_reader_begins.id : FuncId := 24
@[reducible] def stream_reader_named.id : FuncId := 25
@[reducible] def unified_Parse.id : FuncId := 26
@[reducible] def stream_reader_plain.id : FuncId := 28
@[reducible] def stream_reader_ed.id : FuncId := 29
@[reducible] def stream_reader_note.id : FuncId := 30
@[reducible] def errors_As.id : FuncId := 32
@[reducible] def hunks_Reverse.id : FuncId := 33
@[reducible] def stream_named.id : FuncId := 37
@[reducible] def stat_Of.id : FuncId := 38
@[reducible] def selvageref28_named.id : FuncId := 39
@[reducible] def selvageref16_Of.id : FuncId := 40
@[reducible] def lines_Bare.id : FuncId := 44
@[reducible] def lines_Join.id : FuncId := 46
@[reducible] def selvageref01_Whole.id : FuncId := 50
@[reducible] def strings_IndexByte.id : FuncId := 53
@[reducible] def strings_HasSuffix.id : FuncId := 54
@[reducible] def stream_command.id : FuncId := 55
@[reducible] def stream_reader_starts.id : FuncId := 56
@[reducible] def stream_change.id : FuncId := 57
@[reducible] def stream_reader_text.id : FuncId := 58
@[reducible] def stream_reader_add.id : FuncId := 59
@[reducible] def stream_reader_taken.id : FuncId := 60
@[reducible] def unified_reader_read.id : FuncId := 61
@[reducible] def strings_CutPrefix.id : FuncId := 65
@[reducible] def normal_Parse.id : FuncId := 68
@[reducible] def quote_Unquote.id : FuncId := 69
@[reducible] def strings_TrimLeft.id : FuncId := 70
@[reducible] def hunks_Reverse_1.id : FuncId := 75
@[reducible] def hunks_Valid.id : FuncId := 77
@[reducible] def selvageref10_Valid.id : FuncId := 78
@[reducible] def strings_HasPrefix.id : FuncId := 79
@[reducible] def strings_TrimSuffix.id : FuncId := 81
@[reducible] def strconv_Itoa.id : FuncId := 82
@[reducible] def strings_Join.id : FuncId := 83
@[reducible] def stringslite_IndexByte.id : FuncId := 88
@[reducible] def stream_numbers.id : FuncId := 90
@[reducible] def stream_digits.id : FuncId := 91
@[reducible] def strings_Contains.id : FuncId := 92
@[reducible] def lines_Count.id : FuncId := 93
@[reducible] def unified_reader_name.id : FuncId := 94
@[reducible] def unified_reader_hunk.id : FuncId := 95
@[reducible] def stringslite_CutPrefix.id : FuncId := 96
@[reducible] def strings_TrimPrefix.id : FuncId := 97
@[reducible] def normal_command.id : FuncId := 103
@[reducible] def normal_reader_take.id : FuncId := 104
@[reducible] def normal_follows.id : FuncId := 105
@[reducible] def strings_IndexAny.id : FuncId := 106
@[reducible] def quote_meant.id : FuncId := 107
@[reducible] def quote_octal.id : FuncId := 108
@[reducible] def strings_trimLeftByte.id : FuncId := 109
@[reducible] def strings_makeASCIISet.id : FuncId := 110
@[reducible] def strings_trimLeftASCII.id : FuncId := 111
@[reducible] def hunks_sides.id : FuncId := 116
@[reducible] def hunks_place.id : FuncId := 117
@[reducible] def selvageref10_Counts.id : FuncId := 118
@[reducible] def selvageref10_rows.id : FuncId := 119
@[reducible] def selvageref10_start.id : FuncId := 120
@[reducible] def stringslite_HasPrefix.id : FuncId := 121
@[reducible] def strings_Cut.id : FuncId := 122
@[reducible] def strconv_Atoi.id : FuncId := 124
@[reducible] def bytealg_IndexByteString.id : FuncId := 131
@[reducible] def strings_Index.id : FuncId := 132
@[reducible] def strings_Count.id : FuncId := 133
@[reducible] def unified_first.id : FuncId := 134
@[reducible] def unified_reader_rows.id : FuncId := 135
@[reducible] def unified_follows.id : FuncId := 136
@[reducible] def normal_ranged.id : FuncId := 143
@[reducible] def normal_place.id : FuncId := 144
@[reducible] def strings_asciiSet_contains.id : FuncId := 147
@[reducible] def hunks_line.id : FuncId := 150
@[reducible] def hunks_side_add.id : FuncId := 151
@[reducible] def selvageref10_old.id : FuncId := 152
@[reducible] def selvageref10_fresh.id : FuncId := 153
@[reducible] def selvageref10_line.id : FuncId := 154
@[reducible] def stringslite_Cut.id : FuncId := 155
@[reducible] def internal_strconv_Atoi.id : FuncId := 156
@[reducible] def stringslite_Index.id : FuncId := 161
@[reducible] def bytealg_CountString.id : FuncId := 163
@[reducible] def unified_ranged.id : FuncId := 164
@[reducible] def normal_number.id : FuncId := 168
@[reducible] def unified_number.id : FuncId := 185
end Go.Sv
