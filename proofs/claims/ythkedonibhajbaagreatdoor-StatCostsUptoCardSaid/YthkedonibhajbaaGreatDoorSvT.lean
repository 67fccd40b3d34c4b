/- The table of this program's types, as the executor asks it; held against the program by the kernel. Printed by a program of this session. -/
import Derived.Test.YthkedonibhajbaaGreatDoorSvQ
import Derived.Test.YthkedonibhajbaaGreatDoorProg
import Derived.KernelRfl
set_option linter.unusedVariables false
set_option maxRecDepth 100000
namespace Go.Sv
open Go Go.Proofs

def ti1 : TI := ⟨.func, 1, 8, .nilFunc, false⟩
def ti2 : TI := ⟨.int .i64, 1, 8, .int .i64 0, false⟩
def ti3 : TI := ⟨.int .i64, 1, 8, .int .i64 0, false⟩
def ti4 : TI := ⟨.bool, 1, 1, .bool false, false⟩
def ti5 : TI := ⟨.int .u8, 1, 1, .int .u8 0, false⟩
def ti6 : TI := ⟨.int .u8, 1, 1, .int .u8 0, false⟩
def ti7 : TI := ⟨.struct [(0, 2), (1, 3), (2, 4), (3, 6)], 4, 24, .agg #[.int .i64 0, .int .i64 0, .bool false, .int .u8 0], false⟩
def ti8 : TI := ⟨.struct [(0, 2), (1, 3), (2, 4), (3, 6)], 4, 24, .agg #[.int .i64 0, .int .i64 0, .bool false, .int .u8 0], false⟩
def ti9 : TI := ⟨.str, 1, 16, .string ⟨#[]⟩, false⟩
def ti10 : TI := ⟨.str, 1, 16, .string ⟨#[]⟩, false⟩
def ti11 : TI := ⟨.str, 1, 16, .string ⟨#[]⟩, false⟩
def ti12 : TI := ⟨.int .u64, 1, 8, .int .u64 0, false⟩
def ti13 : TI := ⟨.struct [(0, 9), (1, 12)], 2, 24, .agg #[.string ⟨#[]⟩, .int .u64 0], false⟩
def ti14 : TI := ⟨.struct [(0, 9), (1, 12)], 2, 24, .agg #[.string ⟨#[]⟩, .int .u64 0], false⟩
def ti15 : TI := ⟨.ptr 156, 1, 8, .pointer none, false⟩
def ti16 : TI := ⟨.ptr 159, 1, 8, .pointer none, false⟩
def ti17 : TI := ⟨.ptr 166, 1, 8, .pointer none, false⟩
def ti18 : TI := ⟨.struct [(0, 17)], 1, 8, .agg #[.pointer none], false⟩
def ti19 : TI := ⟨.struct [(0, 17)], 1, 8, .agg #[.pointer none], false⟩
def ti20 : TI := ⟨.iface 0, 1, 16, .nilIface, false⟩
def ti21 : TI := ⟨.int .i32, 1, 4, .int .i32 0, false⟩
def ti22 : TI := ⟨.slice 48, 1, 24, .slice none 0 0, false⟩
def ti23 : TI := ⟨.slice 9, 1, 24, .slice none 0 0, false⟩
def ti24 : TI := ⟨.struct [(0, 22), (1, 23), (2, 23), (3, 3)], 4, 80, .agg #[.slice none 0 0, .slice none 0 0, .slice none 0 0, .int .i64 0], false⟩
def ti25 : TI := ⟨.struct [(0, 22), (1, 23), (2, 23), (3, 3)], 4, 80, .agg #[.slice none 0 0, .slice none 0 0, .slice none 0 0, .int .i64 0], false⟩
def ti26 : TI := ⟨.slice 51, 1, 24, .slice none 0 0, false⟩
def ti28 : TI := ⟨.func, 1, 8, .nilFunc, false⟩
def ti29 : TI := ⟨.func, 1, 8, .nilFunc, false⟩
def ti30 : TI := ⟨.struct [(0, 9), (1, 3), (2, 3)], 3, 32, .agg #[.string ⟨#[]⟩, .int .i64 0, .int .i64 0], false⟩
def ti31 : TI := ⟨.struct [(0, 9), (1, 3), (2, 3)], 3, 32, .agg #[.string ⟨#[]⟩, .int .i64 0, .int .i64 0], true⟩
def ti32 : TI := ⟨.iface 1, 1, 16, .nilIface, false⟩
def ti33 : TI := ⟨.iface 1, 1, 16, .nilIface, false⟩
def ti35 : TI := ⟨.func, 1, 8, .nilFunc, false⟩
def ti37 : TI := ⟨.func, 1, 8, .nilFunc, false⟩
def ti38 : TI := ⟨.func, 1, 8, .nilFunc, false⟩
def ti39 : TI := ⟨.func, 1, 8, .nilFunc, false⟩
def ti41 : TI := ⟨.func, 1, 8, .nilFunc, false⟩
def ti42 : TI := ⟨.slice 46, 1, 24, .slice none 0 0, false⟩
def ti44 : TI := ⟨.func, 1, 8, .nilFunc, false⟩
def ti45 : TI := ⟨.func, 1, 8, .nilFunc, false⟩
def ti46 : TI := ⟨.array 2 3, 2, 16, .agg #[.int .i64 0, .int .i64 0], false⟩
def ti47 : TI := ⟨.struct [(0, 3), (1, 3), (2, 3), (3, 3)], 4, 32, .agg #[.int .i64 0, .int .i64 0, .int .i64 0, .int .i64 0], false⟩
def ti48 : TI := ⟨.struct [(0, 3), (1, 3), (2, 3), (3, 3)], 4, 32, .agg #[.int .i64 0, .int .i64 0, .int .i64 0, .int .i64 0], true⟩
def ti49 : TI := ⟨.slice 61, 1, 24, .slice none 0 0, false⟩
def ti50 : TI := ⟨.struct [(0, 3), (1, 3), (2, 3), (3, 3), (4, 9), (5, 49)], 6, 72, .agg #[.int .i64 0, .int .i64 0, .int .i64 0, .int .i64 0, .string ⟨#[]⟩, .slice none 0 0], false⟩
def ti51 : TI := ⟨.struct [(0, 3), (1, 3), (2, 3), (3, 3), (4, 9), (5, 49)], 6, 72, .agg #[.int .i64 0, .int .i64 0, .int .i64 0, .int .i64 0, .string ⟨#[]⟩, .slice none 0 0], false⟩
def ti52 : TI := ⟨.func, 1, 8, .nilFunc, false⟩
def ti54 : TI := ⟨.func, 1, 8, .nilFunc, false⟩
def ti55 : TI := ⟨.slice 31, 1, 24, .slice none 0 0, false⟩
def ti56 : TI := ⟨.func, 1, 8, .nilFunc, false⟩
def ti57 : TI := ⟨.func, 1, 8, .nilFunc, false⟩
def ti58 : TI := ⟨.func, 1, 8, .nilFunc, false⟩
def ti59 : TI := ⟨.func, 1, 8, .nilFunc, false⟩
def ti60 : TI := ⟨.struct [(0, 3), (1, 9)], 2, 24, .agg #[.int .i64 0, .string ⟨#[]⟩], false⟩
def ti61 : TI := ⟨.struct [(0, 3), (1, 9)], 2, 24, .agg #[.int .i64 0, .string ⟨#[]⟩], true⟩
def ti62 : TI := ⟨.int .i64, 1, 8, .int .i64 0, false⟩
def ti63 : TI := ⟨.func, 1, 8, .nilFunc, false⟩
def ti64 : TI := ⟨.func, 1, 8, .nilFunc, false⟩
def ti65 : TI := ⟨.func, 1, 8, .nilFunc, false⟩
def ti66 : TI := ⟨.func, 1, 8, .nilFunc, false⟩
def ti67 : TI := ⟨.func, 1, 8, .nilFunc, false⟩
def ti68 : TI := ⟨.func, 1, 8, .nilFunc, false⟩
def ti69 : TI := ⟨.func, 1, 8, .nilFunc, false⟩
def ti70 : TI := ⟨.func, 1, 8, .nilFunc, false⟩
def ti71 : TI := ⟨.ptr 74, 1, 8, .pointer none, false⟩
def ti72 : TI := ⟨.slice 5, 1, 24, .slice none 0 0, false⟩
def ti73 : TI := ⟨.struct [(0, 71), (1, 72)], 2, 32, .agg #[.pointer none, .slice none 0 0], false⟩
def ti74 : TI := ⟨.struct [(0, 71), (1, 72)], 2, 32, .agg #[.pointer none, .slice none 0 0], false⟩
def ti76 : TI := ⟨.func, 1, 8, .nilFunc, false⟩
def ti77 : TI := ⟨.func, 1, 8, .nilFunc, false⟩
def ti78 : TI := ⟨.func, 1, 8, .nilFunc, false⟩
def ti79 : TI := ⟨.func, 1, 8, .nilFunc, false⟩
def ti80 : TI := ⟨.func, 1, 8, .nilFunc, false⟩
def ti81 : TI := ⟨.func, 1, 8, .nilFunc, false⟩
def ti83 : TI := ⟨.func, 1, 8, .nilFunc, false⟩
def ti84 : TI := ⟨.func, 1, 8, .nilFunc, false⟩
def ti85 : TI := ⟨.func, 1, 8, .nilFunc, false⟩
def ti86 : TI := ⟨.ptr 62, 1, 8, .pointer none, false⟩
def ti87 : TI := ⟨.struct [(0, 3), (1, 4)], 2, 16, .agg #[.int .i64 0, .bool false], false⟩
def ti88 : TI := ⟨.struct [(0, 3), (1, 4)], 2, 16, .agg #[.int .i64 0, .bool false], true⟩
def ti90 : TI := ⟨.func, 1, 8, .nilFunc, false⟩
def ti91 : TI := ⟨.func, 1, 8, .nilFunc, false⟩
def ti92 : TI := ⟨.func, 1, 8, .nilFunc, false⟩
def ti93 : TI := ⟨.func, 1, 8, .nilFunc, false⟩
def ti95 : TI := ⟨.func, 1, 8, .nilFunc, false⟩
def ti96 : TI := ⟨.func, 1, 8, .nilFunc, false⟩
def ti97 : TI := ⟨.int .u64, 1, 8, .int .u64 0, false⟩
def ti99 : TI := ⟨.func, 1, 8, .nilFunc, false⟩
def ti100 : TI := ⟨.func, 1, 8, .nilFunc, false⟩
def ti101 : TI := ⟨.func, 1, 8, .nilFunc, false⟩
def ti102 : TI := ⟨.ptr 5, 1, 8, .pointer none, false⟩
def ti103 : TI := ⟨.unsafeptr, 1, 8, .pointer none, false⟩
def ti104 : TI := ⟨.int .u64, 1, 8, .int .u64 0, false⟩
def ti105 : TI := ⟨.struct [(0, 17), (1, 103), (2, 104)], 3, 24, .agg #[.pointer none, .pointer none, .int .u64 0], false⟩
def ti106 : TI := ⟨.struct [(0, 17), (1, 103), (2, 104)], 3, 24, .agg #[.pointer none, .pointer none, .int .u64 0], false⟩
def ti107 : TI := ⟨.func, 1, 8, .nilFunc, false⟩
def ti108 : TI := ⟨.iface 11, 1, 16, .nilIface, false⟩
def ti109 : TI := ⟨.iface 11, 1, 16, .nilIface, false⟩
def ti110 : TI := ⟨.func, 1, 8, .nilFunc, false⟩
def ti111 : TI := ⟨.int .u8, 1, 1, .int .u8 0, false⟩
def ti112 : TI := ⟨.func, 1, 8, .nilFunc, false⟩
def ti113 : TI := ⟨.func, 1, 8, .nilFunc, false⟩
def ti114 : TI := ⟨.func, 1, 8, .nilFunc, false⟩
def ti115 : TI := ⟨.func, 1, 8, .nilFunc, false⟩
def ti116 : TI := ⟨.func, 1, 8, .nilFunc, false⟩
def ti117 : TI := ⟨.func, 1, 8, .nilFunc, false⟩
def ti118 : TI := ⟨.int .u32, 1, 4, .int .u32 0, false⟩
def ti120 : TI := ⟨.func, 1, 8, .nilFunc, false⟩
def ti121 : TI := ⟨.int .u64, 1, 8, .int .u64 0, false⟩
def ti123 : TI := ⟨.func, 1, 8, .nilFunc, false⟩
def ti124 : TI := ⟨.struct [(0, 17)], 1, 8, .agg #[.pointer none], false⟩
def ti125 : TI := ⟨.struct [(0, 17)], 1, 8, .agg #[.pointer none], false⟩
def ti126 : TI := ⟨.ptr 170, 1, 8, .pointer none, false⟩
def ti127 : TI := ⟨.func, 1, 8, .nilFunc, false⟩
def ti128 : TI := ⟨.func, 1, 8, .nilFunc, false⟩
def ti129 : TI := ⟨.func, 1, 8, .nilFunc, false⟩
def ti130 : TI := ⟨.iface 1, 1, 16, .nilIface, false⟩
def ti132 : TI := ⟨.func, 1, 8, .nilFunc, false⟩
def ti133 : TI := ⟨.iface 1, 1, 16, .nilIface, false⟩
def ti134 : TI := ⟨.func, 1, 8, .nilFunc, false⟩
def ti135 : TI := ⟨.iface 1, 1, 16, .nilIface, false⟩
def ti136 : TI := ⟨.slice 33, 1, 24, .slice none 0 0, false⟩
def ti137 : TI := ⟨.func, 1, 8, .nilFunc, false⟩
def ti138 : TI := ⟨.ptr 88, 1, 8, .pointer none, false⟩
def ti139 : TI := ⟨.array 24 5, 24, 24, .agg #[.int .u8 0, .int .u8 0, .int .u8 0, .int .u8 0, .int .u8 0, .int .u8 0, .int .u8 0, .int .u8 0, .int .u8 0, .int .u8 0, .int .u8 0, .int .u8 0, .int .u8 0, .int .u8 0, .int .u8 0, .int .u8 0, .int .u8 0, .int .u8 0, .int .u8 0, .int .u8 0, .int .u8 0, .int .u8 0, .int .u8 0, .int .u8 0], false⟩
def ti140 : TI := ⟨.func, 1, 8, .nilFunc, false⟩
def ti141 : TI := ⟨.func, 1, 8, .nilFunc, false⟩
def ti143 : TI := ⟨.func, 1, 8, .nilFunc, false⟩
def ti144 : TI := ⟨.func, 1, 8, .nilFunc, false⟩
def ti145 : TI := ⟨.func, 1, 8, .nilFunc, false⟩
def ti146 : TI := ⟨.func, 1, 8, .nilFunc, false⟩
def ti147 : TI := ⟨.func, 1, 8, .nilFunc, false⟩
def ti148 : TI := ⟨.array 20 121, 20, 160, .agg #[.int .u64 0, .int .u64 0, .int .u64 0, .int .u64 0, .int .u64 0, .int .u64 0, .int .u64 0, .int .u64 0, .int .u64 0, .int .u64 0, .int .u64 0, .int .u64 0, .int .u64 0, .int .u64 0, .int .u64 0, .int .u64 0, .int .u64 0, .int .u64 0, .int .u64 0, .int .u64 0], false⟩
def ti149 : TI := ⟨.array 65 5, 65, 65, .agg #[.int .u8 0, .int .u8 0, .int .u8 0, .int .u8 0, .int .u8 0, .int .u8 0, .int .u8 0, .int .u8 0, .int .u8 0, .int .u8 0, .int .u8 0, .int .u8 0, .int .u8 0, .int .u8 0, .int .u8 0, .int .u8 0, .int .u8 0, .int .u8 0, .int .u8 0, .int .u8 0, .int .u8 0, .int .u8 0, .int .u8 0, .int .u8 0, .int .u8 0, .int .u8 0, .int .u8 0, .int .u8 0, .int .u8 0, .int .u8 0, .int .u8 0, .int .u8 0, .int .u8 0, .int .u8 0, .int .u8 0, .int .u8 0, .int .u8 0, .int .u8 0, .int .u8 0, .int .u8 0, .int .u8 0, .int .u8 0, .int .u8 0, .int .u8 0, .int .u8 0, .int .u8 0, .int .u8 0, .int .u8 0, .int .u8 0, .int .u8 0, .int .u8 0, .int .u8 0, .int .u8 0, .int .u8 0, .int .u8 0, .int .u8 0, .int .u8 0, .int .u8 0, .int .u8 0, .int .u8 0, .int .u8 0, .int .u8 0, .int .u8 0, .int .u8 0, .int .u8 0], false⟩
def ti150 : TI := ⟨.func, 1, 8, .nilFunc, false⟩
def ti151 : TI := ⟨.func, 1, 8, .nilFunc, false⟩
def ti152 : TI := ⟨.func, 1, 8, .nilFunc, false⟩
def ti153 : TI := ⟨.array 32 5, 32, 32, .agg #[.int .u8 0, .int .u8 0, .int .u8 0, .int .u8 0, .int .u8 0, .int .u8 0, .int .u8 0, .int .u8 0, .int .u8 0, .int .u8 0, .int .u8 0, .int .u8 0, .int .u8 0, .int .u8 0, .int .u8 0, .int .u8 0, .int .u8 0, .int .u8 0, .int .u8 0, .int .u8 0, .int .u8 0, .int .u8 0, .int .u8 0, .int .u8 0, .int .u8 0, .int .u8 0, .int .u8 0, .int .u8 0, .int .u8 0, .int .u8 0, .int .u8 0, .int .u8 0], false⟩
def ti154 : TI := ⟨.array 64 5, 64, 64, .agg #[.int .u8 0, .int .u8 0, .int .u8 0, .int .u8 0, .int .u8 0, .int .u8 0, .int .u8 0, .int .u8 0, .int .u8 0, .int .u8 0, .int .u8 0, .int .u8 0, .int .u8 0, .int .u8 0, .int .u8 0, .int .u8 0, .int .u8 0, .int .u8 0, .int .u8 0, .int .u8 0, .int .u8 0, .int .u8 0, .int .u8 0, .int .u8 0, .int .u8 0, .int .u8 0, .int .u8 0, .int .u8 0, .int .u8 0, .int .u8 0, .int .u8 0, .int .u8 0, .int .u8 0, .int .u8 0, .int .u8 0, .int .u8 0, .int .u8 0, .int .u8 0, .int .u8 0, .int .u8 0, .int .u8 0, .int .u8 0, .int .u8 0, .int .u8 0, .int .u8 0, .int .u8 0, .int .u8 0, .int .u8 0, .int .u8 0, .int .u8 0, .int .u8 0, .int .u8 0, .int .u8 0, .int .u8 0, .int .u8 0, .int .u8 0, .int .u8 0, .int .u8 0, .int .u8 0, .int .u8 0, .int .u8 0, .int .u8 0, .int .u8 0, .int .u8 0], false⟩
def ti155 : TI := ⟨.struct [(0, 17), (1, 17), (2, 17), (3, 9)], 4, 40, .agg #[.pointer none, .pointer none, .pointer none, .string ⟨#[]⟩], false⟩
def ti156 : TI := ⟨.struct [(0, 17), (1, 17), (2, 17), (3, 9)], 4, 40, .agg #[.pointer none, .pointer none, .pointer none, .string ⟨#[]⟩], false⟩
def ti157 : TI := ⟨.array 0 16, 0, 0, .agg #[], false⟩
def ti158 : TI := ⟨.struct [(0, 157)], 0, 0, .agg #[], false⟩
def ti159 : TI := ⟨.struct [(0, 157)], 0, 0, .agg #[], false⟩
def ti160 : TI := ⟨.func, 1, 8, .nilFunc, false⟩
def ti161 : TI := ⟨.int .u8, 1, 1, .int .u8 0, false⟩
def ti162 : TI := ⟨.func, 1, 8, .nilFunc, false⟩
def ti163 : TI := ⟨.int .i32, 1, 4, .int .i32 0, false⟩
def ti164 : TI := ⟨.int .i32, 1, 4, .int .i32 0, false⟩
def ti165 : TI := ⟨.struct [(0, 12), (1, 12), (2, 118), (3, 161), (4, 5), (5, 5), (6, 111), (7, 162), (8, 102), (9, 163), (10, 164)], 11, 48, .agg #[.int .u64 0, .int .u64 0, .int .u32 0, .int .u8 0, .int .u8 0, .int .u8 0, .int .u8 0, .nilFunc, .pointer none, .int .i32 0, .int .i32 0], false⟩
def ti166 : TI := ⟨.struct [(0, 12), (1, 12), (2, 118), (3, 161), (4, 5), (5, 5), (6, 111), (7, 162), (8, 102), (9, 163), (10, 164)], 11, 48, .agg #[.int .u64 0, .int .u64 0, .int .u32 0, .int .u8 0, .int .u8 0, .int .u8 0, .int .u8 0, .nilFunc, .pointer none, .int .i32 0, .int .i32 0], false⟩
def ti167 : TI := ⟨.func, 1, 8, .nilFunc, false⟩
def ti168 : TI := ⟨.func, 1, 8, .nilFunc, false⟩
def ti169 : TI := ⟨.struct [(0, 9), (1, 111)], 2, 24, .agg #[.string ⟨#[]⟩, .int .u8 0], false⟩
def ti170 : TI := ⟨.struct [(0, 9), (1, 111)], 2, 24, .agg #[.string ⟨#[]⟩, .int .u8 0], false⟩
def ti171 : TI := ⟨.ptr 175, 1, 8, .pointer none, false⟩
def ti172 : TI := ⟨.func, 1, 8, .nilFunc, false⟩
def ti173 : TI := ⟨.int .u16, 1, 2, .int .u16 0, false⟩
def ti174 : TI := ⟨.struct [(0, 163), (1, 173), (2, 173), (3, 118), (4, 118)], 5, 16, .agg #[.int .i32 0, .int .u16 0, .int .u16 0, .int .u32 0, .int .u32 0], false⟩
def ti175 : TI := ⟨.struct [(0, 163), (1, 173), (2, 173), (3, 118), (4, 118)], 5, 16, .agg #[.int .i32 0, .int .u16 0, .int .u16 0, .int .u32 0, .int .u32 0], false⟩
def ti176 : TI := ⟨.slice 179, 1, 24, .slice none 0 0, false⟩
def ti177 : TI := ⟨.int .i32, 1, 4, .int .i32 0, false⟩
def ti178 : TI := ⟨.struct [(0, 163), (1, 164), (2, 177), (3, 177)], 4, 16, .agg #[.int .i32 0, .int .i32 0, .int .i32 0, .int .i32 0], false⟩
def ti179 : TI := ⟨.struct [(0, 163), (1, 164), (2, 177), (3, 177)], 4, 16, .agg #[.int .i32 0, .int .i32 0, .int .i32 0, .int .i32 0], false⟩
def ti180 : TI := ⟨.ptr 33, 1, 8, .pointer none, false⟩
def tiList : List (Option TI) := [none, some ti1, some ti2, some ti3, some ti4, some ti5, some ti6, some ti7, some ti8, some ti9, some ti10, some ti11, some ti12, some ti13, some ti14, some ti15, some ti16, some ti17, some ti18, some ti19, some ti20, some ti21, some ti22, some ti23, some ti24, some ti25, some ti26, none, some ti28, some ti29, some ti30, some ti31, some ti32, some ti33, none, some ti35, none, some ti37, some ti38, some ti39, none, some ti41, some ti42, none, some ti44, some ti45, some ti46, some ti47, some ti48, some ti49, some ti50, some ti51, some ti52, none, some ti54, some ti55, some ti56, some ti57, some ti58, some ti59, some ti60, some ti61, some ti62, some ti63, some ti64, some ti65, some ti66, some ti67, some ti68, some ti69, some ti70, some ti71, some ti72, some ti73, some ti74, none, some ti76, some ti77, some ti78, some ti79, some ti80, some ti81, none, some ti83, some ti84, some ti85, some ti86, some ti87, some ti88, none, some ti90, some ti91, some ti92, some ti93, none, some ti95, some ti96, some ti97, none, some ti99, some ti100, some ti101, some ti102, some ti103, some ti104, some ti105, some ti106, some ti107, some ti108, some ti109, some ti110, some ti111, some ti112, some ti113, some ti114, some ti115, some ti116, some ti117, some ti118, none, some ti120, some ti121, none, some ti123, some ti124, some ti125, some ti126, some ti127, some ti128, some ti129, some ti130, none, some ti132, some ti133, some ti134, some ti135, some ti136, some ti137, some ti138, some ti139, some ti140, some ti141, none, some ti143, some ti144, some ti145, some ti146, some ti147, some ti148, some ti149, some ti150, some ti151, some ti152, some ti153, some ti154, some ti155, some ti156, some ti157, some ti158, some ti159, some ti160, some ti161, some ti162, some ti163, some ti164, some ti165, some ti166, some ti167, some ti168, some ti169, some ti170, some ti171, some ti172, some ti173, some ti174, some ti175, some ti176, some ti177, some ti178, some ti179, some ti180]
def tabS : TypeId → Option TI := listTab tiList
@[simp] theorem tab1 : tabS 1 = some ti1 := rfl
@[simp] theorem tab2 : tabS 2 = some ti2 := rfl
@[simp] theorem tab3 : tabS 3 = some ti3 := rfl
@[simp] theorem tab4 : tabS 4 = some ti4 := rfl
@[simp] theorem tab5 : tabS 5 = some ti5 := rfl
@[simp] theorem tab6 : tabS 6 = some ti6 := rfl
@[simp] theorem tab7 : tabS 7 = some ti7 := rfl
@[simp] theorem tab8 : tabS 8 = some ti8 := rfl
@[simp] theorem tab9 : tabS 9 = some ti9 := rfl
@[simp] theorem tab10 : tabS 10 = some ti10 := rfl
@[simp] theorem tab11 : tabS 11 = some ti11 := rfl
@[simp] theorem tab12 : tabS 12 = some ti12 := rfl
@[simp] theorem tab13 : tabS 13 = some ti13 := rfl
@[simp] theorem tab14 : tabS 14 = some ti14 := rfl
@[simp] theorem tab15 : tabS 15 = some ti15 := rfl
@[simp] theorem tab16 : tabS 16 = some ti16 := rfl
@[simp] theorem tab17 : tabS 17 = some ti17 := rfl
@[simp] theorem tab18 : tabS 18 = some ti18 := rfl
@[simp] theorem tab19 : tabS 19 = some ti19 := rfl
@[simp] theorem tab20 : tabS 20 = some ti20 := rfl
@[simp] theorem tab21 : tabS 21 = some ti21 := rfl
@[simp] theorem tab22 : tabS 22 = some ti22 := rfl
@[simp] theorem tab23 : tabS 23 = some ti23 := rfl
@[simp] theorem tab24 : tabS 24 = some ti24 := rfl
@[simp] theorem tab25 : tabS 25 = some ti25 := rfl
@[simp] theorem tab26 : tabS 26 = some ti26 := rfl
@[simp] theorem tab28 : tabS 28 = some ti28 := rfl
@[simp] theorem tab29 : tabS 29 = some ti29 := rfl
@[simp] theorem tab30 : tabS 30 = some ti30 := rfl
@[simp] theorem tab31 : tabS 31 = some ti31 := rfl
@[simp] theorem tab32 : tabS 32 = some ti32 := rfl
@[simp] theorem tab33 : tabS 33 = some ti33 := rfl
@[simp] theorem tab35 : tabS 35 = some ti35 := rfl
@[simp] theorem tab37 : tabS 37 = some ti37 := rfl
@[simp] theorem tab38 : tabS 38 = some ti38 := rfl
@[simp] theorem tab39 : tabS 39 = some ti39 := rfl
@[simp] theorem tab41 : tabS 41 = some ti41 := rfl
@[simp] theorem tab42 : tabS 42 = some ti42 := rfl
@[simp] theorem tab44 : tabS 44 = some ti44 := rfl
@[simp] theorem tab45 : tabS 45 = some ti45 := rfl
@[simp] theorem tab46 : tabS 46 = some ti46 := rfl
@[simp] theorem tab47 : tabS 47 = some ti47 := rfl
@[simp] theorem tab48 : tabS 48 = some ti48 := rfl
@[simp] theorem tab49 : tabS 49 = some ti49 := rfl
@[simp] theorem tab50 : tabS 50 = some ti50 := rfl
@[simp] theorem tab51 : tabS 51 = some ti51 := rfl
@[simp] theorem tab52 : tabS 52 = some ti52 := rfl
@[simp] theorem tab54 : tabS 54 = some ti54 := rfl
@[simp] theorem tab55 : tabS 55 = some ti55 := rfl
@[simp] theorem tab56 : tabS 56 = some ti56 := rfl
@[simp] theorem tab57 : tabS 57 = some ti57 := rfl
@[simp] theorem tab58 : tabS 58 = some ti58 := rfl
@[simp] theorem tab59 : tabS 59 = some ti59 := rfl
@[simp] theorem tab60 : tabS 60 = some ti60 := rfl
@[simp] theorem tab61 : tabS 61 = some ti61 := rfl
@[simp] theorem tab62 : tabS 62 = some ti62 := rfl
@[simp] theorem tab63 : tabS 63 = some ti63 := rfl
@[simp] theorem tab64 : tabS 64 = some ti64 := rfl
@[simp] theorem tab65 : tabS 65 = some ti65 := rfl
@[simp] theorem tab66 : tabS 66 = some ti66 := rfl
@[simp] theorem tab67 : tabS 67 = some ti67 := rfl
@[simp] theorem tab68 : tabS 68 = some ti68 := rfl
@[simp] theorem tab69 : tabS 69 = some ti69 := rfl
@[simp] theorem tab70 : tabS 70 = some ti70 := rfl
@[simp] theorem tab71 : tabS 71 = some ti71 := rfl
@[simp] theorem tab72 : tabS 72 = some ti72 := rfl
@[simp] theorem tab73 : tabS 73 = some ti73 := rfl
@[simp] theorem tab74 : tabS 74 = some ti74 := rfl
@[simp] theorem tab76 : tabS 76 = some ti76 := rfl
@[simp] theorem tab77 : tabS 77 = some ti77 := rfl
@[simp] theorem tab78 : tabS 78 = some ti78 := rfl
@[simp] theorem tab79 : tabS 79 = some ti79 := rfl
@[simp] theorem tab80 : tabS 80 = some ti80 := rfl
@[simp] theorem tab81 : tabS 81 = some ti81 := rfl
@[simp] theorem tab83 : tabS 83 = some ti83 := rfl
@[simp] theorem tab84 : tabS 84 = some ti84 := rfl
@[simp] theorem tab85 : tabS 85 = some ti85 := rfl
@[simp] theorem tab86 : tabS 86 = some ti86 := rfl
@[simp] theorem tab87 : tabS 87 = some ti87 := rfl
@[simp] theorem tab88 : tabS 88 = some ti88 := rfl
@[simp] theorem tab90 : tabS 90 = some ti90 := rfl
@[simp] theorem tab91 : tabS 91 = some ti91 := rfl
@[simp] theorem tab92 : tabS 92 = some ti92 := rfl
@[simp] theorem tab93 : tabS 93 = some ti93 := rfl
@[simp] theorem tab95 : tabS 95 = some ti95 := rfl
@[simp] theorem tab96 : tabS 96 = some ti96 := rfl
@[simp] theorem tab97 : tabS 97 = some ti97 := rfl
@[simp] theorem tab99 : tabS 99 = some ti99 := rfl
@[simp] theorem tab100 : tabS 100 = some ti100 := rfl
@[simp] theorem tab101 : tabS 101 = some ti101 := rfl
@[simp] theorem tab102 : tabS 102 = some ti102 := rfl
@[simp] theorem tab103 : tabS 103 = some ti103 := rfl
@[simp] theorem tab104 : tabS 104 = some ti104 := rfl
@[simp] theorem tab105 : tabS 105 = some ti105 := rfl
@[simp] theorem tab106 : tabS 106 = some ti106 := rfl
@[simp] theorem tab107 : tabS 107 = some ti107 := rfl
@[simp] theorem tab108 : tabS 108 = some ti108 := rfl
@[simp] theorem tab109 : tabS 109 = some ti109 := rfl
@[simp] theorem tab110 : tabS 110 = some ti110 := rfl
@[simp] theorem tab111 : tabS 111 = some ti111 := rfl
@[simp] theorem tab112 : tabS 112 = some ti112 := rfl
@[simp] theorem tab113 : tabS 113 = some ti113 := rfl
@[simp] theorem tab114 : tabS 114 = some ti114 := rfl
@[simp] theorem tab115 : tabS 115 = some ti115 := rfl
@[simp] theorem tab116 : tabS 116 = some ti116 := rfl
@[simp] theorem tab117 : tabS 117 = some ti117 := rfl
@[simp] theorem tab118 : tabS 118 = some ti118 := rfl
@[simp] theorem tab120 : tabS 120 = some ti120 := rfl
@[simp] theorem tab121 : tabS 121 = some ti121 := rfl
@[simp] theorem tab123 : tabS 123 = some ti123 := rfl
@[simp] theorem tab124 : tabS 124 = some ti124 := rfl
@[simp] theorem tab125 : tabS 125 = some ti125 := rfl
@[simp] theorem tab126 : tabS 126 = some ti126 := rfl
@[simp] theorem tab127 : tabS 127 = some ti127 := rfl
@[simp] theorem tab128 : tabS 128 = some ti128 := rfl
@[simp] theorem tab129 : tabS 129 = some ti129 := rfl
@[simp] theorem tab130 : tabS 130 = some ti130 := rfl
@[simp] theorem tab132 : tabS 132 = some ti132 := rfl
@[simp] theorem tab133 : tabS 133 = some ti133 := rfl
@[simp] theorem tab134 : tabS 134 = some ti134 := rfl
@[simp] theorem tab135 : tabS 135 = some ti135 := rfl
@[simp] theorem tab136 : tabS 136 = some ti136 := rfl
@[simp] theorem tab137 : tabS 137 = some ti137 := rfl
@[simp] theorem tab138 : tabS 138 = some ti138 := rfl
@[simp] theorem tab139 : tabS 139 = some ti139 := rfl
@[simp] theorem tab140 : tabS 140 = some ti140 := rfl
@[simp] theorem tab141 : tabS 141 = some ti141 := rfl
@[simp] theorem tab143 : tabS 143 = some ti143 := rfl
@[simp] theorem tab144 : tabS 144 = some ti144 := rfl
@[simp] theorem tab145 : tabS 145 = some ti145 := rfl
@[simp] theorem tab146 : tabS 146 = some ti146 := rfl
@[simp] theorem tab147 : tabS 147 = some ti147 := rfl
@[simp] theorem tab148 : tabS 148 = some ti148 := rfl
@[simp] theorem tab149 : tabS 149 = some ti149 := rfl
@[simp] theorem tab150 : tabS 150 = some ti150 := rfl
@[simp] theorem tab151 : tabS 151 = some ti151 := rfl
@[simp] theorem tab152 : tabS 152 = some ti152 := rfl
@[simp] theorem tab153 : tabS 153 = some ti153 := rfl
@[simp] theorem tab154 : tabS 154 = some ti154 := rfl
@[simp] theorem tab155 : tabS 155 = some ti155 := rfl
@[simp] theorem tab156 : tabS 156 = some ti156 := rfl
@[simp] theorem tab157 : tabS 157 = some ti157 := rfl
@[simp] theorem tab158 : tabS 158 = some ti158 := rfl
@[simp] theorem tab159 : tabS 159 = some ti159 := rfl
@[simp] theorem tab160 : tabS 160 = some ti160 := rfl
@[simp] theorem tab161 : tabS 161 = some ti161 := rfl
@[simp] theorem tab162 : tabS 162 = some ti162 := rfl
@[simp] theorem tab163 : tabS 163 = some ti163 := rfl
@[simp] theorem tab164 : tabS 164 = some ti164 := rfl
@[simp] theorem tab165 : tabS 165 = some ti165 := rfl
@[simp] theorem tab166 : tabS 166 = some ti166 := rfl
@[simp] theorem tab167 : tabS 167 = some ti167 := rfl
@[simp] theorem tab168 : tabS 168 = some ti168 := rfl
@[simp] theorem tab169 : tabS 169 = some ti169 := rfl
@[simp] theorem tab170 : tabS 170 = some ti170 := rfl
@[simp] theorem tab171 : tabS 171 = some ti171 := rfl
@[simp] theorem tab172 : tabS 172 = some ti172 := rfl
@[simp] theorem tab173 : tabS 173 = some ti173 := rfl
@[simp] theorem tab174 : tabS 174 = some ti174 := rfl
@[simp] theorem tab175 : tabS 175 = some ti175 := rfl
@[simp] theorem tab176 : tabS 176 = some ti176 := rfl
@[simp] theorem tab177 : tabS 177 = some ti177 := rfl
@[simp] theorem tab178 : tabS 178 = some ti178 := rfl
@[simp] theorem tab179 : tabS 179 = some ti179 := rfl
@[simp] theorem tab180 : tabS 180 = some ti180 := rfl
@[simp] theorem ti1_td : ti1.td = .func := rfl
@[simp] theorem ti1_size : ti1.size = 1 := rfl
@[simp] theorem ti1_bytes : ti1.bytes = 8 := rfl
@[simp] theorem ti1_zero : ti1.zero = .nilFunc := rfl
@[simp] theorem ti2_td : ti2.td = .int .i64 := rfl
@[simp] theorem ti2_size : ti2.size = 1 := rfl
@[simp] theorem ti2_bytes : ti2.bytes = 8 := rfl
@[simp] theorem ti2_zero : ti2.zero = .int .i64 0 := rfl
@[simp] theorem ti3_td : ti3.td = .int .i64 := rfl
@[simp] theorem ti3_size : ti3.size = 1 := rfl
@[simp] theorem ti3_bytes : ti3.bytes = 8 := rfl
@[simp] theorem ti3_zero : ti3.zero = .int .i64 0 := rfl
@[simp] theorem ti4_td : ti4.td = .bool := rfl
@[simp] theorem ti4_size : ti4.size = 1 := rfl
@[simp] theorem ti4_bytes : ti4.bytes = 1 := rfl
@[simp] theorem ti4_zero : ti4.zero = .bool false := rfl
@[simp] theorem ti5_td : ti5.td = .int .u8 := rfl
@[simp] theorem ti5_size : ti5.size = 1 := rfl
@[simp] theorem ti5_bytes : ti5.bytes = 1 := rfl
@[simp] theorem ti5_zero : ti5.zero = .int .u8 0 := rfl
@[simp] theorem ti6_td : ti6.td = .int .u8 := rfl
@[simp] theorem ti6_size : ti6.size = 1 := rfl
@[simp] theorem ti6_bytes : ti6.bytes = 1 := rfl
@[simp] theorem ti6_zero : ti6.zero = .int .u8 0 := rfl
@[simp] theorem ti7_td : ti7.td = .struct [(0, 2), (1, 3), (2, 4), (3, 6)] := rfl
@[simp] theorem ti7_size : ti7.size = 4 := rfl
@[simp] theorem ti7_bytes : ti7.bytes = 24 := rfl
@[simp] theorem ti7_zero : ti7.zero = .agg #[.int .i64 0, .int .i64 0, .bool false, .int .u8 0] := rfl
@[simp] theorem ti8_td : ti8.td = .struct [(0, 2), (1, 3), (2, 4), (3, 6)] := rfl
@[simp] theorem ti8_size : ti8.size = 4 := rfl
@[simp] theorem ti8_bytes : ti8.bytes = 24 := rfl
@[simp] theorem ti8_zero : ti8.zero = .agg #[.int .i64 0, .int .i64 0, .bool false, .int .u8 0] := rfl
@[simp] theorem ti9_td : ti9.td = .str := rfl
@[simp] theorem ti9_size : ti9.size = 1 := rfl
@[simp] theorem ti9_bytes : ti9.bytes = 16 := rfl
@[simp] theorem ti9_zero : ti9.zero = .string ⟨#[]⟩ := rfl
@[simp] theorem ti10_td : ti10.td = .str := rfl
@[simp] theorem ti10_size : ti10.size = 1 := rfl
@[simp] theorem ti10_bytes : ti10.bytes = 16 := rfl
@[simp] theorem ti10_zero : ti10.zero = .string ⟨#[]⟩ := rfl
@[simp] theorem ti11_td : ti11.td = .str := rfl
@[simp] theorem ti11_size : ti11.size = 1 := rfl
@[simp] theorem ti11_bytes : ti11.bytes = 16 := rfl
@[simp] theorem ti11_zero : ti11.zero = .string ⟨#[]⟩ := rfl
@[simp] theorem ti12_td : ti12.td = .int .u64 := rfl
@[simp] theorem ti12_size : ti12.size = 1 := rfl
@[simp] theorem ti12_bytes : ti12.bytes = 8 := rfl
@[simp] theorem ti12_zero : ti12.zero = .int .u64 0 := rfl
@[simp] theorem ti13_td : ti13.td = .struct [(0, 9), (1, 12)] := rfl
@[simp] theorem ti13_size : ti13.size = 2 := rfl
@[simp] theorem ti13_bytes : ti13.bytes = 24 := rfl
@[simp] theorem ti13_zero : ti13.zero = .agg #[.string ⟨#[]⟩, .int .u64 0] := rfl
@[simp] theorem ti14_td : ti14.td = .struct [(0, 9), (1, 12)] := rfl
@[simp] theorem ti14_size : ti14.size = 2 := rfl
@[simp] theorem ti14_bytes : ti14.bytes = 24 := rfl
@[simp] theorem ti14_zero : ti14.zero = .agg #[.string ⟨#[]⟩, .int .u64 0] := rfl
@[simp] theorem ti15_td : ti15.td = .ptr 156 := rfl
@[simp] theorem ti15_size : ti15.size = 1 := rfl
@[simp] theorem ti15_bytes : ti15.bytes = 8 := rfl
@[simp] theorem ti15_zero : ti15.zero = .pointer none := rfl
@[simp] theorem ti16_td : ti16.td = .ptr 159 := rfl
@[simp] theorem ti16_size : ti16.size = 1 := rfl
@[simp] theorem ti16_bytes : ti16.bytes = 8 := rfl
@[simp] theorem ti16_zero : ti16.zero = .pointer none := rfl
@[simp] theorem ti17_td : ti17.td = .ptr 166 := rfl
@[simp] theorem ti17_size : ti17.size = 1 := rfl
@[simp] theorem ti17_bytes : ti17.bytes = 8 := rfl
@[simp] theorem ti17_zero : ti17.zero = .pointer none := rfl
@[simp] theorem ti18_td : ti18.td = .struct [(0, 17)] := rfl
@[simp] theorem ti18_size : ti18.size = 1 := rfl
@[simp] theorem ti18_bytes : ti18.bytes = 8 := rfl
@[simp] theorem ti18_zero : ti18.zero = .agg #[.pointer none] := rfl
@[simp] theorem ti19_td : ti19.td = .struct [(0, 17)] := rfl
@[simp] theorem ti19_size : ti19.size = 1 := rfl
@[simp] theorem ti19_bytes : ti19.bytes = 8 := rfl
@[simp] theorem ti19_zero : ti19.zero = .agg #[.pointer none] := rfl
@[simp] theorem ti20_td : ti20.td = .iface 0 := rfl
@[simp] theorem ti20_size : ti20.size = 1 := rfl
@[simp] theorem ti20_bytes : ti20.bytes = 16 := rfl
@[simp] theorem ti20_zero : ti20.zero = .nilIface := rfl
@[simp] theorem ti21_td : ti21.td = .int .i32 := rfl
@[simp] theorem ti21_size : ti21.size = 1 := rfl
@[simp] theorem ti21_bytes : ti21.bytes = 4 := rfl
@[simp] theorem ti21_zero : ti21.zero = .int .i32 0 := rfl
@[simp] theorem ti22_td : ti22.td = .slice 48 := rfl
@[simp] theorem ti22_size : ti22.size = 1 := rfl
@[simp] theorem ti22_bytes : ti22.bytes = 24 := rfl
@[simp] theorem ti22_zero : ti22.zero = .slice none 0 0 := rfl
@[simp] theorem ti23_td : ti23.td = .slice 9 := rfl
@[simp] theorem ti23_size : ti23.size = 1 := rfl
@[simp] theorem ti23_bytes : ti23.bytes = 24 := rfl
@[simp] theorem ti23_zero : ti23.zero = .slice none 0 0 := rfl
@[simp] theorem ti24_td : ti24.td = .struct [(0, 22), (1, 23), (2, 23), (3, 3)] := rfl
@[simp] theorem ti24_size : ti24.size = 4 := rfl
@[simp] theorem ti24_bytes : ti24.bytes = 80 := rfl
@[simp] theorem ti24_zero : ti24.zero = .agg #[.slice none 0 0, .slice none 0 0, .slice none 0 0, .int .i64 0] := rfl
@[simp] theorem ti25_td : ti25.td = .struct [(0, 22), (1, 23), (2, 23), (3, 3)] := rfl
@[simp] theorem ti25_size : ti25.size = 4 := rfl
@[simp] theorem ti25_bytes : ti25.bytes = 80 := rfl
@[simp] theorem ti25_zero : ti25.zero = .agg #[.slice none 0 0, .slice none 0 0, .slice none 0 0, .int .i64 0] := rfl
@[simp] theorem ti26_td : ti26.td = .slice 51 := rfl
@[simp] theorem ti26_size : ti26.size = 1 := rfl
@[simp] theorem ti26_bytes : ti26.bytes = 24 := rfl
@[simp] theorem ti26_zero : ti26.zero = .slice none 0 0 := rfl
@[simp] theorem ti28_td : ti28.td = .func := rfl
@[simp] theorem ti28_size : ti28.size = 1 := rfl
@[simp] theorem ti28_bytes : ti28.bytes = 8 := rfl
@[simp] theorem ti28_zero : ti28.zero = .nilFunc := rfl
@[simp] theorem ti29_td : ti29.td = .func := rfl
@[simp] theorem ti29_size : ti29.size = 1 := rfl
@[simp] theorem ti29_bytes : ti29.bytes = 8 := rfl
@[simp] theorem ti29_zero : ti29.zero = .nilFunc := rfl
@[simp] theorem ti30_td : ti30.td = .struct [(0, 9), (1, 3), (2, 3)] := rfl
@[simp] theorem ti30_size : ti30.size = 3 := rfl
@[simp] theorem ti30_bytes : ti30.bytes = 32 := rfl
@[simp] theorem ti30_zero : ti30.zero = .agg #[.string ⟨#[]⟩, .int .i64 0, .int .i64 0] := rfl
@[simp] theorem ti31_td : ti31.td = .struct [(0, 9), (1, 3), (2, 3)] := rfl
@[simp] theorem ti31_size : ti31.size = 3 := rfl
@[simp] theorem ti31_bytes : ti31.bytes = 32 := rfl
@[simp] theorem ti31_zero : ti31.zero = .agg #[.string ⟨#[]⟩, .int .i64 0, .int .i64 0] := rfl
@[simp] theorem ti32_td : ti32.td = .iface 1 := rfl
@[simp] theorem ti32_size : ti32.size = 1 := rfl
@[simp] theorem ti32_bytes : ti32.bytes = 16 := rfl
@[simp] theorem ti32_zero : ti32.zero = .nilIface := rfl
@[simp] theorem ti33_td : ti33.td = .iface 1 := rfl
@[simp] theorem ti33_size : ti33.size = 1 := rfl
@[simp] theorem ti33_bytes : ti33.bytes = 16 := rfl
@[simp] theorem ti33_zero : ti33.zero = .nilIface := rfl
@[simp] theorem ti35_td : ti35.td = .func := rfl
@[simp] theorem ti35_size : ti35.size = 1 := rfl
@[simp] theorem ti35_bytes : ti35.bytes = 8 := rfl
@[simp] theorem ti35_zero : ti35.zero = .nilFunc := rfl
@[simp] theorem ti37_td : ti37.td = .func := rfl
@[simp] theorem ti37_size : ti37.size = 1 := rfl
@[simp] theorem ti37_bytes : ti37.bytes = 8 := rfl
@[simp] theorem ti37_zero : ti37.zero = .nilFunc := rfl
@[simp] theorem ti38_td : ti38.td = .func := rfl
@[simp] theorem ti38_size : ti38.size = 1 := rfl
@[simp] theorem ti38_bytes : ti38.bytes = 8 := rfl
@[simp] theorem ti38_zero : ti38.zero = .nilFunc := rfl
@[simp] theorem ti39_td : ti39.td = .func := rfl
@[simp] theorem ti39_size : ti39.size = 1 := rfl
@[simp] theorem ti39_bytes : ti39.bytes = 8 := rfl
@[simp] theorem ti39_zero : ti39.zero = .nilFunc := rfl
@[simp] theorem ti41_td : ti41.td = .func := rfl
@[simp] theorem ti41_size : ti41.size = 1 := rfl
@[simp] theorem ti41_bytes : ti41.bytes = 8 := rfl
@[simp] theorem ti41_zero : ti41.zero = .nilFunc := rfl
@[simp] theorem ti42_td : ti42.td = .slice 46 := rfl
@[simp] theorem ti42_size : ti42.size = 1 := rfl
@[simp] theorem ti42_bytes : ti42.bytes = 24 := rfl
@[simp] theorem ti42_zero : ti42.zero = .slice none 0 0 := rfl
@[simp] theorem ti44_td : ti44.td = .func := rfl
@[simp] theorem ti44_size : ti44.size = 1 := rfl
@[simp] theorem ti44_bytes : ti44.bytes = 8 := rfl
@[simp] theorem ti44_zero : ti44.zero = .nilFunc := rfl
@[simp] theorem ti45_td : ti45.td = .func := rfl
@[simp] theorem ti45_size : ti45.size = 1 := rfl
@[simp] theorem ti45_bytes : ti45.bytes = 8 := rfl
@[simp] theorem ti45_zero : ti45.zero = .nilFunc := rfl
@[simp] theorem ti46_td : ti46.td = .array 2 3 := rfl
@[simp] theorem ti46_size : ti46.size = 2 := rfl
@[simp] theorem ti46_bytes : ti46.bytes = 16 := rfl
@[simp] theorem ti46_zero : ti46.zero = .agg #[.int .i64 0, .int .i64 0] := rfl
@[simp] theorem ti47_td : ti47.td = .struct [(0, 3), (1, 3), (2, 3), (3, 3)] := rfl
@[simp] theorem ti47_size : ti47.size = 4 := rfl
@[simp] theorem ti47_bytes : ti47.bytes = 32 := rfl
@[simp] theorem ti47_zero : ti47.zero = .agg #[.int .i64 0, .int .i64 0, .int .i64 0, .int .i64 0] := rfl
@[simp] theorem ti48_td : ti48.td = .struct [(0, 3), (1, 3), (2, 3), (3, 3)] := rfl
@[simp] theorem ti48_size : ti48.size = 4 := rfl
@[simp] theorem ti48_bytes : ti48.bytes = 32 := rfl
@[simp] theorem ti48_zero : ti48.zero = .agg #[.int .i64 0, .int .i64 0, .int .i64 0, .int .i64 0] := rfl
@[simp] theorem ti49_td : ti49.td = .slice 61 := rfl
@[simp] theorem ti49_size : ti49.size = 1 := rfl
@[simp] theorem ti49_bytes : ti49.bytes = 24 := rfl
@[simp] theorem ti49_zero : ti49.zero = .slice none 0 0 := rfl
@[simp] theorem ti50_td : ti50.td = .struct [(0, 3), (1, 3), (2, 3), (3, 3), (4, 9), (5, 49)] := rfl
@[simp] theorem ti50_size : ti50.size = 6 := rfl
@[simp] theorem ti50_bytes : ti50.bytes = 72 := rfl
@[simp] theorem ti50_zero : ti50.zero = .agg #[.int .i64 0, .int .i64 0, .int .i64 0, .int .i64 0, .string ⟨#[]⟩, .slice none 0 0] := rfl
@[simp] theorem ti51_td : ti51.td = .struct [(0, 3), (1, 3), (2, 3), (3, 3), (4, 9), (5, 49)] := rfl
@[simp] theorem ti51_size : ti51.size = 6 := rfl
@[simp] theorem ti51_bytes : ti51.bytes = 72 := rfl
@[simp] theorem ti51_zero : ti51.zero = .agg #[.int .i64 0, .int .i64 0, .int .i64 0, .int .i64 0, .string ⟨#[]⟩, .slice none 0 0] := rfl
@[simp] theorem ti52_td : ti52.td = .func := rfl
@[simp] theorem ti52_size : ti52.size = 1 := rfl
@[simp] theorem ti52_bytes : ti52.bytes = 8 := rfl
@[simp] theorem ti52_zero : ti52.zero = .nilFunc := rfl
@[simp] theorem ti54_td : ti54.td = .func := rfl
@[simp] theorem ti54_size : ti54.size = 1 := rfl
@[simp] theorem ti54_bytes : ti54.bytes = 8 := rfl
@[simp] theorem ti54_zero : ti54.zero = .nilFunc := rfl
@[simp] theorem ti55_td : ti55.td = .slice 31 := rfl
@[simp] theorem ti55_size : ti55.size = 1 := rfl
@[simp] theorem ti55_bytes : ti55.bytes = 24 := rfl
@[simp] theorem ti55_zero : ti55.zero = .slice none 0 0 := rfl
@[simp] theorem ti56_td : ti56.td = .func := rfl
@[simp] theorem ti56_size : ti56.size = 1 := rfl
@[simp] theorem ti56_bytes : ti56.bytes = 8 := rfl
@[simp] theorem ti56_zero : ti56.zero = .nilFunc := rfl
@[simp] theorem ti57_td : ti57.td = .func := rfl
@[simp] theorem ti57_size : ti57.size = 1 := rfl
@[simp] theorem ti57_bytes : ti57.bytes = 8 := rfl
@[simp] theorem ti57_zero : ti57.zero = .nilFunc := rfl
@[simp] theorem ti58_td : ti58.td = .func := rfl
@[simp] theorem ti58_size : ti58.size = 1 := rfl
@[simp] theorem ti58_bytes : ti58.bytes = 8 := rfl
@[simp] theorem ti58_zero : ti58.zero = .nilFunc := rfl
@[simp] theorem ti59_td : ti59.td = .func := rfl
@[simp] theorem ti59_size : ti59.size = 1 := rfl
@[simp] theorem ti59_bytes : ti59.bytes = 8 := rfl
@[simp] theorem ti59_zero : ti59.zero = .nilFunc := rfl
@[simp] theorem ti60_td : ti60.td = .struct [(0, 3), (1, 9)] := rfl
@[simp] theorem ti60_size : ti60.size = 2 := rfl
@[simp] theorem ti60_bytes : ti60.bytes = 24 := rfl
@[simp] theorem ti60_zero : ti60.zero = .agg #[.int .i64 0, .string ⟨#[]⟩] := rfl
@[simp] theorem ti61_td : ti61.td = .struct [(0, 3), (1, 9)] := rfl
@[simp] theorem ti61_size : ti61.size = 2 := rfl
@[simp] theorem ti61_bytes : ti61.bytes = 24 := rfl
@[simp] theorem ti61_zero : ti61.zero = .agg #[.int .i64 0, .string ⟨#[]⟩] := rfl
@[simp] theorem ti62_td : ti62.td = .int .i64 := rfl
@[simp] theorem ti62_size : ti62.size = 1 := rfl
@[simp] theorem ti62_bytes : ti62.bytes = 8 := rfl
@[simp] theorem ti62_zero : ti62.zero = .int .i64 0 := rfl
@[simp] theorem ti63_td : ti63.td = .func := rfl
@[simp] theorem ti63_size : ti63.size = 1 := rfl
@[simp] theorem ti63_bytes : ti63.bytes = 8 := rfl
@[simp] theorem ti63_zero : ti63.zero = .nilFunc := rfl
@[simp] theorem ti64_td : ti64.td = .func := rfl
@[simp] theorem ti64_size : ti64.size = 1 := rfl
@[simp] theorem ti64_bytes : ti64.bytes = 8 := rfl
@[simp] theorem ti64_zero : ti64.zero = .nilFunc := rfl
@[simp] theorem ti65_td : ti65.td = .func := rfl
@[simp] theorem ti65_size : ti65.size = 1 := rfl
@[simp] theorem ti65_bytes : ti65.bytes = 8 := rfl
@[simp] theorem ti65_zero : ti65.zero = .nilFunc := rfl
@[simp] theorem ti66_td : ti66.td = .func := rfl
@[simp] theorem ti66_size : ti66.size = 1 := rfl
@[simp] theorem ti66_bytes : ti66.bytes = 8 := rfl
@[simp] theorem ti66_zero : ti66.zero = .nilFunc := rfl
@[simp] theorem ti67_td : ti67.td = .func := rfl
@[simp] theorem ti67_size : ti67.size = 1 := rfl
@[simp] theorem ti67_bytes : ti67.bytes = 8 := rfl
@[simp] theorem ti67_zero : ti67.zero = .nilFunc := rfl
@[simp] theorem ti68_td : ti68.td = .func := rfl
@[simp] theorem ti68_size : ti68.size = 1 := rfl
@[simp] theorem ti68_bytes : ti68.bytes = 8 := rfl
@[simp] theorem ti68_zero : ti68.zero = .nilFunc := rfl
@[simp] theorem ti69_td : ti69.td = .func := rfl
@[simp] theorem ti69_size : ti69.size = 1 := rfl
@[simp] theorem ti69_bytes : ti69.bytes = 8 := rfl
@[simp] theorem ti69_zero : ti69.zero = .nilFunc := rfl
@[simp] theorem ti70_td : ti70.td = .func := rfl
@[simp] theorem ti70_size : ti70.size = 1 := rfl
@[simp] theorem ti70_bytes : ti70.bytes = 8 := rfl
@[simp] theorem ti70_zero : ti70.zero = .nilFunc := rfl
@[simp] theorem ti71_td : ti71.td = .ptr 74 := rfl
@[simp] theorem ti71_size : ti71.size = 1 := rfl
@[simp] theorem ti71_bytes : ti71.bytes = 8 := rfl
@[simp] theorem ti71_zero : ti71.zero = .pointer none := rfl
@[simp] theorem ti72_td : ti72.td = .slice 5 := rfl
@[simp] theorem ti72_size : ti72.size = 1 := rfl
@[simp] theorem ti72_bytes : ti72.bytes = 24 := rfl
@[simp] theorem ti72_zero : ti72.zero = .slice none 0 0 := rfl
@[simp] theorem ti73_td : ti73.td = .struct [(0, 71), (1, 72)] := rfl
@[simp] theorem ti73_size : ti73.size = 2 := rfl
@[simp] theorem ti73_bytes : ti73.bytes = 32 := rfl
@[simp] theorem ti73_zero : ti73.zero = .agg #[.pointer none, .slice none 0 0] := rfl
@[simp] theorem ti74_td : ti74.td = .struct [(0, 71), (1, 72)] := rfl
@[simp] theorem ti74_size : ti74.size = 2 := rfl
@[simp] theorem ti74_bytes : ti74.bytes = 32 := rfl
@[simp] theorem ti74_zero : ti74.zero = .agg #[.pointer none, .slice none 0 0] := rfl
@[simp] theorem ti76_td : ti76.td = .func := rfl
@[simp] theorem ti76_size : ti76.size = 1 := rfl
@[simp] theorem ti76_bytes : ti76.bytes = 8 := rfl
@[simp] theorem ti76_zero : ti76.zero = .nilFunc := rfl
@[simp] theorem ti77_td : ti77.td = .func := rfl
@[simp] theorem ti77_size : ti77.size = 1 := rfl
@[simp] theorem ti77_bytes : ti77.bytes = 8 := rfl
@[simp] theorem ti77_zero : ti77.zero = .nilFunc := rfl
@[simp] theorem ti78_td : ti78.td = .func := rfl
@[simp] theorem ti78_size : ti78.size = 1 := rfl
@[simp] theorem ti78_bytes : ti78.bytes = 8 := rfl
@[simp] theorem ti78_zero : ti78.zero = .nilFunc := rfl
@[simp] theorem ti79_td : ti79.td = .func := rfl
@[simp] theorem ti79_size : ti79.size = 1 := rfl
@[simp] theorem ti79_bytes : ti79.bytes = 8 := rfl
@[simp] theorem ti79_zero : ti79.zero = .nilFunc := rfl
@[simp] theorem ti80_td : ti80.td = .func := rfl
@[simp] theorem ti80_size : ti80.size = 1 := rfl
@[simp] theorem ti80_bytes : ti80.bytes = 8 := rfl
@[simp] theorem ti80_zero : ti80.zero = .nilFunc := rfl
@[simp] theorem ti81_td : ti81.td = .func := rfl
@[simp] theorem ti81_size : ti81.size = 1 := rfl
@[simp] theorem ti81_bytes : ti81.bytes = 8 := rfl
@[simp] theorem ti81_zero : ti81.zero = .nilFunc := rfl
@[simp] theorem ti83_td : ti83.td = .func := rfl
@[simp] theorem ti83_size : ti83.size = 1 := rfl
@[simp] theorem ti83_bytes : ti83.bytes = 8 := rfl
@[simp] theorem ti83_zero : ti83.zero = .nilFunc := rfl
@[simp] theorem ti84_td : ti84.td = .func := rfl
@[simp] theorem ti84_size : ti84.size = 1 := rfl
@[simp] theorem ti84_bytes : ti84.bytes = 8 := rfl
@[simp] theorem ti84_zero : ti84.zero = .nilFunc := rfl
@[simp] theorem ti85_td : ti85.td = .func := rfl
@[simp] theorem ti85_size : ti85.size = 1 := rfl
@[simp] theorem ti85_bytes : ti85.bytes = 8 := rfl
@[simp] theorem ti85_zero : ti85.zero = .nilFunc := rfl
@[simp] theorem ti86_td : ti86.td = .ptr 62 := rfl
@[simp] theorem ti86_size : ti86.size = 1 := rfl
@[simp] theorem ti86_bytes : ti86.bytes = 8 := rfl
@[simp] theorem ti86_zero : ti86.zero = .pointer none := rfl
@[simp] theorem ti87_td : ti87.td = .struct [(0, 3), (1, 4)] := rfl
@[simp] theorem ti87_size : ti87.size = 2 := rfl
@[simp] theorem ti87_bytes : ti87.bytes = 16 := rfl
@[simp] theorem ti87_zero : ti87.zero = .agg #[.int .i64 0, .bool false] := rfl
@[simp] theorem ti88_td : ti88.td = .struct [(0, 3), (1, 4)] := rfl
@[simp] theorem ti88_size : ti88.size = 2 := rfl
@[simp] theorem ti88_bytes : ti88.bytes = 16 := rfl
@[simp] theorem ti88_zero : ti88.zero = .agg #[.int .i64 0, .bool false] := rfl
@[simp] theorem ti90_td : ti90.td = .func := rfl
@[simp] theorem ti90_size : ti90.size = 1 := rfl
@[simp] theorem ti90_bytes : ti90.bytes = 8 := rfl
@[simp] theorem ti90_zero : ti90.zero = .nilFunc := rfl
@[simp] theorem ti91_td : ti91.td = .func := rfl
@[simp] theorem ti91_size : ti91.size = 1 := rfl
@[simp] theorem ti91_bytes : ti91.bytes = 8 := rfl
@[simp] theorem ti91_zero : ti91.zero = .nilFunc := rfl
@[simp] theorem ti92_td : ti92.td = .func := rfl
@[simp] theorem ti92_size : ti92.size = 1 := rfl
@[simp] theorem ti92_bytes : ti92.bytes = 8 := rfl
@[simp] theorem ti92_zero : ti92.zero = .nilFunc := rfl
@[simp] theorem ti93_td : ti93.td = .func := rfl
@[simp] theorem ti93_size : ti93.size = 1 := rfl
@[simp] theorem ti93_bytes : ti93.bytes = 8 := rfl
@[simp] theorem ti93_zero : ti93.zero = .nilFunc := rfl
@[simp] theorem ti95_td : ti95.td = .func := rfl
@[simp] theorem ti95_size : ti95.size = 1 := rfl
@[simp] theorem ti95_bytes : ti95.bytes = 8 := rfl
@[simp] theorem ti95_zero : ti95.zero = .nilFunc := rfl
@[simp] theorem ti96_td : ti96.td = .func := rfl
@[simp] theorem ti96_size : ti96.size = 1 := rfl
@[simp] theorem ti96_bytes : ti96.bytes = 8 := rfl
@[simp] theorem ti96_zero : ti96.zero = .nilFunc := rfl
@[simp] theorem ti97_td : ti97.td = .int .u64 := rfl
@[simp] theorem ti97_size : ti97.size = 1 := rfl
@[simp] theorem ti97_bytes : ti97.bytes = 8 := rfl
@[simp] theorem ti97_zero : ti97.zero = .int .u64 0 := rfl
@[simp] theorem ti99_td : ti99.td = .func := rfl
@[simp] theorem ti99_size : ti99.size = 1 := rfl
@[simp] theorem ti99_bytes : ti99.bytes = 8 := rfl
@[simp] theorem ti99_zero : ti99.zero = .nilFunc := rfl
@[simp] theorem ti100_td : ti100.td = .func := rfl
@[simp] theorem ti100_size : ti100.size = 1 := rfl
@[simp] theorem ti100_bytes : ti100.bytes = 8 := rfl
@[simp] theorem ti100_zero : ti100.zero = .nilFunc := rfl
@[simp] theorem ti101_td : ti101.td = .func := rfl
@[simp] theorem ti101_size : ti101.size = 1 := rfl
@[simp] theorem ti101_bytes : ti101.bytes = 8 := rfl
@[simp] theorem ti101_zero : ti101.zero = .nilFunc := rfl
@[simp] theorem ti102_td : ti102.td = .ptr 5 := rfl
@[simp] theorem ti102_size : ti102.size = 1 := rfl
@[simp] theorem ti102_bytes : ti102.bytes = 8 := rfl
@[simp] theorem ti102_zero : ti102.zero = .pointer none := rfl
@[simp] theorem ti103_td : ti103.td = .unsafeptr := rfl
@[simp] theorem ti103_size : ti103.size = 1 := rfl
@[simp] theorem ti103_bytes : ti103.bytes = 8 := rfl
@[simp] theorem ti103_zero : ti103.zero = .pointer none := rfl
@[simp] theorem ti104_td : ti104.td = .int .u64 := rfl
@[simp] theorem ti104_size : ti104.size = 1 := rfl
@[simp] theorem ti104_bytes : ti104.bytes = 8 := rfl
@[simp] theorem ti104_zero : ti104.zero = .int .u64 0 := rfl
@[simp] theorem ti105_td : ti105.td = .struct [(0, 17), (1, 103), (2, 104)] := rfl
@[simp] theorem ti105_size : ti105.size = 3 := rfl
@[simp] theorem ti105_bytes : ti105.bytes = 24 := rfl
@[simp] theorem ti105_zero : ti105.zero = .agg #[.pointer none, .pointer none, .int .u64 0] := rfl
@[simp] theorem ti106_td : ti106.td = .struct [(0, 17), (1, 103), (2, 104)] := rfl
@[simp] theorem ti106_size : ti106.size = 3 := rfl
@[simp] theorem ti106_bytes : ti106.bytes = 24 := rfl
@[simp] theorem ti106_zero : ti106.zero = .agg #[.pointer none, .pointer none, .int .u64 0] := rfl
@[simp] theorem ti107_td : ti107.td = .func := rfl
@[simp] theorem ti107_size : ti107.size = 1 := rfl
@[simp] theorem ti107_bytes : ti107.bytes = 8 := rfl
@[simp] theorem ti107_zero : ti107.zero = .nilFunc := rfl
@[simp] theorem ti108_td : ti108.td = .iface 11 := rfl
@[simp] theorem ti108_size : ti108.size = 1 := rfl
@[simp] theorem ti108_bytes : ti108.bytes = 16 := rfl
@[simp] theorem ti108_zero : ti108.zero = .nilIface := rfl
@[simp] theorem ti109_td : ti109.td = .iface 11 := rfl
@[simp] theorem ti109_size : ti109.size = 1 := rfl
@[simp] theorem ti109_bytes : ti109.bytes = 16 := rfl
@[simp] theorem ti109_zero : ti109.zero = .nilIface := rfl
@[simp] theorem ti110_td : ti110.td = .func := rfl
@[simp] theorem ti110_size : ti110.size = 1 := rfl
@[simp] theorem ti110_bytes : ti110.bytes = 8 := rfl
@[simp] theorem ti110_zero : ti110.zero = .nilFunc := rfl
@[simp] theorem ti111_td : ti111.td = .int .u8 := rfl
@[simp] theorem ti111_size : ti111.size = 1 := rfl
@[simp] theorem ti111_bytes : ti111.bytes = 1 := rfl
@[simp] theorem ti111_zero : ti111.zero = .int .u8 0 := rfl
@[simp] theorem ti112_td : ti112.td = .func := rfl
@[simp] theorem ti112_size : ti112.size = 1 := rfl
@[simp] theorem ti112_bytes : ti112.bytes = 8 := rfl
@[simp] theorem ti112_zero : ti112.zero = .nilFunc := rfl
@[simp] theorem ti113_td : ti113.td = .func := rfl
@[simp] theorem ti113_size : ti113.size = 1 := rfl
@[simp] theorem ti113_bytes : ti113.bytes = 8 := rfl
@[simp] theorem ti113_zero : ti113.zero = .nilFunc := rfl
@[simp] theorem ti114_td : ti114.td = .func := rfl
@[simp] theorem ti114_size : ti114.size = 1 := rfl
@[simp] theorem ti114_bytes : ti114.bytes = 8 := rfl
@[simp] theorem ti114_zero : ti114.zero = .nilFunc := rfl
@[simp] theorem ti115_td : ti115.td = .func := rfl
@[simp] theorem ti115_size : ti115.size = 1 := rfl
@[simp] theorem ti115_bytes : ti115.bytes = 8 := rfl
@[simp] theorem ti115_zero : ti115.zero = .nilFunc := rfl
@[simp] theorem ti116_td : ti116.td = .func := rfl
@[simp] theorem ti116_size : ti116.size = 1 := rfl
@[simp] theorem ti116_bytes : ti116.bytes = 8 := rfl
@[simp] theorem ti116_zero : ti116.zero = .nilFunc := rfl
@[simp] theorem ti117_td : ti117.td = .func := rfl
@[simp] theorem ti117_size : ti117.size = 1 := rfl
@[simp] theorem ti117_bytes : ti117.bytes = 8 := rfl
@[simp] theorem ti117_zero : ti117.zero = .nilFunc := rfl
@[simp] theorem ti118_td : ti118.td = .int .u32 := rfl
@[simp] theorem ti118_size : ti118.size = 1 := rfl
@[simp] theorem ti118_bytes : ti118.bytes = 4 := rfl
@[simp] theorem ti118_zero : ti118.zero = .int .u32 0 := rfl
@[simp] theorem ti120_td : ti120.td = .func := rfl
@[simp] theorem ti120_size : ti120.size = 1 := rfl
@[simp] theorem ti120_bytes : ti120.bytes = 8 := rfl
@[simp] theorem ti120_zero : ti120.zero = .nilFunc := rfl
@[simp] theorem ti121_td : ti121.td = .int .u64 := rfl
@[simp] theorem ti121_size : ti121.size = 1 := rfl
@[simp] theorem ti121_bytes : ti121.bytes = 8 := rfl
@[simp] theorem ti121_zero : ti121.zero = .int .u64 0 := rfl
@[simp] theorem ti123_td : ti123.td = .func := rfl
@[simp] theorem ti123_size : ti123.size = 1 := rfl
@[simp] theorem ti123_bytes : ti123.bytes = 8 := rfl
@[simp] theorem ti123_zero : ti123.zero = .nilFunc := rfl
@[simp] theorem ti124_td : ti124.td = .struct [(0, 17)] := rfl
@[simp] theorem ti124_size : ti124.size = 1 := rfl
@[simp] theorem ti124_bytes : ti124.bytes = 8 := rfl
@[simp] theorem ti124_zero : ti124.zero = .agg #[.pointer none] := rfl
@[simp] theorem ti125_td : ti125.td = .struct [(0, 17)] := rfl
@[simp] theorem ti125_size : ti125.size = 1 := rfl
@[simp] theorem ti125_bytes : ti125.bytes = 8 := rfl
@[simp] theorem ti125_zero : ti125.zero = .agg #[.pointer none] := rfl
@[simp] theorem ti126_td : ti126.td = .ptr 170 := rfl
@[simp] theorem ti126_size : ti126.size = 1 := rfl
@[simp] theorem ti126_bytes : ti126.bytes = 8 := rfl
@[simp] theorem ti126_zero : ti126.zero = .pointer none := rfl
@[simp] theorem ti127_td : ti127.td = .func := rfl
@[simp] theorem ti127_size : ti127.size = 1 := rfl
@[simp] theorem ti127_bytes : ti127.bytes = 8 := rfl
@[simp] theorem ti127_zero : ti127.zero = .nilFunc := rfl
@[simp] theorem ti128_td : ti128.td = .func := rfl
@[simp] theorem ti128_size : ti128.size = 1 := rfl
@[simp] theorem ti128_bytes : ti128.bytes = 8 := rfl
@[simp] theorem ti128_zero : ti128.zero = .nilFunc := rfl
@[simp] theorem ti129_td : ti129.td = .func := rfl
@[simp] theorem ti129_size : ti129.size = 1 := rfl
@[simp] theorem ti129_bytes : ti129.bytes = 8 := rfl
@[simp] theorem ti129_zero : ti129.zero = .nilFunc := rfl
@[simp] theorem ti130_td : ti130.td = .iface 1 := rfl
@[simp] theorem ti130_size : ti130.size = 1 := rfl
@[simp] theorem ti130_bytes : ti130.bytes = 16 := rfl
@[simp] theorem ti130_zero : ti130.zero = .nilIface := rfl
@[simp] theorem ti132_td : ti132.td = .func := rfl
@[simp] theorem ti132_size : ti132.size = 1 := rfl
@[simp] theorem ti132_bytes : ti132.bytes = 8 := rfl
@[simp] theorem ti132_zero : ti132.zero = .nilFunc := rfl
@[simp] theorem ti133_td : ti133.td = .iface 1 := rfl
@[simp] theorem ti133_size : ti133.size = 1 := rfl
@[simp] theorem ti133_bytes : ti133.bytes = 16 := rfl
@[simp] theorem ti133_zero : ti133.zero = .nilIface := rfl
@[simp] theorem ti134_td : ti134.td = .func := rfl
@[simp] theorem ti134_size : ti134.size = 1 := rfl
@[simp] theorem ti134_bytes : ti134.bytes = 8 := rfl
@[simp] theorem ti134_zero : ti134.zero = .nilFunc := rfl
@[simp] theorem ti135_td : ti135.td = .iface 1 := rfl
@[simp] theorem ti135_size : ti135.size = 1 := rfl
@[simp] theorem ti135_bytes : ti135.bytes = 16 := rfl
@[simp] theorem ti135_zero : ti135.zero = .nilIface := rfl
@[simp] theorem ti136_td : ti136.td = .slice 33 := rfl
@[simp] theorem ti136_size : ti136.size = 1 := rfl
@[simp] theorem ti136_bytes : ti136.bytes = 24 := rfl
@[simp] theorem ti136_zero : ti136.zero = .slice none 0 0 := rfl
@[simp] theorem ti137_td : ti137.td = .func := rfl
@[simp] theorem ti137_size : ti137.size = 1 := rfl
@[simp] theorem ti137_bytes : ti137.bytes = 8 := rfl
@[simp] theorem ti137_zero : ti137.zero = .nilFunc := rfl
@[simp] theorem ti138_td : ti138.td = .ptr 88 := rfl
@[simp] theorem ti138_size : ti138.size = 1 := rfl
@[simp] theorem ti138_bytes : ti138.bytes = 8 := rfl
@[simp] theorem ti138_zero : ti138.zero = .pointer none := rfl
@[simp] theorem ti139_td : ti139.td = .array 24 5 := rfl
@[simp] theorem ti139_size : ti139.size = 24 := rfl
@[simp] theorem ti139_bytes : ti139.bytes = 24 := rfl
@[simp] theorem ti139_zero : ti139.zero = .agg #[.int .u8 0, .int .u8 0, .int .u8 0, .int .u8 0, .int .u8 0, .int .u8 0, .int .u8 0, .int .u8 0, .int .u8 0, .int .u8 0, .int .u8 0, .int .u8 0, .int .u8 0, .int .u8 0, .int .u8 0, .int .u8 0, .int .u8 0, .int .u8 0, .int .u8 0, .int .u8 0, .int .u8 0, .int .u8 0, .int .u8 0, .int .u8 0] := rfl
@[simp] theorem ti140_td : ti140.td = .func := rfl
@[simp] theorem ti140_size : ti140.size = 1 := rfl
@[simp] theorem ti140_bytes : ti140.bytes = 8 := rfl
@[simp] theorem ti140_zero : ti140.zero = .nilFunc := rfl
@[simp] theorem ti141_td : ti141.td = .func := rfl
@[simp] theorem ti141_size : ti141.size = 1 := rfl
@[simp] theorem ti141_bytes : ti141.bytes = 8 := rfl
@[simp] theorem ti141_zero : ti141.zero = .nilFunc := rfl
@[simp] theorem ti143_td : ti143.td = .func := rfl
@[simp] theorem ti143_size : ti143.size = 1 := rfl
@[simp] theorem ti143_bytes : ti143.bytes = 8 := rfl
@[simp] theorem ti143_zero : ti143.zero = .nilFunc := rfl
@[simp] theorem ti144_td : ti144.td = .func := rfl
@[simp] theorem ti144_size : ti144.size = 1 := rfl
@[simp] theorem ti144_bytes : ti144.bytes = 8 := rfl
@[simp] theorem ti144_zero : ti144.zero = .nilFunc := rfl
@[simp] theorem ti145_td : ti145.td = .func := rfl
@[simp] theorem ti145_size : ti145.size = 1 := rfl
@[simp] theorem ti145_bytes : ti145.bytes = 8 := rfl
@[simp] theorem ti145_zero : ti145.zero = .nilFunc := rfl
@[simp] theorem ti146_td : ti146.td = .func := rfl
@[simp] theorem ti146_size : ti146.size = 1 := rfl
@[simp] theorem ti146_bytes : ti146.bytes = 8 := rfl
@[simp] theorem ti146_zero : ti146.zero = .nilFunc := rfl
@[simp] theorem ti147_td : ti147.td = .func := rfl
@[simp] theorem ti147_size : ti147.size = 1 := rfl
@[simp] theorem ti147_bytes : ti147.bytes = 8 := rfl
@[simp] theorem ti147_zero : ti147.zero = .nilFunc := rfl
@[simp] theorem ti148_td : ti148.td = .array 20 121 := rfl
@[simp] theorem ti148_size : ti148.size = 20 := rfl
@[simp] theorem ti148_bytes : ti148.bytes = 160 := rfl
@[simp] theorem ti148_zero : ti148.zero = .agg #[.int .u64 0, .int .u64 0, .int .u64 0, .int .u64 0, .int .u64 0, .int .u64 0, .int .u64 0, .int .u64 0, .int .u64 0, .int .u64 0, .int .u64 0, .int .u64 0, .int .u64 0, .int .u64 0, .int .u64 0, .int .u64 0, .int .u64 0, .int .u64 0, .int .u64 0, .int .u64 0] := rfl
@[simp] theorem ti149_td : ti149.td = .array 65 5 := rfl
@[simp] theorem ti149_size : ti149.size = 65 := rfl
@[simp] theorem ti149_bytes : ti149.bytes = 65 := rfl
@[simp] theorem ti149_zero : ti149.zero = .agg #[.int .u8 0, .int .u8 0, .int .u8 0, .int .u8 0, .int .u8 0, .int .u8 0, .int .u8 0, .int .u8 0, .int .u8 0, .int .u8 0, .int .u8 0, .int .u8 0, .int .u8 0, .int .u8 0, .int .u8 0, .int .u8 0, .int .u8 0, .int .u8 0, .int .u8 0, .int .u8 0, .int .u8 0, .int .u8 0, .int .u8 0, .int .u8 0, .int .u8 0, .int .u8 0, .int .u8 0, .int .u8 0, .int .u8 0, .int .u8 0, .int .u8 0, .int .u8 0, .int .u8 0, .int .u8 0, .int .u8 0, .int .u8 0, .int .u8 0, .int .u8 0, .int .u8 0, .int .u8 0, .int .u8 0, .int .u8 0, .int .u8 0, .int .u8 0, .int .u8 0, .int .u8 0, .int .u8 0, .int .u8 0, .int .u8 0, .int .u8 0, .int .u8 0, .int .u8 0, .int .u8 0, .int .u8 0, .int .u8 0, .int .u8 0, .int .u8 0, .int .u8 0, .int .u8 0, .int .u8 0, .int .u8 0, .int .u8 0, .int .u8 0, .int .u8 0, .int .u8 0] := rfl
@[simp] theorem ti150_td : ti150.td = .func := rfl
@[simp] theorem ti150_size : ti150.size = 1 := rfl
@[simp] theorem ti150_bytes : ti150.bytes = 8 := rfl
@[simp] theorem ti150_zero : ti150.zero = .nilFunc := rfl
@[simp] theorem ti151_td : ti151.td = .func := rfl
@[simp] theorem ti151_size : ti151.size = 1 := rfl
@[simp] theorem ti151_bytes : ti151.bytes = 8 := rfl
@[simp] theorem ti151_zero : ti151.zero = .nilFunc := rfl
@[simp] theorem ti152_td : ti152.td = .func := rfl
@[simp] theorem ti152_size : ti152.size = 1 := rfl
@[simp] theorem ti152_bytes : ti152.bytes = 8 := rfl
@[simp] theorem ti152_zero : ti152.zero = .nilFunc := rfl
@[simp] theorem ti153_td : ti153.td = .array 32 5 := rfl
@[simp] theorem ti153_size : ti153.size = 32 := rfl
@[simp] theorem ti153_bytes : ti153.bytes = 32 := rfl
@[simp] theorem ti153_zero : ti153.zero = .agg #[.int .u8 0, .int .u8 0, .int .u8 0, .int .u8 0, .int .u8 0, .int .u8 0, .int .u8 0, .int .u8 0, .int .u8 0, .int .u8 0, .int .u8 0, .int .u8 0, .int .u8 0, .int .u8 0, .int .u8 0, .int .u8 0, .int .u8 0, .int .u8 0, .int .u8 0, .int .u8 0, .int .u8 0, .int .u8 0, .int .u8 0, .int .u8 0, .int .u8 0, .int .u8 0, .int .u8 0, .int .u8 0, .int .u8 0, .int .u8 0, .int .u8 0, .int .u8 0] := rfl
@[simp] theorem ti154_td : ti154.td = .array 64 5 := rfl
@[simp] theorem ti154_size : ti154.size = 64 := rfl
@[simp] theorem ti154_bytes : ti154.bytes = 64 := rfl
@[simp] theorem ti154_zero : ti154.zero = .agg #[.int .u8 0, .int .u8 0, .int .u8 0, .int .u8 0, .int .u8 0, .int .u8 0, .int .u8 0, .int .u8 0, .int .u8 0, .int .u8 0, .int .u8 0, .int .u8 0, .int .u8 0, .int .u8 0, .int .u8 0, .int .u8 0, .int .u8 0, .int .u8 0, .int .u8 0, .int .u8 0, .int .u8 0, .int .u8 0, .int .u8 0, .int .u8 0, .int .u8 0, .int .u8 0, .int .u8 0, .int .u8 0, .int .u8 0, .int .u8 0, .int .u8 0, .int .u8 0, .int .u8 0, .int .u8 0, .int .u8 0, .int .u8 0, .int .u8 0, .int .u8 0, .int .u8 0, .int .u8 0, .int .u8 0, .int .u8 0, .int .u8 0, .int .u8 0, .int .u8 0, .int .u8 0, .int .u8 0, .int .u8 0, .int .u8 0, .int .u8 0, .int .u8 0, .int .u8 0, .int .u8 0, .int .u8 0, .int .u8 0, .int .u8 0, .int .u8 0, .int .u8 0, .int .u8 0, .int .u8 0, .int .u8 0, .int .u8 0, .int .u8 0, .int .u8 0] := rfl
@[simp] theorem ti155_td : ti155.td = .struct [(0, 17), (1, 17), (2, 17), (3, 9)] := rfl
@[simp] theorem ti155_size : ti155.size = 4 := rfl
@[simp] theorem ti155_bytes : ti155.bytes = 40 := rfl
@[simp] theorem ti155_zero : ti155.zero = .agg #[.pointer none, .pointer none, .pointer none, .string ⟨#[]⟩] := rfl
@[simp] theorem ti156_td : ti156.td = .struct [(0, 17), (1, 17), (2, 17), (3, 9)] := rfl
@[simp] theorem ti156_size : ti156.size = 4 := rfl
@[simp] theorem ti156_bytes : ti156.bytes = 40 := rfl
@[simp] theorem ti156_zero : ti156.zero = .agg #[.pointer none, .pointer none, .pointer none, .string ⟨#[]⟩] := rfl
@[simp] theorem ti157_td : ti157.td = .array 0 16 := rfl
@[simp] theorem ti157_size : ti157.size = 0 := rfl
@[simp] theorem ti157_bytes : ti157.bytes = 0 := rfl
@[simp] theorem ti157_zero : ti157.zero = .agg #[] := rfl
@[simp] theorem ti158_td : ti158.td = .struct [(0, 157)] := rfl
@[simp] theorem ti158_size : ti158.size = 0 := rfl
@[simp] theorem ti158_bytes : ti158.bytes = 0 := rfl
@[simp] theorem ti158_zero : ti158.zero = .agg #[] := rfl
@[simp] theorem ti159_td : ti159.td = .struct [(0, 157)] := rfl
@[simp] theorem ti159_size : ti159.size = 0 := rfl
@[simp] theorem ti159_bytes : ti159.bytes = 0 := rfl
@[simp] theorem ti159_zero : ti159.zero = .agg #[] := rfl
@[simp] theorem ti160_td : ti160.td = .func := rfl
@[simp] theorem ti160_size : ti160.size = 1 := rfl
@[simp] theorem ti160_bytes : ti160.bytes = 8 := rfl
@[simp] theorem ti160_zero : ti160.zero = .nilFunc := rfl
@[simp] theorem ti161_td : ti161.td = .int .u8 := rfl
@[simp] theorem ti161_size : ti161.size = 1 := rfl
@[simp] theorem ti161_bytes : ti161.bytes = 1 := rfl
@[simp] theorem ti161_zero : ti161.zero = .int .u8 0 := rfl
@[simp] theorem ti162_td : ti162.td = .func := rfl
@[simp] theorem ti162_size : ti162.size = 1 := rfl
@[simp] theorem ti162_bytes : ti162.bytes = 8 := rfl
@[simp] theorem ti162_zero : ti162.zero = .nilFunc := rfl
@[simp] theorem ti163_td : ti163.td = .int .i32 := rfl
@[simp] theorem ti163_size : ti163.size = 1 := rfl
@[simp] theorem ti163_bytes : ti163.bytes = 4 := rfl
@[simp] theorem ti163_zero : ti163.zero = .int .i32 0 := rfl
@[simp] theorem ti164_td : ti164.td = .int .i32 := rfl
@[simp] theorem ti164_size : ti164.size = 1 := rfl
@[simp] theorem ti164_bytes : ti164.bytes = 4 := rfl
@[simp] theorem ti164_zero : ti164.zero = .int .i32 0 := rfl
@[simp] theorem ti165_td : ti165.td = .struct [(0, 12), (1, 12), (2, 118), (3, 161), (4, 5), (5, 5), (6, 111), (7, 162), (8, 102), (9, 163), (10, 164)] := rfl
@[simp] theorem ti165_size : ti165.size = 11 := rfl
@[simp] theorem ti165_bytes : ti165.bytes = 48 := rfl
@[simp] theorem ti165_zero : ti165.zero = .agg #[.int .u64 0, .int .u64 0, .int .u32 0, .int .u8 0, .int .u8 0, .int .u8 0, .int .u8 0, .nilFunc, .pointer none, .int .i32 0, .int .i32 0] := rfl
@[simp] theorem ti166_td : ti166.td = .struct [(0, 12), (1, 12), (2, 118), (3, 161), (4, 5), (5, 5), (6, 111), (7, 162), (8, 102), (9, 163), (10, 164)] := rfl
@[simp] theorem ti166_size : ti166.size = 11 := rfl
@[simp] theorem ti166_bytes : ti166.bytes = 48 := rfl
@[simp] theorem ti166_zero : ti166.zero = .agg #[.int .u64 0, .int .u64 0, .int .u32 0, .int .u8 0, .int .u8 0, .int .u8 0, .int .u8 0, .nilFunc, .pointer none, .int .i32 0, .int .i32 0] := rfl
@[simp] theorem ti167_td : ti167.td = .func := rfl
@[simp] theorem ti167_size : ti167.size = 1 := rfl
@[simp] theorem ti167_bytes : ti167.bytes = 8 := rfl
@[simp] theorem ti167_zero : ti167.zero = .nilFunc := rfl
@[simp] theorem ti168_td : ti168.td = .func := rfl
@[simp] theorem ti168_size : ti168.size = 1 := rfl
@[simp] theorem ti168_bytes : ti168.bytes = 8 := rfl
@[simp] theorem ti168_zero : ti168.zero = .nilFunc := rfl
@[simp] theorem ti169_td : ti169.td = .struct [(0, 9), (1, 111)] := rfl
@[simp] theorem ti169_size : ti169.size = 2 := rfl
@[simp] theorem ti169_bytes : ti169.bytes = 24 := rfl
@[simp] theorem ti169_zero : ti169.zero = .agg #[.string ⟨#[]⟩, .int .u8 0] := rfl
@[simp] theorem ti170_td : ti170.td = .struct [(0, 9), (1, 111)] := rfl
@[simp] theorem ti170_size : ti170.size = 2 := rfl
@[simp] theorem ti170_bytes : ti170.bytes = 24 := rfl
@[simp] theorem ti170_zero : ti170.zero = .agg #[.string ⟨#[]⟩, .int .u8 0] := rfl
@[simp] theorem ti171_td : ti171.td = .ptr 175 := rfl
@[simp] theorem ti171_size : ti171.size = 1 := rfl
@[simp] theorem ti171_bytes : ti171.bytes = 8 := rfl
@[simp] theorem ti171_zero : ti171.zero = .pointer none := rfl
@[simp] theorem ti172_td : ti172.td = .func := rfl
@[simp] theorem ti172_size : ti172.size = 1 := rfl
@[simp] theorem ti172_bytes : ti172.bytes = 8 := rfl
@[simp] theorem ti172_zero : ti172.zero = .nilFunc := rfl
@[simp] theorem ti173_td : ti173.td = .int .u16 := rfl
@[simp] theorem ti173_size : ti173.size = 1 := rfl
@[simp] theorem ti173_bytes : ti173.bytes = 2 := rfl
@[simp] theorem ti173_zero : ti173.zero = .int .u16 0 := rfl
@[simp] theorem ti174_td : ti174.td = .struct [(0, 163), (1, 173), (2, 173), (3, 118), (4, 118)] := rfl
@[simp] theorem ti174_size : ti174.size = 5 := rfl
@[simp] theorem ti174_bytes : ti174.bytes = 16 := rfl
@[simp] theorem ti174_zero : ti174.zero = .agg #[.int .i32 0, .int .u16 0, .int .u16 0, .int .u32 0, .int .u32 0] := rfl
@[simp] theorem ti175_td : ti175.td = .struct [(0, 163), (1, 173), (2, 173), (3, 118), (4, 118)] := rfl
@[simp] theorem ti175_size : ti175.size = 5 := rfl
@[simp] theorem ti175_bytes : ti175.bytes = 16 := rfl
@[simp] theorem ti175_zero : ti175.zero = .agg #[.int .i32 0, .int .u16 0, .int .u16 0, .int .u32 0, .int .u32 0] := rfl
@[simp] theorem ti176_td : ti176.td = .slice 179 := rfl
@[simp] theorem ti176_size : ti176.size = 1 := rfl
@[simp] theorem ti176_bytes : ti176.bytes = 24 := rfl
@[simp] theorem ti176_zero : ti176.zero = .slice none 0 0 := rfl
@[simp] theorem ti177_td : ti177.td = .int .i32 := rfl
@[simp] theorem ti177_size : ti177.size = 1 := rfl
@[simp] theorem ti177_bytes : ti177.bytes = 4 := rfl
@[simp] theorem ti177_zero : ti177.zero = .int .i32 0 := rfl
@[simp] theorem ti178_td : ti178.td = .struct [(0, 163), (1, 164), (2, 177), (3, 177)] := rfl
@[simp] theorem ti178_size : ti178.size = 4 := rfl
@[simp] theorem ti178_bytes : ti178.bytes = 16 := rfl
@[simp] theorem ti178_zero : ti178.zero = .agg #[.int .i32 0, .int .i32 0, .int .i32 0, .int .i32 0] := rfl
@[simp] theorem ti179_td : ti179.td = .struct [(0, 163), (1, 164), (2, 177), (3, 177)] := rfl
@[simp] theorem ti179_size : ti179.size = 4 := rfl
@[simp] theorem ti179_bytes : ti179.bytes = 16 := rfl
@[simp] theorem ti179_zero : ti179.zero = .agg #[.int .i32 0, .int .i32 0, .int .i32 0, .int .i32 0] := rfl
@[simp] theorem ti180_td : ti180.td = .ptr 33 := rfl
@[simp] theorem ti180_size : ti180.size = 1 := rfl
@[simp] theorem ti180_bytes : ti180.bytes = 8 := rfl
@[simp] theorem ti180_zero : ti180.zero = .pointer none := rfl
theorem tabOK : okList Tryz.prog 0 tiList = true := by kernel_rfl
def isBS (t : TypeId) : Bool := Nat.beq t 74
structure Base where
  w : World
  K0 : KS
noncomputable def cx (w0 : Base) : Ctx := { P := Tryz.prog, w0 := w0.w, K0 := w0.K0, tab := tabS, glob := fun _ => none, lits := ["quote.go:61", "ref.go:42"], isB := isBS, u8 := 5 }
@[simp] theorem cx_tab (w0 : Base) : (cx w0).tab = tabS := rfl
@[simp] theorem cx_P (w0 : Base) : (cx w0).P = Tryz.prog := rfl
@[simp] theorem cx_glob (w0 : Base) (g : Nat) : (cx w0).glob g = none := rfl
theorem cxOK (w0 : Base) : CtxOK (cx w0) := ⟨listTab_ok rfl tabOK, (by kernel_rfl : Tryz.prog.follows .mixedOrders = true), fun t ti hb ht => by
  have e : t = 74 := Nat.eq_of_beq_eq_true hb
  subst e
  have : some ti74 = some ti := ht
  cases this
  rfl⟩
theorem cxG (w0 : Base) : ∀ g a, (cx w0).glob g = some a → AV.under 0 a = true := fun g a h => by cases h
@[reducible] def tB : TypeId := 74
@[reducible] def ty.abi_BoundsErrorCode : TypeId := 6
@[reducible] def ty.abi_Kind : TypeId := 111
@[reducible] def ty.abi_Method : TypeId := 179
@[reducible] def ty.abi_NameOff : TypeId := 163
@[reducible] def ty.abi_TFlag : TypeId := 161
@[reducible] def ty.abi_TextOff : TypeId := 177
@[reducible] def ty.abi_Type : TypeId := 166
@[reducible] def ty.abi_TypeOff : TypeId := 164
@[reducible] def ty.abi_UncommonType : TypeId := 175
@[reducible] def ty.api_Change : TypeId := 48
@[reducible] def ty.api_Errno : TypeId := 62
@[reducible] def ty.api_Hunk : TypeId := 51
@[reducible] def ty.api_Row : TypeId := 61
@[reducible] def ty.error : TypeId := 33
@[reducible] def ty.hunks_side : TypeId := 88
@[reducible] def ty.maps_unhashableTypeError : TypeId := 19
@[reducible] def ty.reflectlite_Type : TypeId := 109
@[reducible] def ty.reflectlite_Value : TypeId := 106
@[reducible] def ty.reflectlite_ValueError : TypeId := 170
@[reducible] def ty.reflectlite_flag : TypeId := 104
@[reducible] def ty.reflectlite_rtype : TypeId := 125
@[reducible] def ty.runtime_PanicNilError : TypeId := 159
@[reducible] def ty.runtime_TypeAssertionError : TypeId := 156
@[reducible] def ty.runtime_boundsError : TypeId := 8
@[reducible] def ty.runtime_errorAddressString : TypeId := 14
@[reducible] def ty.runtime_errorString : TypeId := 10
@[reducible] def ty.runtime_plainError : TypeId := 11
@[reducible] def ty.selvagelaw16_Job : TypeId := 25
@[reducible] def ty.stat_Count : TypeId := 31
@[reducible] def ty.strings_Builder : TypeId := 74
@[reducible] def main_main.id : FuncId := 0
@[reducible] def gosem_cut.id : FuncId := 1
@[reducible] def gosem_cut_init.id : FuncId := 2
@[reducible] def selvagelaw16_StatCosts.id : FuncId := 3
@[reducible] def selvageref10_Build.id : FuncId := 4
@[reducible] def selvagelaw16_works.id : FuncId := 5
@[reducible] def stat_Of.id : FuncId := 6
@[reducible] def selvageref06_Cost.id : FuncId := 7
@[reducible] def selvageref01_Valid.id : FuncId := 8
@[reducible] def selvageref06_Normal.id : FuncId := 9
@[reducible] def selvageref06_Pairs.id : FuncId := 10
@[reducible] def selvageref01_Whole.id : FuncId := 11
@[reducible] def selvageref10_one.id : FuncId := 12
@[reducible] def stat_Table.id : FuncId := 13
@[reducible] def stat_Bar.id : FuncId := 14
@[reducible] def stat_Total.id : FuncId := 15
@[reducible] def selvagelaw16_num.id : FuncId := 16
@[reducible] def hunks_Valid.id : FuncId := 17
@[reducible] def selvageref06_Valid.id : FuncId := 18
@[reducible] def selvageref06_Of.id : FuncId := 19
@[reducible] def selvageref06_pairs.id : FuncId := 20
@[reducible] def selvageref10_put.id : FuncId := 21
@[reducible] def selvageref10_Counts.id : FuncId := 22
@[reducible] def selvageref10_stated.id : FuncId := 23
@[reducible] def quote_Quote.id : FuncId := 24
@[reducible] def strconv_Itoa.id : FuncId := 25
@[reducible] def strings_Builder_WriteString.id : FuncId := 26
@[reducible] def strings_Repeat.id : FuncId := 27
@[reducible] def strings_Builder_WriteByte.id : FuncId := 28
@[reducible] def strings_Builder_String.id : FuncId := 29
@[reducible] def stat_fits.id : FuncId := 30
@[reducible] def stat_Bar_1.id : FuncId := 31
@[reducible] def stat_sums.id : FuncId := 32
@[reducible] def stat_some.id : FuncId := 33
@[reducible] def errors_As.id : FuncId := 34
@[reducible] def hunks_sides.id : FuncId := 35
@[reducible] def hunks_place.id : FuncId := 36
@[reducible] def strings_Contains.id : FuncId := 37
@[reducible] def selvageref10_old.id : FuncId := 38
@[reducible] def selvageref10_fresh.id : FuncId := 39
@[reducible] def quote_Needs.id : FuncId := 40
@[reducible] def quote_letter.id : FuncId := 41
@[reducible] def strings_Builder_Write.id : FuncId := 42
@[reducible] def internal_strconv_Itoa.id : FuncId := 43
@[reducible] def strings_Builder_copyCheck.id : FuncId := 44
@[reducible] def bits_Mul.id : FuncId := 45
@[reducible] def strings_HasPrefix.id : FuncId := 46
@[reducible] def strings_Builder_Grow.id : FuncId := 47
@[reducible] def strings_Builder_Len.id : FuncId := 48
@[reducible] def reflectlite_ValueOf.id : FuncId := 49
@[reducible] def reflectlite_Value_Type.id : FuncId := 50
@[reducible] def reflectlite_Value_IsNil.id : FuncId := 51
@[reducible] def errors_as.id : FuncId := 52
@[reducible] def hunks_line.id : FuncId := 53
@[reducible] def hunks_side_add.id : FuncId := 54
@[reducible] def strings_Index.id : FuncId := 55
@[reducible] def strconv_FormatInt.id : FuncId := 56
@[reducible] def abi_NoEscape.id : FuncId := 57
@[reducible] def bits_Mul32.id : FuncId := 58
@[reducible] def bits_Mul64.id : FuncId := 59
@[reducible] def stringslite_HasPrefix.id : FuncId := 60
@[reducible] def strings_Builder_grow.id : FuncId := 61
@[reducible] def reflectlite_TypeOf.id : FuncId := 62
@[reducible] def reflectlite_Value_Elem.id : FuncId := 63
@[reducible] def reflectlite_Value_Set.id : FuncId := 64
@[reducible] def lines_Bare.id : FuncId := 65
@[reducible] def lines_Whole.id : FuncId := 66
@[reducible] def stringslite_Index.id : FuncId := 67
@[reducible] def strconv_small.id : FuncId := 68
@[reducible] def strconv_numDigits.id : FuncId := 69
@[reducible] def strconv_formatBase10.id : FuncId := 70
@[reducible] def strconv_formatBits.id : FuncId := 71
@[reducible] def bytealg_MakeNoZero.id : FuncId := 72
@[reducible] def strings_TrimSuffix.id : FuncId := 73
@[reducible] def strings_HasSuffix.id : FuncId := 74
@[reducible] def stringslite_IndexByte.id : FuncId := 75
@[reducible] def bytealg_IndexString.id : FuncId := 76
@[reducible] def bytealg_Cutover.id : FuncId := 77
@[reducible] def bytealg_IndexRabinKarp_string.id : FuncId := 78
@[reducible] def strconv_log10Pow2.id : FuncId := 79
@[reducible] def bits_Len64.id : FuncId := 80
@[reducible] def strconv_bool2_int.id : FuncId := 81
@[reducible] def strconv_isPowerOfTwo.id : FuncId := 82
@[reducible] def bits_TrailingZeros.id : FuncId := 83
@[reducible] def stringslite_TrimSuffix.id : FuncId := 84
@[reducible] def stringslite_HasSuffix.id : FuncId := 85
@[reducible] def bytealg_IndexByteString.id : FuncId := 86
@[reducible] def bytealg_hashStr_string.id : FuncId := 87
@[reducible] def bits_TrailingZeros32.id : FuncId := 88
@[reducible] def bits_TrailingZeros64.id : FuncId := 89
@[reducible] def runtime_boundsError_Error.id : FuncId := 90
@[reducible] def runtime_boundsError_RuntimeError.id : FuncId := 91
@[reducible] def runtime_errorString_Error.id : FuncId := 92
@[reducible] def runtime_errorString_RuntimeError.id : FuncId := 93
@[reducible] def runtime_plainError_Error.id : FuncId := 94
@[reducible] def runtime_plainError_RuntimeError.id : FuncId := 95
@[reducible] def runtime_errorAddressString_Error.id : FuncId := 96
@[reducible] def runtime_errorAddressString_RuntimeError.id : FuncId := 97
@[reducible] def runtime_TypeAssertionError_Error.id : FuncId := 98
@[reducible] def runtime_TypeAssertionError_RuntimeError.id : FuncId := 99
@[reducible] def runtime_PanicNilError_Error.id : FuncId := 100
@[reducible] def runtime_PanicNilError_RuntimeError.id : FuncId := 101
@[reducible] def abi_Type_Align.id : FuncId := 102
@[reducible] def abi_Type_Elem.id : FuncId := 103
@[reducible] def abi_Type_Kind.id : FuncId := 104
@[reducible] def maps_unhashableTypeError_Error.id : FuncId := 105
@[reducible] def maps_unhashableTypeError_RuntimeError.id : FuncId := 106
@[reducible] def api_Errno_Error.id : FuncId := 107
@[reducible] def strings_Builder_Reset.id : FuncId := 108
@[reducible] def reflectlite_flag_mustBeAssignable.id : FuncId := 109
@[reducible] def reflectlite_Value_Kind.id : FuncId := 110
@[reducible] def abi_Kind_String.id : FuncId := 111
@[reducible] def abi_Type_Size.id : FuncId := 112
@[reducible] def reflectlite_rtype_AssignableTo.id : FuncId := 113
@[reducible] def reflectlite_rtype_Comparable.id : FuncId := 114
@[reducible] def reflectlite_rtype_Elem.id : FuncId := 115
@[reducible] def reflectlite_rtype_Implements.id : FuncId := 116
@[reducible] def reflectlite_rtype_Name.id : FuncId := 117
@[reducible] def reflectlite_rtype_PkgPath.id : FuncId := 118
@[reducible] def reflectlite_rtype_String.id : FuncId := 119
@[reducible] def reflectlite_rtype_common.id : FuncId := 120
@[reducible] def reflectlite_rtype_uncommon.id : FuncId := 121
@[reducible] def reflectlite_ValueError_Error.id : FuncId := 122
@[reducible] def abi_UncommonType_ExportedMethods.id : FuncId := 123
@[reducible] def var_s_door_errors_errorType_is_laid_by_its_own_call_of_reflectlite_TypeOf_on_a_nil_pointer_and_Elem_of_it_handle_1.id : FuncId := 124
@[reducible] def var_s_door_gosem_cut_vars_holds_initialisers_alone_see_the_manifest_s_row_cutvarsword_look_11_test_files_too.id : FuncId := 125
@[reducible] def strconv_uint64pow10_is_laid_by_its_own_initialiser_plain_data_look_11.id : FuncId := 126
@[reducible] def bits_deBruijn32tab_is_laid_by_its_own_initialiser_plain_data_look_11.id : FuncId := 127
@[reducible] def bits_deBruijn64tab_is_laid_by_its_own_initialiser_plain_data_look_11.id : FuncId := 128
@[reducible] def var_s_door_the_look_of_gosem_cut_vars_went_over_the_folder_that_the_caller_named_as_the_repository_s_root_look_11.id : FuncId := 129
@[reducible] def gosem_cut_vars.id : FuncId := 130
end Go.Sv
