/- The table of this program's types, as the executor asks it; held against the program by the kernel. Printed by a program of this session. -/
import Derived.Test.YtebgkjjbbnbnlaaGreatDoorSvQ
import Derived.Test.YtebgkjjbbnbnlaaGreatDoorProg
import Derived.KernelRfl
set_option linter.unusedVariables false
set_option maxRecDepth 100000
namespace Go.Sv
open Go Go.Proofs
def ti1 : TI := ⟨.func, 1, 8, .nilFunc, false⟩
def ti2 : TI := ⟨.int .i64, 1, 8, .int .i64 0, false⟩
def ti3 : TI := ⟨.int .i64, 1, 8, .int .i64 0, false⟩
def ti4 : TI := ⟨.bool, 1, 1, .bool false, false⟩
def ti5 : TI := ⟨.int .u8, 1, 1, .int .u8 0, false⟩
def ti6 : TI := ⟨.int .u8, 1, 1, .int .u8 0, false⟩
def ti7 : TI := ⟨.struct [(0, 2), (1, 3), (2, 4), (3, 6)], 4, 24, .agg #[.int .i64 0, .int .i64 0, .bool false, .int .u8 0], false⟩
def ti8 : TI := ⟨.struct [(0, 2), (1, 3), (2, 4), (3, 6)], 4, 24, .agg #[.int .i64 0, .int .i64 0, .bool false, .int .u8 0], false⟩
def ti9 : TI := ⟨.str, 1, 16, .string ⟨#[]⟩, false⟩
def ti10 : TI := ⟨.str, 1, 16, .string ⟨#[]⟩, false⟩
def ti11 : TI := ⟨.str, 1, 16, .string ⟨#[]⟩, false⟩
def ti12 : TI := ⟨.int .u64, 1, 8, .int .u64 0, false⟩
def ti13 : TI := ⟨.struct [(0, 9), (1, 12)], 2, 24, .agg #[.string ⟨#[]⟩, .int .u64 0], false⟩
def ti14 : TI := ⟨.struct [(0, 9), (1, 12)], 2, 24, .agg #[.string ⟨#[]⟩, .int .u64 0], false⟩
def ti15 : TI := ⟨.ptr 260, 1, 8, .pointer none, false⟩
def ti16 : TI := ⟨.ptr 263, 1, 8, .pointer none, false⟩
def ti17 : TI := ⟨.ptr 271, 1, 8, .pointer none, false⟩
def ti18 : TI := ⟨.struct [(0, 17)], 1, 8, .agg #[.pointer none], false⟩
def ti19 : TI := ⟨.struct [(0, 17)], 1, 8, .agg #[.pointer none], false⟩
def ti20 : TI := ⟨.iface 0, 1, 16, .nilIface, false⟩
def ti21 : TI := ⟨.int .i32, 1, 4, .int .i32 0, false⟩
def ti22 : TI := ⟨.struct [(0, 9), (1, 9)], 2, 32, .agg #[.string ⟨#[]⟩, .string ⟨#[]⟩], false⟩
def ti23 : TI := ⟨.struct [(0, 9), (1, 9)], 2, 32, .agg #[.string ⟨#[]⟩, .string ⟨#[]⟩], true⟩
def ti24 : TI := ⟨.slice 39, 1, 24, .slice none 0 0, false⟩
def ti25 : TI := ⟨.struct [(0, 23), (2, 23), (4, 24)], 5, 88, .agg #[.string ⟨#[]⟩, .string ⟨#[]⟩, .string ⟨#[]⟩, .string ⟨#[]⟩, .slice none 0 0], false⟩
def ti26 : TI := ⟨.struct [(0, 23), (2, 23), (4, 24)], 5, 88, .agg #[.string ⟨#[]⟩, .string ⟨#[]⟩, .string ⟨#[]⟩, .string ⟨#[]⟩, .slice none 0 0], false⟩
def ti27 : TI := ⟨.func, 1, 8, .nilFunc, false⟩
def ti28 : TI := ⟨.iface 1, 1, 16, .nilIface, false⟩
def ti29 : TI := ⟨.iface 1, 1, 16, .nilIface, false⟩
def ti31 : TI := ⟨.func, 1, 8, .nilFunc, false⟩
def ti33 : TI := ⟨.func, 1, 8, .nilFunc, false⟩
def ti34 : TI := ⟨.func, 1, 8, .nilFunc, false⟩
def ti35 : TI := ⟨.func, 1, 8, .nilFunc, false⟩
def ti36 : TI := ⟨.func, 1, 8, .nilFunc, false⟩
def ti37 : TI := ⟨.slice 51, 1, 24, .slice none 0 0, false⟩
def ti38 : TI := ⟨.struct [(0, 3), (1, 3), (2, 3), (3, 3), (4, 9), (5, 37)], 6, 72, .agg #[.int .i64 0, .int .i64 0, .int .i64 0, .int .i64 0, .string ⟨#[]⟩, .slice none 0 0], false⟩
def ti39 : TI := ⟨.struct [(0, 3), (1, 3), (2, 3), (3, 3), (4, 9), (5, 37)], 6, 72, .agg #[.int .i64 0, .int .i64 0, .int .i64 0, .int .i64 0, .string ⟨#[]⟩, .slice none 0 0], false⟩
def ti40 : TI := ⟨.func, 1, 8, .nilFunc, false⟩
def ti41 : TI := ⟨.func, 1, 8, .nilFunc, false⟩
def ti42 : TI := ⟨.func, 1, 8, .nilFunc, false⟩
def ti44 : TI := ⟨.func, 1, 8, .nilFunc, false⟩
def ti46 : TI := ⟨.func, 1, 8, .nilFunc, false⟩
def ti47 : TI := ⟨.func, 1, 8, .nilFunc, false⟩
def ti48 : TI := ⟨.func, 1, 8, .nilFunc, false⟩
def ti49 : TI := ⟨.func, 1, 8, .nilFunc, false⟩
def ti50 : TI := ⟨.struct [(0, 3), (1, 9)], 2, 24, .agg #[.int .i64 0, .string ⟨#[]⟩], false⟩
def ti51 : TI := ⟨.struct [(0, 3), (1, 9)], 2, 24, .agg #[.int .i64 0, .string ⟨#[]⟩], true⟩
def ti52 : TI := ⟨.func, 1, 8, .nilFunc, false⟩
def ti53 : TI := ⟨.slice 9, 1, 24, .slice none 0 0, false⟩
def ti54 : TI := ⟨.func, 1, 8, .nilFunc, false⟩
def ti55 : TI := ⟨.ptr 58, 1, 8, .pointer none, false⟩
def ti56 : TI := ⟨.slice 5, 1, 24, .slice none 0 0, false⟩
def ti57 : TI := ⟨.struct [(0, 55), (1, 56)], 2, 32, .agg #[.pointer none, .slice none 0 0], false⟩
def ti58 : TI := ⟨.struct [(0, 55), (1, 56)], 2, 32, .agg #[.pointer none, .slice none 0 0], false⟩
def ti60 : TI := ⟨.func, 1, 8, .nilFunc, false⟩
def ti61 : TI := ⟨.func, 1, 8, .nilFunc, false⟩
def ti62 : TI := ⟨.func, 1, 8, .nilFunc, false⟩
def ti63 : TI := ⟨.int .i64, 1, 8, .int .i64 0, false⟩
def ti64 : TI := ⟨.func, 1, 8, .nilFunc, false⟩
def ti65 : TI := ⟨.ptr 63, 1, 8, .pointer none, false⟩
def ti66 : TI := ⟨.func, 1, 8, .nilFunc, false⟩
def ti67 : TI := ⟨.func, 1, 8, .nilFunc, false⟩
def ti68 : TI := ⟨.func, 1, 8, .nilFunc, false⟩
def ti69 : TI := ⟨.func, 1, 8, .nilFunc, false⟩
def ti70 : TI := ⟨.func, 1, 8, .nilFunc, false⟩
def ti71 : TI := ⟨.func, 1, 8, .nilFunc, false⟩
def ti72 : TI := ⟨.func, 1, 8, .nilFunc, false⟩
def ti73 : TI := ⟨.func, 1, 8, .nilFunc, false⟩
def ti74 : TI := ⟨.ptr 76, 1, 8, .pointer none, false⟩
def ti75 : TI := ⟨.struct [(0, 53), (1, 3)], 2, 32, .agg #[.slice none 0 0, .int .i64 0], false⟩
def ti76 : TI := ⟨.struct [(0, 53), (1, 3)], 2, 32, .agg #[.slice none 0 0, .int .i64 0], false⟩
def ti78 : TI := ⟨.func, 1, 8, .nilFunc, false⟩
def ti80 : TI := ⟨.func, 1, 8, .nilFunc, false⟩
def ti81 : TI := ⟨.func, 1, 8, .nilFunc, false⟩
def ti83 : TI := ⟨.func, 1, 8, .nilFunc, false⟩
def ti84 : TI := ⟨.array 2 23, 4, 64, .agg #[.string ⟨#[]⟩, .string ⟨#[]⟩, .string ⟨#[]⟩, .string ⟨#[]⟩], false⟩
def ti85 : TI := ⟨.func, 1, 8, .nilFunc, false⟩
def ti86 : TI := ⟨.func, 1, 8, .nilFunc, false⟩
def ti88 : TI := ⟨.func, 1, 8, .nilFunc, false⟩
def ti89 : TI := ⟨.func, 1, 8, .nilFunc, false⟩
def ti90 : TI := ⟨.func, 1, 8, .nilFunc, false⟩
def ti91 : TI := ⟨.func, 1, 8, .nilFunc, false⟩
def ti92 : TI := ⟨.ptr 94, 1, 8, .pointer none, false⟩
def ti93 : TI := ⟨.struct [(0, 53), (1, 3)], 2, 32, .agg #[.slice none 0 0, .int .i64 0], false⟩
def ti94 : TI := ⟨.struct [(0, 53), (1, 3)], 2, 32, .agg #[.slice none 0 0, .int .i64 0], false⟩
def ti95 : TI := ⟨.ptr 99, 1, 8, .pointer none, false⟩
def ti97 : TI := ⟨.func, 1, 8, .nilFunc, false⟩
def ti98 : TI := ⟨.struct [(0, 63), (1, 3)], 2, 16, .agg #[.int .i64 0, .int .i64 0], false⟩
def ti99 : TI := ⟨.struct [(0, 63), (1, 3)], 2, 16, .agg #[.int .i64 0, .int .i64 0], true⟩
def ti100 : TI := ⟨.func, 1, 8, .nilFunc, false⟩
def ti101 : TI := ⟨.ptr 5, 1, 8, .pointer none, false⟩
def ti102 : TI := ⟨.func, 1, 8, .nilFunc, false⟩
def ti103 : TI := ⟨.unsafeptr, 1, 8, .pointer none, false⟩
def ti104 : TI := ⟨.int .u64, 1, 8, .int .u64 0, false⟩
def ti105 : TI := ⟨.struct [(0, 17), (1, 103), (2, 104)], 3, 24, .agg #[.pointer none, .pointer none, .int .u64 0], false⟩
def ti106 : TI := ⟨.struct [(0, 17), (1, 103), (2, 104)], 3, 24, .agg #[.pointer none, .pointer none, .int .u64 0], false⟩
def ti107 : TI := ⟨.func, 1, 8, .nilFunc, false⟩
def ti108 : TI := ⟨.iface 11, 1, 16, .nilIface, false⟩
def ti109 : TI := ⟨.iface 11, 1, 16, .nilIface, false⟩
def ti110 : TI := ⟨.func, 1, 8, .nilFunc, false⟩
def ti111 : TI := ⟨.int .u8, 1, 1, .int .u8 0, false⟩
def ti112 : TI := ⟨.func, 1, 8, .nilFunc, false⟩
def ti113 : TI := ⟨.func, 1, 8, .nilFunc, false⟩
def ti114 : TI := ⟨.func, 1, 8, .nilFunc, false⟩
def ti115 : TI := ⟨.struct [(0, 3), (1, 4)], 2, 16, .agg #[.int .i64 0, .bool false], false⟩
def ti116 : TI := ⟨.struct [(0, 3), (1, 4)], 2, 16, .agg #[.int .i64 0, .bool false], true⟩
def ti118 : TI := ⟨.func, 1, 8, .nilFunc, false⟩
def ti119 : TI := ⟨.func, 1, 8, .nilFunc, false⟩
def ti120 : TI := ⟨.func, 1, 8, .nilFunc, false⟩
def ti122 : TI := ⟨.func, 1, 8, .nilFunc, false⟩
def ti123 : TI := ⟨.func, 1, 8, .nilFunc, false⟩
def ti124 : TI := ⟨.func, 1, 8, .nilFunc, false⟩
def ti126 : TI := ⟨.func, 1, 8, .nilFunc, false⟩
def ti127 : TI := ⟨.func, 1, 8, .nilFunc, false⟩
def ti128 : TI := ⟨.func, 1, 8, .nilFunc, false⟩
def ti130 : TI := ⟨.func, 1, 8, .nilFunc, false⟩
def ti131 : TI := ⟨.func, 1, 8, .nilFunc, false⟩
def ti132 : TI := ⟨.struct [(0, 3), (1, 3), (2, 4)], 3, 24, .agg #[.int .i64 0, .int .i64 0, .bool false], false⟩
def ti133 : TI := ⟨.struct [(0, 3), (1, 3), (2, 4)], 3, 24, .agg #[.int .i64 0, .int .i64 0, .bool false], true⟩
def ti135 : TI := ⟨.func, 1, 8, .nilFunc, false⟩
def ti136 : TI := ⟨.slice 183, 1, 24, .slice none 0 0, false⟩
def ti137 : TI := ⟨.func, 1, 8, .nilFunc, false⟩
def ti139 : TI := ⟨.func, 1, 8, .nilFunc, false⟩
def ti140 : TI := ⟨.func, 1, 8, .nilFunc, false⟩
def ti141 : TI := ⟨.func, 1, 8, .nilFunc, false⟩
def ti143 : TI := ⟨.func, 1, 8, .nilFunc, false⟩
def ti145 : TI := ⟨.func, 1, 8, .nilFunc, false⟩
def ti146 : TI := ⟨.slice 193, 1, 24, .slice none 0 0, false⟩
def ti148 : TI := ⟨.func, 1, 8, .nilFunc, false⟩
def ti149 : TI := ⟨.func, 1, 8, .nilFunc, false⟩
def ti150 : TI := ⟨.func, 1, 8, .nilFunc, false⟩
def ti152 : TI := ⟨.func, 1, 8, .nilFunc, false⟩
def ti154 : TI := ⟨.func, 1, 8, .nilFunc, false⟩
def ti155 : TI := ⟨.func, 1, 8, .nilFunc, false⟩
def ti156 : TI := ⟨.func, 1, 8, .nilFunc, false⟩
def ti157 : TI := ⟨.struct [(0, 17)], 1, 8, .agg #[.pointer none], false⟩
def ti158 : TI := ⟨.struct [(0, 17)], 1, 8, .agg #[.pointer none], false⟩
def ti159 : TI := ⟨.ptr 275, 1, 8, .pointer none, false⟩
def ti160 : TI := ⟨.func, 1, 8, .nilFunc, false⟩
def ti161 : TI := ⟨.func, 1, 8, .nilFunc, false⟩
def ti162 : TI := ⟨.func, 1, 8, .nilFunc, false⟩
def ti163 : TI := ⟨.iface 1, 1, 16, .nilIface, false⟩
def ti165 : TI := ⟨.func, 1, 8, .nilFunc, false⟩
def ti166 : TI := ⟨.iface 1, 1, 16, .nilIface, false⟩
def ti167 : TI := ⟨.func, 1, 8, .nilFunc, false⟩
def ti168 : TI := ⟨.iface 1, 1, 16, .nilIface, false⟩
def ti169 : TI := ⟨.slice 29, 1, 24, .slice none 0 0, false⟩
def ti170 : TI := ⟨.func, 1, 8, .nilFunc, false⟩
def ti171 : TI := ⟨.func, 1, 8, .nilFunc, false⟩
def ti172 : TI := ⟨.func, 1, 8, .nilFunc, false⟩
def ti173 : TI := ⟨.array 4 4, 4, 4, .agg #[.bool false, .bool false, .bool false, .bool false], false⟩
def ti175 : TI := ⟨.func, 1, 8, .nilFunc, false⟩
def ti176 : TI := ⟨.func, 1, 8, .nilFunc, false⟩
def ti178 : TI := ⟨.func, 1, 8, .nilFunc, false⟩
def ti180 : TI := ⟨.func, 1, 8, .nilFunc, false⟩
def ti181 : TI := ⟨.ptr 183, 1, 8, .pointer none, false⟩
def ti182 : TI := ⟨.struct [(0, 5), (1, 9)], 2, 24, .agg #[.int .u8 0, .string ⟨#[]⟩], false⟩
def ti183 : TI := ⟨.struct [(0, 5), (1, 9)], 2, 24, .agg #[.int .u8 0, .string ⟨#[]⟩], true⟩
def ti184 : TI := ⟨.func, 1, 8, .nilFunc, false⟩
def ti186 : TI := ⟨.func, 1, 8, .nilFunc, false⟩
def ti187 : TI := ⟨.func, 1, 8, .nilFunc, false⟩
def ti189 : TI := ⟨.func, 1, 8, .nilFunc, false⟩
def ti191 : TI := ⟨.func, 1, 8, .nilFunc, false⟩
def ti192 : TI := ⟨.struct [(0, 5), (1, 9)], 2, 24, .agg #[.int .u8 0, .string ⟨#[]⟩], false⟩
def ti193 : TI := ⟨.struct [(0, 5), (1, 9)], 2, 24, .agg #[.int .u8 0, .string ⟨#[]⟩], true⟩
def ti194 : TI := ⟨.func, 1, 8, .nilFunc, false⟩
def ti195 : TI := ⟨.func, 1, 8, .nilFunc, false⟩
def ti196 : TI := ⟨.func, 1, 8, .nilFunc, false⟩
def ti197 : TI := ⟨.func, 1, 8, .nilFunc, false⟩
def ti198 : TI := ⟨.int .u64, 1, 8, .int .u64 0, false⟩
def ti200 : TI := ⟨.func, 1, 8, .nilFunc, false⟩
def ti201 : TI := ⟨.func, 1, 8, .nilFunc, false⟩
def ti202 : TI := ⟨.ptr 39, 1, 8, .pointer none, false⟩
def ti203 : TI := ⟨.ptr 116, 1, 8, .pointer none, false⟩
def ti204 : TI := ⟨.func, 1, 8, .nilFunc, false⟩
def ti205 : TI := ⟨.func, 1, 8, .nilFunc, false⟩
def ti206 : TI := ⟨.array 256 4, 256, 256, .agg #[.bool false, .bool false, .bool false, .bool false, .bool false, .bool false, .bool false, .bool false, .bool false, .bool false, .bool false, .bool false, .bool false, .bool false, .bool false, .bool false, .bool false, .bool false, .bool false, .bool false, .bool false, .bool false, .bool false, .bool false, .bool false, .bool false, .bool false, .bool false, .bool false, .bool false, .bool false, .bool false, .bool false, .bool false, .bool false, .bool false, .bool false, .bool false, .bool false, .bool false, .bool false, .bool false, .bool false, .bool false, .bool false, .bool false, .bool false, .bool false, .bool false, .bool false, .bool false, .bool false, .bool false, .bool false, .bool false, .bool false, .bool false, .bool false, .bool false, .bool false, .bool false, .bool false, .bool false, .bool false, .bool false, .bool false, .bool false, .bool false, .bool false, .bool false, .bool false, .bool false, .bool false, .bool false, .bool false, .bool false, .bool false, .bool false, .bool false, .bool false, .bool false, .bool false, .bool false, .bool false, .bool false, .bool false, .bool false, .bool false, .bool false, .bool false, .bool false, .bool false, .bool false, .bool false, .bool false, .bool false, .bool false, .bool false, .bool false, .bool false, .bool false, .bool false, .bool false, .bool false, .bool false, .bool false, .bool false, .bool false, .bool false, .bool false, .bool false, .bool false, .bool false, .bool false, .bool false, .bool false, .bool false, .bool false, .bool false, .bool false, .bool false, .bool false, .bool false, .bool false, .bool false, .bool false, .bool false, .bool false, .bool false, .bool false, .bool false, .bool false, .bool false, .bool false, .bool false, .bool false, .bool false, .bool false, .bool false, .bool false, .bool false, .bool false, .bool false, .bool false, .bool false, .bool false, .bool false, .bool false, .bool false, .bool false, .bool false, .bool false, .bool false, .bool false, .bool false, .bool false, .bool false, .bool false, .bool false, .bool false, .bool false, .bool false, .bool false, .bool false, .bool false, .bool false, .bool false, .bool false, .bool false, .bool false, .bool false, .bool false, .bool false, .bool false, .bool false, .bool false, .bool false, .bool false, .bool false, .bool false, .bool false, .bool false, .bool false, .bool false, .bool false, .bool false, .bool false, .bool false, .bool false, .bool false, .bool false, .bool false, .bool false, .bool false, .bool false, .bool false, .bool false, .bool false, .bool false, .bool false, .bool false, .bool false, .bool false, .bool false, .bool false, .bool false, .bool false, .bool false, .bool false, .bool false, .bool false, .bool false, .bool false, .bool false, .bool false, .bool false, .bool false, .bool false, .bool false, .bool false, .bool false, .bool false, .bool false, .bool false, .bool false, .bool false, .bool false, .bool false, .bool false, .bool false, .bool false, .bool false, .bool false, .bool false, .bool false, .bool false, .bool false, .bool false, .bool false, .bool false, .bool false, .bool false, .bool false, .bool false, .bool false, .bool false, .bool false, .bool false, .bool false, .bool false, .bool false, .bool false, .bool false, .bool false, .bool false, .bool false], false⟩
def ti207 : TI := ⟨.array 256 4, 256, 256, .agg #[.bool false, .bool false, .bool false, .bool false, .bool false, .bool false, .bool false, .bool false, .bool false, .bool false, .bool false, .bool false, .bool false, .bool false, .bool false, .bool false, .bool false, .bool false, .bool false, .bool false, .bool false, .bool false, .bool false, .bool false, .bool false, .bool false, .bool false, .bool false, .bool false, .bool false, .bool false, .bool false, .bool false, .bool false, .bool false, .bool false, .bool false, .bool false, .bool false, .bool false, .bool false, .bool false, .bool false, .bool false, .bool false, .bool false, .bool false, .bool false, .bool false, .bool false, .bool false, .bool false, .bool false, .bool false, .bool false, .bool false, .bool false, .bool false, .bool false, .bool false, .bool false, .bool false, .bool false, .bool false, .bool false, .bool false, .bool false, .bool false, .bool false, .bool false, .bool false, .bool false, .bool false, .bool false, .bool false, .bool false, .bool false, .bool false, .bool false, .bool false, .bool false, .bool false, .bool false, .bool false, .bool false, .bool false, .bool false, .bool false, .bool false, .bool false, .bool false, .bool false, .bool false, .bool false, .bool false, .bool false, .bool false, .bool false, .bool false, .bool false, .bool false, .bool false, .bool false, .bool false, .bool false, .bool false, .bool false, .bool false, .bool false, .bool false, .bool false, .bool false, .bool false, .bool false, .bool false, .bool false, .bool false, .bool false, .bool false, .bool false, .bool false, .bool false, .bool false, .bool false, .bool false, .bool false, .bool false, .bool false, .bool false, .bool false, .bool false, .bool false, .bool false, .bool false, .bool false, .bool false, .bool false, .bool false, .bool false, .bool false, .bool false, .bool false, .bool false, .bool false, .bool false, .bool false, .bool false, .bool false, .bool false, .bool false, .bool false, .bool false, .bool false, .bool false, .bool false, .bool false, .bool false, .bool false, .bool false, .bool false, .bool false, .bool false, .bool false, .bool false, .bool false, .bool false, .bool false, .bool false, .bool false, .bool false, .bool false, .bool false, .bool false, .bool false, .bool false, .bool false, .bool false, .bool false, .bool false, .bool false, .bool false, .bool false, .bool false, .bool false, .bool false, .bool false, .bool false, .bool false, .bool false, .bool false, .bool false, .bool false, .bool false, .bool false, .bool false, .bool false, .bool false, .bool false, .bool false, .bool false, .bool false, .bool false, .bool false, .bool false, .bool false, .bool false, .bool false, .bool false, .bool false, .bool false, .bool false, .bool false, .bool false, .bool false, .bool false, .bool false, .bool false, .bool false, .bool false, .bool false, .bool false, .bool false, .bool false, .bool false, .bool false, .bool false, .bool false, .bool false, .bool false, .bool false, .bool false, .bool false, .bool false, .bool false, .bool false, .bool false, .bool false, .bool false, .bool false, .bool false, .bool false, .bool false, .bool false, .bool false, .bool false, .bool false, .bool false, .bool false, .bool false, .bool false, .bool false, .bool false, .bool false, .bool false, .bool false, .bool false], false⟩
def ti209 : TI := ⟨.func, 1, 8, .nilFunc, false⟩
def ti210 : TI := ⟨.func, 1, 8, .nilFunc, false⟩
def ti211 : TI := ⟨.func, 1, 8, .nilFunc, false⟩
def ti213 : TI := ⟨.func, 1, 8, .nilFunc, false⟩
def ti214 : TI := ⟨.ptr 51, 1, 8, .pointer none, false⟩
def ti215 : TI := ⟨.func, 1, 8, .nilFunc, false⟩
def ti216 : TI := ⟨.array 24 5, 24, 24, .agg #[.int .u8 0, .int .u8 0, .int .u8 0, .int .u8 0, .int .u8 0, .int .u8 0, .int .u8 0, .int .u8 0, .int .u8 0, .int .u8 0, .int .u8 0, .int .u8 0, .int .u8 0, .int .u8 0, .int .u8 0, .int .u8 0, .int .u8 0, .int .u8 0, .int .u8 0, .int .u8 0, .int .u8 0, .int .u8 0, .int .u8 0, .int .u8 0], false⟩
def ti217 : TI := ⟨.int .u64, 1, 8, .int .u64 0, false⟩
def ti218 : TI := ⟨.func, 1, 8, .nilFunc, false⟩
def ti219 : TI := ⟨.func, 1, 8, .nilFunc, false⟩
def ti221 : TI := ⟨.func, 1, 8, .nilFunc, false⟩
def ti222 : TI := ⟨.func, 1, 8, .nilFunc, false⟩
def ti223 : TI := ⟨.ptr 207, 1, 8, .pointer none, false⟩
def ti224 : TI := ⟨.func, 1, 8, .nilFunc, false⟩
def ti225 : TI := ⟨.func, 1, 8, .nilFunc, false⟩
def ti226 : TI := ⟨.func, 1, 8, .nilFunc, false⟩
def ti227 : TI := ⟨.int .u32, 1, 4, .int .u32 0, false⟩
def ti229 : TI := ⟨.func, 1, 8, .nilFunc, false⟩
def ti230 : TI := ⟨.func, 1, 8, .nilFunc, false⟩
def ti231 : TI := ⟨.array 20 217, 20, 160, .agg #[.int .u64 0, .int .u64 0, .int .u64 0, .int .u64 0, .int .u64 0, .int .u64 0, .int .u64 0, .int .u64 0, .int .u64 0, .int .u64 0, .int .u64 0, .int .u64 0, .int .u64 0, .int .u64 0, .int .u64 0, .int .u64 0, .int .u64 0, .int .u64 0, .int .u64 0, .int .u64 0], false⟩
def ti232 : TI := ⟨.array 65 5, 65, 65, .agg #[.int .u8 0, .int .u8 0, .int .u8 0, .int .u8 0, .int .u8 0, .int .u8 0, .int .u8 0, .int .u8 0, .int .u8 0, .int .u8 0, .int .u8 0, .int .u8 0, .int .u8 0, .int .u8 0, .int .u8 0, .int .u8 0, .int .u8 0, .int .u8 0, .int .u8 0, .int .u8 0, .int .u8 0, .int .u8 0, .int .u8 0, .int .u8 0, .int .u8 0, .int .u8 0, .int .u8 0, .int .u8 0, .int .u8 0, .int .u8 0, .int .u8 0, .int .u8 0, .int .u8 0, .int .u8 0, .int .u8 0, .int .u8 0, .int .u8 0, .int .u8 0, .int .u8 0, .int .u8 0, .int .u8 0, .int .u8 0, .int .u8 0, .int .u8 0, .int .u8 0, .int .u8 0, .int .u8 0, .int .u8 0, .int .u8 0, .int .u8 0, .int .u8 0, .int .u8 0, .int .u8 0, .int .u8 0, .int .u8 0, .int .u8 0, .int .u8 0, .int .u8 0, .int .u8 0, .int .u8 0, .int .u8 0, .int .u8 0, .int .u8 0, .int .u8 0, .int .u8 0], false⟩
def ti233 : TI := ⟨.func, 1, 8, .nilFunc, false⟩
def ti235 : TI := ⟨.func, 1, 8, .nilFunc, false⟩
def ti236 : TI := ⟨.func, 1, 8, .nilFunc, false⟩
def ti237 : TI := ⟨.int .i64, 1, 8, .int .i64 0, false⟩
def ti239 : TI := ⟨.func, 1, 8, .nilFunc, false⟩
def ti240 : TI := ⟨.ptr 247, 1, 8, .pointer none, false⟩
def ti241 : TI := ⟨.func, 1, 8, .nilFunc, false⟩
def ti242 : TI := ⟨.func, 1, 8, .nilFunc, false⟩
def ti243 : TI := ⟨.func, 1, 8, .nilFunc, false⟩
def ti245 : TI := ⟨.func, 1, 8, .nilFunc, false⟩
def ti246 : TI := ⟨.struct [(0, 9), (1, 9), (2, 29)], 3, 48, .agg #[.string ⟨#[]⟩, .string ⟨#[]⟩, .nilIface], false⟩
def ti247 : TI := ⟨.struct [(0, 9), (1, 9), (2, 29)], 3, 48, .agg #[.string ⟨#[]⟩, .string ⟨#[]⟩, .nilIface], false⟩
def ti248 : TI := ⟨.func, 1, 8, .nilFunc, false⟩
def ti249 : TI := ⟨.array 32 5, 32, 32, .agg #[.int .u8 0, .int .u8 0, .int .u8 0, .int .u8 0, .int .u8 0, .int .u8 0, .int .u8 0, .int .u8 0, .int .u8 0, .int .u8 0, .int .u8 0, .int .u8 0, .int .u8 0, .int .u8 0, .int .u8 0, .int .u8 0, .int .u8 0, .int .u8 0, .int .u8 0, .int .u8 0, .int .u8 0, .int .u8 0, .int .u8 0, .int .u8 0, .int .u8 0, .int .u8 0, .int .u8 0, .int .u8 0, .int .u8 0, .int .u8 0, .int .u8 0, .int .u8 0], false⟩
def ti250 : TI := ⟨.array 64 5, 64, 64, .agg #[.int .u8 0, .int .u8 0, .int .u8 0, .int .u8 0, .int .u8 0, .int .u8 0, .int .u8 0, .int .u8 0, .int .u8 0, .int .u8 0, .int .u8 0, .int .u8 0, .int .u8 0, .int .u8 0, .int .u8 0, .int .u8 0, .int .u8 0, .int .u8 0, .int .u8 0, .int .u8 0, .int .u8 0, .int .u8 0, .int .u8 0, .int .u8 0, .int .u8 0, .int .u8 0, .int .u8 0, .int .u8 0, .int .u8 0, .int .u8 0, .int .u8 0, .int .u8 0, .int .u8 0, .int .u8 0, .int .u8 0, .int .u8 0, .int .u8 0, .int .u8 0, .int .u8 0, .int .u8 0, .int .u8 0, .int .u8 0, .int .u8 0, .int .u8 0, .int .u8 0, .int .u8 0, .int .u8 0, .int .u8 0, .int .u8 0, .int .u8 0, .int .u8 0, .int .u8 0, .int .u8 0, .int .u8 0, .int .u8 0, .int .u8 0, .int .u8 0, .int .u8 0, .int .u8 0, .int .u8 0, .int .u8 0, .int .u8 0, .int .u8 0, .int .u8 0], false⟩
def ti251 : TI := ⟨.array 256 5, 256, 256, .agg #[.int .u8 0, .int .u8 0, .int .u8 0, .int .u8 0, .int .u8 0, .int .u8 0, .int .u8 0, .int .u8 0, .int .u8 0, .int .u8 0, .int .u8 0, .int .u8 0, .int .u8 0, .int .u8 0, .int .u8 0, .int .u8 0, .int .u8 0, .int .u8 0, .int .u8 0, .int .u8 0, .int .u8 0, .int .u8 0, .int .u8 0, .int .u8 0, .int .u8 0, .int .u8 0, .int .u8 0, .int .u8 0, .int .u8 0, .int .u8 0, .int .u8 0, .int .u8 0, .int .u8 0, .int .u8 0, .int .u8 0, .int .u8 0, .int .u8 0, .int .u8 0, .int .u8 0, .int .u8 0, .int .u8 0, .int .u8 0, .int .u8 0, .int .u8 0, .int .u8 0, .int .u8 0, .int .u8 0, .int .u8 0, .int .u8 0, .int .u8 0, .int .u8 0, .int .u8 0, .int .u8 0, .int .u8 0, .int .u8 0, .int .u8 0, .int .u8 0, .int .u8 0, .int .u8 0, .int .u8 0, .int .u8 0, .int .u8 0, .int .u8 0, .int .u8 0, .int .u8 0, .int .u8 0, .int .u8 0, .int .u8 0, .int .u8 0, .int .u8 0, .int .u8 0, .int .u8 0, .int .u8 0, .int .u8 0, .int .u8 0, .int .u8 0, .int .u8 0, .int .u8 0, .int .u8 0, .int .u8 0, .int .u8 0, .int .u8 0, .int .u8 0, .int .u8 0, .int .u8 0, .int .u8 0, .int .u8 0, .int .u8 0, .int .u8 0, .int .u8 0, .int .u8 0, .int .u8 0, .int .u8 0, .int .u8 0, .int .u8 0, .int .u8 0, .int .u8 0, .int .u8 0, .int .u8 0, .int .u8 0, .int .u8 0, .int .u8 0, .int .u8 0, .int .u8 0, .int .u8 0, .int .u8 0, .int .u8 0, .int .u8 0, .int .u8 0, .int .u8 0, .int .u8 0, .int .u8 0, .int .u8 0, .int .u8 0, .int .u8 0, .int .u8 0, .int .u8 0, .int .u8 0, .int .u8 0, .int .u8 0, .int .u8 0, .int .u8 0, .int .u8 0, .int .u8 0, .int .u8 0, .int .u8 0, .int .u8 0, .int .u8 0, .int .u8 0, .int .u8 0, .int .u8 0, .int .u8 0, .int .u8 0, .int .u8 0, .int .u8 0, .int .u8 0, .int .u8 0, .int .u8 0, .int .u8 0, .int .u8 0, .int .u8 0, .int .u8 0, .int .u8 0, .int .u8 0, .int .u8 0, .int .u8 0, .int .u8 0, .int .u8 0, .int .u8 0, .int .u8 0, .int .u8 0, .int .u8 0, .int .u8 0, .int .u8 0, .int .u8 0, .int .u8 0, .int .u8 0, .int .u8 0, .int .u8 0, .int .u8 0, .int .u8 0, .int .u8 0, .int .u8 0, .int .u8 0, .int .u8 0, .int .u8 0, .int .u8 0, .int .u8 0, .int .u8 0, .int .u8 0, .int .u8 0, .int .u8 0, .int .u8 0, .int .u8 0, .int .u8 0, .int .u8 0, .int .u8 0, .int .u8 0, .int .u8 0, .int .u8 0, .int .u8 0, .int .u8 0, .int .u8 0, .int .u8 0, .int .u8 0, .int .u8 0, .int .u8 0, .int .u8 0, .int .u8 0, .int .u8 0, .int .u8 0, .int .u8 0, .int .u8 0, .int .u8 0, .int .u8 0, .int .u8 0, .int .u8 0, .int .u8 0, .int .u8 0, .int .u8 0, .int .u8 0, .int .u8 0, .int .u8 0, .int .u8 0, .int .u8 0, .int .u8 0, .int .u8 0, .int .u8 0, .int .u8 0, .int .u8 0, .int .u8 0, .int .u8 0, .int .u8 0, .int .u8 0, .int .u8 0, .int .u8 0, .int .u8 0, .int .u8 0, .int .u8 0, .int .u8 0, .int .u8 0, .int .u8 0, .int .u8 0, .int .u8 0, .int .u8 0, .int .u8 0, .int .u8 0, .int .u8 0, .int .u8 0, .int .u8 0, .int .u8 0, .int .u8 0, .int .u8 0, .int .u8 0, .int .u8 0, .int .u8 0, .int .u8 0, .int .u8 0, .int .u8 0, .int .u8 0, .int .u8 0, .int .u8 0, .int .u8 0, .int .u8 0, .int .u8 0, .int .u8 0, .int .u8 0, .int .u8 0, .int .u8 0, .int .u8 0, .int .u8 0, .int .u8 0, .int .u8 0, .int .u8 0, .int .u8 0, .int .u8 0], false⟩
def ti252 : TI := ⟨.struct [(0, 5), (1, 5)], 2, 2, .agg #[.int .u8 0, .int .u8 0], false⟩
def ti253 : TI := ⟨.struct [(0, 5), (1, 5)], 2, 2, .agg #[.int .u8 0, .int .u8 0], false⟩
def ti254 : TI := ⟨.array 16 253, 32, 32, .agg #[.int .u8 0, .int .u8 0, .int .u8 0, .int .u8 0, .int .u8 0, .int .u8 0, .int .u8 0, .int .u8 0, .int .u8 0, .int .u8 0, .int .u8 0, .int .u8 0, .int .u8 0, .int .u8 0, .int .u8 0, .int .u8 0, .int .u8 0, .int .u8 0, .int .u8 0, .int .u8 0, .int .u8 0, .int .u8 0, .int .u8 0, .int .u8 0, .int .u8 0, .int .u8 0, .int .u8 0, .int .u8 0, .int .u8 0, .int .u8 0, .int .u8 0, .int .u8 0], false⟩
def ti255 : TI := ⟨.func, 1, 8, .nilFunc, false⟩
def ti256 : TI := ⟨.ptr 258, 1, 8, .pointer none, false⟩
def ti257 : TI := ⟨.struct [(0, 9)], 1, 16, .agg #[.string ⟨#[]⟩], false⟩
def ti258 : TI := ⟨.struct [(0, 9)], 1, 16, .agg #[.string ⟨#[]⟩], false⟩
def ti259 : TI := ⟨.struct [(0, 17), (1, 17), (2, 17), (3, 9)], 4, 40, .agg #[.pointer none, .pointer none, .pointer none, .string ⟨#[]⟩], false⟩
def ti260 : TI := ⟨.struct [(0, 17), (1, 17), (2, 17), (3, 9)], 4, 40, .agg #[.pointer none, .pointer none, .pointer none, .string ⟨#[]⟩], false⟩
def ti261 : TI := ⟨.array 0 16, 0, 0, .agg #[], false⟩
def ti262 : TI := ⟨.struct [(0, 261)], 0, 0, .agg #[], false⟩
def ti263 : TI := ⟨.struct [(0, 261)], 0, 0, .agg #[], false⟩
def ti264 : TI := ⟨.func, 1, 8, .nilFunc, false⟩
def ti265 : TI := ⟨.func, 1, 8, .nilFunc, false⟩
def ti266 : TI := ⟨.int .u8, 1, 1, .int .u8 0, false⟩
def ti267 : TI := ⟨.func, 1, 8, .nilFunc, false⟩
def ti268 : TI := ⟨.int .i32, 1, 4, .int .i32 0, false⟩
def ti269 : TI := ⟨.int .i32, 1, 4, .int .i32 0, false⟩
def ti270 : TI := ⟨.struct [(0, 12), (1, 12), (2, 227), (3, 266), (4, 5), (5, 5), (6, 111), (7, 267), (8, 101), (9, 268), (10, 269)], 11, 48, .agg #[.int .u64 0, .int .u64 0, .int .u32 0, .int .u8 0, .int .u8 0, .int .u8 0, .int .u8 0, .nilFunc, .pointer none, .int .i32 0, .int .i32 0], false⟩
def ti271 : TI := ⟨.struct [(0, 12), (1, 12), (2, 227), (3, 266), (4, 5), (5, 5), (6, 111), (7, 267), (8, 101), (9, 268), (10, 269)], 11, 48, .agg #[.int .u64 0, .int .u64 0, .int .u32 0, .int .u8 0, .int .u8 0, .int .u8 0, .int .u8 0, .nilFunc, .pointer none, .int .i32 0, .int .i32 0], false⟩
def ti272 : TI := ⟨.func, 1, 8, .nilFunc, false⟩
def ti273 : TI := ⟨.func, 1, 8, .nilFunc, false⟩
def ti274 : TI := ⟨.struct [(0, 9), (1, 111)], 2, 24, .agg #[.string ⟨#[]⟩, .int .u8 0], false⟩
def ti275 : TI := ⟨.struct [(0, 9), (1, 111)], 2, 24, .agg #[.string ⟨#[]⟩, .int .u8 0], false⟩
def ti276 : TI := ⟨.ptr 280, 1, 8, .pointer none, false⟩
def ti277 : TI := ⟨.func, 1, 8, .nilFunc, false⟩
def ti278 : TI := ⟨.int .u16, 1, 2, .int .u16 0, false⟩
def ti279 : TI := ⟨.struct [(0, 268), (1, 278), (2, 278), (3, 227), (4, 227)], 5, 16, .agg #[.int .i32 0, .int .u16 0, .int .u16 0, .int .u32 0, .int .u32 0], false⟩
def ti280 : TI := ⟨.struct [(0, 268), (1, 278), (2, 278), (3, 227), (4, 227)], 5, 16, .agg #[.int .i32 0, .int .u16 0, .int .u16 0, .int .u32 0, .int .u32 0], false⟩
def ti281 : TI := ⟨.slice 284, 1, 24, .slice none 0 0, false⟩
def ti282 : TI := ⟨.int .i32, 1, 4, .int .i32 0, false⟩
def ti283 : TI := ⟨.struct [(0, 268), (1, 269), (2, 282), (3, 282)], 4, 16, .agg #[.int .i32 0, .int .i32 0, .int .i32 0, .int .i32 0], false⟩
def ti284 : TI := ⟨.struct [(0, 268), (1, 269), (2, 282), (3, 282)], 4, 16, .agg #[.int .i32 0, .int .i32 0, .int .i32 0, .int .i32 0], false⟩
def ti285 : TI := ⟨.ptr 29, 1, 8, .pointer none, false⟩
def tiList : List (Option TI) := [none, some ti1, some ti2, some ti3, some ti4, some ti5, some ti6, some ti7, some ti8, some ti9, some ti10, some ti11, some ti12, some ti13, some ti14, some ti15, some ti16, some ti17, some ti18, some ti19, some ti20, some ti21, some ti22, some ti23, some ti24, some ti25, some ti26, some ti27, some ti28, some ti29, none, some ti31, none, some ti33, some ti34, some ti35, some ti36, some ti37, some ti38, some ti39, some ti40, some ti41, some ti42, none, some ti44, none, some ti46, some ti47, some ti48, some ti49, some ti50, some ti51, some ti52, some ti53, some ti54, some ti55, some ti56, some ti57, some ti58, none, some ti60, some ti61, some ti62, some ti63, some ti64, some ti65, some ti66, some ti67, some ti68, some ti69, some ti70, some ti71, some ti72, some ti73, some ti74, some ti75, some ti76, none, some ti78, none, some ti80, some ti81, none, some ti83, some ti84, some ti85, some ti86, none, some ti88, some ti89, some ti90, some ti91, some ti92, some ti93, some ti94, some ti95, none, some ti97, some ti98, some ti99, some ti100, some ti101, some ti102, some ti103, some ti104, some ti105, some ti106, some ti107, some ti108, some ti109, some ti110, some ti111, some ti112, some ti113, some ti114, some ti115, some ti116, none, some ti118, some ti119, some ti120, none, some ti122, some ti123, some ti124, none, some ti126, some ti127, some ti128, none, some ti130, some ti131, some ti132, some ti133, none, some ti135, some ti136, some ti137, none, some ti139, some ti140, some ti141, none, some ti143, none, some ti145, some ti146, none, some ti148, some ti149, some ti150, none, some ti152, none, some ti154, some ti155, some ti156, some ti157, some ti158, some ti159, some ti160, some ti161, some ti162, some ti163, none, some ti165, some ti166, some ti167, some ti168, some ti169, some ti170, some ti171, some ti172, some ti173, none, some ti175, some ti176, none, some ti178, none, some ti180, some ti181, some ti182, some ti183, some ti184, none, some ti186, some ti187, none, some ti189, none, some ti191, some ti192, some ti193, some ti194, some ti195, some ti196, some ti197, some ti198, none, some ti200, some ti201, some ti202, some ti203, some ti204, some ti205, some ti206, some ti207, none, some ti209, some ti210, some ti211, none, some ti213, some ti214, some ti215, some ti216, some ti217, some ti218, some ti219, none, some ti221, some ti222, some ti223, some ti224, some ti225, some ti226, some ti227, none, some ti229, some ti230, some ti231, some ti232, some ti233, none, some ti235, some ti236, some ti237, none, some ti239, some ti240, some ti241, some ti242, some ti243, none, some ti245, some ti246, some ti247, some ti248, some ti249, some ti250, some ti251, some ti252, some ti253, some ti254, some ti255, some ti256, some ti257, some ti258, some ti259, some ti260, some ti261, some ti262, some ti263, some ti264, some ti265, some ti266, some ti267, some ti268, some ti269, some ti270, some ti271, some ti272, some ti273, some ti274, some ti275, some ti276, some ti277, some ti278, some ti279, some ti280, some ti281, some ti282, some ti283, some ti284, some ti285]
def tabS : TypeId → Option TI := listTab tiList
@[simp] theorem tab3 : tabS 3 = some ti3 := rfl
@[simp] theorem tab5 : tabS 5 = some ti5 := rfl
@[simp] theorem tab9 : tabS 9 = some ti9 := rfl
@[simp] theorem tab23 : tabS 23 = some ti23 := rfl
@[simp] theorem tab24 : tabS 24 = some ti24 := rfl
@[simp] theorem tab26 : tabS 26 = some ti26 := rfl
@[simp] theorem tab37 : tabS 37 = some ti37 := rfl
@[simp] theorem tab39 : tabS 39 = some ti39 := rfl
@[simp] theorem tab51 : tabS 51 = some ti51 := rfl
@[simp] theorem tab183 : tabS 183 = some ti183 := rfl
@[simp] theorem ti3_td : ti3.td = .int .i64 := rfl
@[simp] theorem ti9_td : ti9.td = .str := rfl
@[simp] theorem ti23_td : ti23.td = .struct [(0, 9), (1, 9)] := rfl
@[simp] theorem ti24_td : ti24.td = .slice 39 := rfl
@[simp] theorem ti26_td : ti26.td = .struct [(0, 23), (2, 23), (4, 24)] := rfl
@[simp] theorem ti37_td : ti37.td = .slice 51 := rfl
@[simp] theorem ti39_td : ti39.td = .struct [(0, 3), (1, 3), (2, 3), (3, 3), (4, 9), (5, 37)] := rfl
@[simp] theorem ti51_td : ti51.td = .struct [(0, 3), (1, 9)] := rfl
theorem tabOK : okList Tryz.prog 0 tiList = true := by kernel_rfl
def isBS (t : TypeId) : Bool := Nat.beq t 58
structure Base where
  w : World
  K0 : KS
noncomputable def cx (w0 : Base) : Ctx := { P := Tryz.prog, w0 := w0.w, K0 := w0.K0, tab := tabS, glob := fun _ => none, lits := ["quote.go:61", "ref.go:42"], seals := ["law.go:49", "law.go:59"], isB := isBS, u8 := 5 }
theorem cxOK (w0 : Base) : CtxOK (cx w0) := ⟨listTab_ok rfl tabOK, (by kernel_rfl : Tryz.prog.follows .mixedOrders = true), fun t ti hb ht => by
  have e : t = 58 := Nat.eq_of_beq_eq_true hb
  subst e
  have : some ti58 = some ti := ht
  cases this
  rfl⟩
theorem cxG (w0 : Base) : ∀ g a, (cx w0).glob g = some a → AV.under 0 a = true := fun g a h => by cases h
@[reducible] def tB : TypeId := 58
@[reducible] def A8.id : FuncId := 5
@[reducible] def E0.id : FuncId := 8
@[reducible] def F4.id : FuncId := 9
@[reducible] def P9.id : FuncId := 11
@[reducible] def C8.id : FuncId := 12
@[reducible] def J6.id : FuncId := 13
@[reducible] def J2.id : FuncId := 15
@[reducible] def B0.id : FuncId := 16
@[reducible] def B4.id : FuncId := 18
@[reducible] def C7.id : FuncId := 19
@[reducible] def B1.id : FuncId := 21
@[reducible] def C9.id : FuncId := 23
@[reducible] def B2.id : FuncId := 24
@[reducible] def I8.id : FuncId := 25
@[reducible] def errors_As.id : FuncId := 27
@[reducible] def I9.id : FuncId := 28
@[reducible] def C2.id : FuncId := 29
@[reducible] def L8.id : FuncId := 30
@[reducible] def B9.id : FuncId := 31
@[reducible] def P7.id : FuncId := 35
@[reducible] def J7.id : FuncId := 36
@[reducible] def L4.id : FuncId := 37
@[reducible] def E4.id : FuncId := 38
@[reducible] def E9.id : FuncId := 39
@[reducible] def G1.id : FuncId := 40
@[reducible] def A9.id : FuncId := 41
@[reducible] def H8.id : FuncId := 42
@[reducible] def C0.id : FuncId := 48
@[reducible] def F1.id : FuncId := 50
@[reducible] def G9.id : FuncId := 51
@[reducible] def D2.id : FuncId := 52
@[reducible] def S6.id : FuncId := 54
@[reducible] def E5.id : FuncId := 61
@[reducible] def K3.id : FuncId := 62
@[reducible] def P8.id : FuncId := 63
@[reducible] def D4.id : FuncId := 64
@[reducible] def P5.id : FuncId := 65
@[reducible] def G5.id : FuncId := 66
@[reducible] def S7.id : FuncId := 73
@[reducible] def E2.id : FuncId := 74
@[reducible] def N9.id : FuncId := 75
@[reducible] def F8.id : FuncId := 76
@[reducible] def R8.id : FuncId := 77
@[reducible] def B7.id : FuncId := 78
@[reducible] def A6.id : FuncId := 79
@[reducible] def A3.id : FuncId := 80
@[reducible] def D6.id : FuncId := 81
@[reducible] def J3.id : FuncId := 82
@[reducible] def Q9.id : FuncId := 94
@[reducible] def F0.id : FuncId := 95
@[reducible] def J1.id : FuncId := 96
@[reducible] def L9.id : FuncId := 97
@[reducible] def Q5.id : FuncId := 99
@[reducible] def M8.id : FuncId := 101
@[reducible] def O4.id : FuncId := 104
@[reducible] def M4.id : FuncId := 108
@[reducible] def J0.id : FuncId := 109
@[reducible] def D8.id : FuncId := 115
@[reducible] def T9.id : FuncId := 116
@[reducible] def O6.id : FuncId := 117
@[reducible] def E1.id : FuncId := 118
@[reducible] def R7.id : FuncId := 119
@[reducible] def D7.id : FuncId := 120
@[reducible] def I4.id : FuncId := 122
@[reducible] def O7.id : FuncId := 123
@[reducible] def H2.id : FuncId := 124
@[reducible] def C6.id : FuncId := 125
@[reducible] def D5.id : FuncId := 126
@[reducible] def F6.id : FuncId := 127
@[reducible] def G7.id : FuncId := 133
@[reducible] def N2.id : FuncId := 134
@[reducible] def W1.id : FuncId := 135
@[reducible] def R2.id : FuncId := 138
@[reducible] def M6.id : FuncId := 139
@[reducible] def H3.id : FuncId := 143
@[reducible] def D9.id : FuncId := 144
@[reducible] def F7.id : FuncId := 146
@[reducible] def J8.id : FuncId := 147
@[reducible] def H6.id : FuncId := 148
@[reducible] def N5.id : FuncId := 149
@[reducible] def Q4.id : FuncId := 150
@[reducible] def L6.id : FuncId := 161
@[reducible] def L0.id : FuncId := 162
@[reducible] def C3.id : FuncId := 163
@[reducible] def C1.id : FuncId := 164
@[reducible] def strings_trimLeftUnicode.id : FuncId := 165
@[reducible] def strings_trimRightUnicode.id : FuncId := 166
@[reducible] def M9.id : FuncId := 167
end Go.Sv
