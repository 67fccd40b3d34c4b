/- The table of this program's types, as the executor asks it; held against the program by the kernel. Printed by a program of this session. -/
import Derived.Test.YtjonnhjaiiingaaGreatDoorSvQ
import Derived.Test.YtjonnhjaiiingaaGreatDoorProg
import Derived.KernelRfl
set_option linter.unusedVariables false
set_option maxRecDepth 100000
namespace Go.Sv
open Go Go.Proofs
def ti1 : TI := ⟨.func, 1, 8, .nilFunc, false⟩
def ti2 : TI := ⟨.int .i64, 1, 8, .int .i64 0, false⟩
def ti3 : TI := ⟨.int .i64, 1, 8, .int .i64 0, false⟩
def ti4 : TI := ⟨.bool, 1, 1, .bool false, false⟩
def ti5 : TI := ⟨.int .u8, 1, 1, .int .u8 0, false⟩
def ti6 : TI := ⟨.int .u8, 1, 1, .int .u8 0, false⟩
def ti7 : TI := ⟨.struct [(0, 2), (1, 3), (2, 4), (3, 6)], 4, 24, .agg #[.int .i64 0, .int .i64 0, .bool false, .int .u8 0], false⟩
def ti8 : TI := ⟨.struct [(0, 2), (1, 3), (2, 4), (3, 6)], 4, 24, .agg #[.int .i64 0, .int .i64 0, .bool false, .int .u8 0], false⟩
def ti9 : TI := ⟨.str, 1, 16, .string ⟨#[]⟩, false⟩
def ti10 : TI := ⟨.str, 1, 16, .string ⟨#[]⟩, false⟩
def ti11 : TI := ⟨.str, 1, 16, .string ⟨#[]⟩, false⟩
def ti12 : TI := ⟨.int .u64, 1, 8, .int .u64 0, false⟩
def ti13 : TI := ⟨.struct [(0, 9), (1, 12)], 2, 24, .agg #[.string ⟨#[]⟩, .int .u64 0], false⟩
def ti14 : TI := ⟨.struct [(0, 9), (1, 12)], 2, 24, .agg #[.string ⟨#[]⟩, .int .u64 0], false⟩
def ti15 : TI := ⟨.ptr 174, 1, 8, .pointer none, false⟩
def ti16 : TI := ⟨.ptr 177, 1, 8, .pointer none, false⟩
def ti17 : TI := ⟨.ptr 185, 1, 8, .pointer none, false⟩
def ti18 : TI := ⟨.struct [(0, 17)], 1, 8, .agg #[.pointer none], false⟩
def ti19 : TI := ⟨.struct [(0, 17)], 1, 8, .agg #[.pointer none], false⟩
def ti20 : TI := ⟨.iface 0, 1, 16, .nilIface, false⟩
def ti21 : TI := ⟨.int .i32, 1, 4, .int .i32 0, false⟩
def ti22 : TI := ⟨.struct [(0, 9), (1, 9)], 2, 32, .agg #[.string ⟨#[]⟩, .string ⟨#[]⟩], false⟩
def ti23 : TI := ⟨.struct [(0, 9), (1, 9)], 2, 32, .agg #[.string ⟨#[]⟩, .string ⟨#[]⟩], true⟩
def ti24 : TI := ⟨.slice 37, 1, 24, .slice none 0 0, false⟩
def ti25 : TI := ⟨.func, 1, 8, .nilFunc, false⟩
def ti26 : TI := ⟨.iface 1, 1, 16, .nilIface, false⟩
def ti27 : TI := ⟨.iface 1, 1, 16, .nilIface, false⟩
def ti29 : TI := ⟨.func, 1, 8, .nilFunc, false⟩
def ti31 : TI := ⟨.func, 1, 8, .nilFunc, false⟩
def ti32 : TI := ⟨.func, 1, 8, .nilFunc, false⟩
def ti33 : TI := ⟨.func, 1, 8, .nilFunc, false⟩
def ti34 : TI := ⟨.func, 1, 8, .nilFunc, false⟩
def ti35 : TI := ⟨.slice 65, 1, 24, .slice none 0 0, false⟩
def ti36 : TI := ⟨.struct [(0, 3), (1, 3), (2, 3), (3, 3), (4, 9), (5, 35)], 6, 72, .agg #[.int .i64 0, .int .i64 0, .int .i64 0, .int .i64 0, .string ⟨#[]⟩, .slice none 0 0], false⟩
def ti37 : TI := ⟨.struct [(0, 3), (1, 3), (2, 3), (3, 3), (4, 9), (5, 35)], 6, 72, .agg #[.int .i64 0, .int .i64 0, .int .i64 0, .int .i64 0, .string ⟨#[]⟩, .slice none 0 0], false⟩
def ti38 : TI := ⟨.func, 1, 8, .nilFunc, false⟩
def ti39 : TI := ⟨.func, 1, 8, .nilFunc, false⟩
def ti40 : TI := ⟨.func, 1, 8, .nilFunc, false⟩
def ti41 : TI := ⟨.struct [(0, 23), (2, 23), (4, 24), (5, 9)], 6, 104, .agg #[.string ⟨#[]⟩, .string ⟨#[]⟩, .string ⟨#[]⟩, .string ⟨#[]⟩, .slice none 0 0, .string ⟨#[]⟩], false⟩
def ti42 : TI := ⟨.struct [(0, 23), (2, 23), (4, 24), (5, 9)], 6, 104, .agg #[.string ⟨#[]⟩, .string ⟨#[]⟩, .string ⟨#[]⟩, .string ⟨#[]⟩, .slice none 0 0, .string ⟨#[]⟩], false⟩
def ti44 : TI := ⟨.func, 1, 8, .nilFunc, false⟩
def ti45 : TI := ⟨.func, 1, 8, .nilFunc, false⟩
def ti46 : TI := ⟨.slice 9, 1, 24, .slice none 0 0, false⟩
def ti47 : TI := ⟨.func, 1, 8, .nilFunc, false⟩
def ti49 : TI := ⟨.func, 1, 8, .nilFunc, false⟩
def ti50 : TI := ⟨.int .i64, 1, 8, .int .i64 0, false⟩
def ti51 : TI := ⟨.func, 1, 8, .nilFunc, false⟩
def ti52 : TI := ⟨.func, 1, 8, .nilFunc, false⟩
def ti53 : TI := ⟨.ptr 56, 1, 8, .pointer none, false⟩
def ti54 : TI := ⟨.slice 5, 1, 24, .slice none 0 0, false⟩
def ti55 : TI := ⟨.struct [(0, 53), (1, 54)], 2, 32, .agg #[.pointer none, .slice none 0 0], false⟩
def ti56 : TI := ⟨.struct [(0, 53), (1, 54)], 2, 32, .agg #[.pointer none, .slice none 0 0], false⟩
def ti58 : TI := ⟨.func, 1, 8, .nilFunc, false⟩
def ti59 : TI := ⟨.func, 1, 8, .nilFunc, false⟩
def ti60 : TI := ⟨.func, 1, 8, .nilFunc, false⟩
def ti61 : TI := ⟨.func, 1, 8, .nilFunc, false⟩
def ti62 : TI := ⟨.func, 1, 8, .nilFunc, false⟩
def ti63 : TI := ⟨.ptr 50, 1, 8, .pointer none, false⟩
def ti64 : TI := ⟨.struct [(0, 3), (1, 9)], 2, 24, .agg #[.int .i64 0, .string ⟨#[]⟩], false⟩
def ti65 : TI := ⟨.struct [(0, 3), (1, 9)], 2, 24, .agg #[.int .i64 0, .string ⟨#[]⟩], true⟩
def ti66 : TI := ⟨.func, 1, 8, .nilFunc, false⟩
def ti67 : TI := ⟨.func, 1, 8, .nilFunc, false⟩
def ti68 : TI := ⟨.func, 1, 8, .nilFunc, false⟩
def ti69 : TI := ⟨.func, 1, 8, .nilFunc, false⟩
def ti70 : TI := ⟨.ptr 73, 1, 8, .pointer none, false⟩
def ti71 : TI := ⟨.func, 1, 8, .nilFunc, false⟩
def ti72 : TI := ⟨.struct [(0, 46), (1, 3)], 2, 32, .agg #[.slice none 0 0, .int .i64 0], false⟩
def ti73 : TI := ⟨.struct [(0, 46), (1, 3)], 2, 32, .agg #[.slice none 0 0, .int .i64 0], false⟩
def ti74 : TI := ⟨.ptr 78, 1, 8, .pointer none, false⟩
def ti76 : TI := ⟨.func, 1, 8, .nilFunc, false⟩
def ti77 : TI := ⟨.struct [(0, 50), (1, 3)], 2, 16, .agg #[.int .i64 0, .int .i64 0], false⟩
def ti78 : TI := ⟨.struct [(0, 50), (1, 3)], 2, 16, .agg #[.int .i64 0, .int .i64 0], true⟩
def ti79 : TI := ⟨.struct [(0, 3), (1, 4)], 2, 16, .agg #[.int .i64 0, .bool false], false⟩
def ti80 : TI := ⟨.struct [(0, 3), (1, 4)], 2, 16, .agg #[.int .i64 0, .bool false], true⟩
def ti82 : TI := ⟨.func, 1, 8, .nilFunc, false⟩
def ti83 : TI := ⟨.func, 1, 8, .nilFunc, false⟩
def ti84 : TI := ⟨.func, 1, 8, .nilFunc, false⟩
def ti85 : TI := ⟨.ptr 5, 1, 8, .pointer none, false⟩
def ti86 : TI := ⟨.func, 1, 8, .nilFunc, false⟩
def ti87 : TI := ⟨.unsafeptr, 1, 8, .pointer none, false⟩
def ti88 : TI := ⟨.int .u64, 1, 8, .int .u64 0, false⟩
def ti89 : TI := ⟨.struct [(0, 17), (1, 87), (2, 88)], 3, 24, .agg #[.pointer none, .pointer none, .int .u64 0], false⟩
def ti90 : TI := ⟨.struct [(0, 17), (1, 87), (2, 88)], 3, 24, .agg #[.pointer none, .pointer none, .int .u64 0], false⟩
def ti91 : TI := ⟨.func, 1, 8, .nilFunc, false⟩
def ti92 : TI := ⟨.iface 11, 1, 16, .nilIface, false⟩
def ti93 : TI := ⟨.iface 11, 1, 16, .nilIface, false⟩
def ti94 : TI := ⟨.func, 1, 8, .nilFunc, false⟩
def ti95 : TI := ⟨.int .u8, 1, 1, .int .u8 0, false⟩
def ti96 : TI := ⟨.func, 1, 8, .nilFunc, false⟩
def ti97 : TI := ⟨.func, 1, 8, .nilFunc, false⟩
def ti98 : TI := ⟨.func, 1, 8, .nilFunc, false⟩
def ti99 : TI := ⟨.func, 1, 8, .nilFunc, false⟩
def ti101 : TI := ⟨.func, 1, 8, .nilFunc, false⟩
def ti102 : TI := ⟨.func, 1, 8, .nilFunc, false⟩
def ti103 : TI := ⟨.func, 1, 8, .nilFunc, false⟩
def ti105 : TI := ⟨.func, 1, 8, .nilFunc, false⟩
def ti107 : TI := ⟨.func, 1, 8, .nilFunc, false⟩
def ti108 : TI := ⟨.func, 1, 8, .nilFunc, false⟩
def ti109 : TI := ⟨.func, 1, 8, .nilFunc, false⟩
def ti111 : TI := ⟨.func, 1, 8, .nilFunc, false⟩
def ti112 : TI := ⟨.func, 1, 8, .nilFunc, false⟩
def ti113 : TI := ⟨.int .u64, 1, 8, .int .u64 0, false⟩
def ti114 : TI := ⟨.func, 1, 8, .nilFunc, false⟩
def ti115 : TI := ⟨.func, 1, 8, .nilFunc, false⟩
def ti116 : TI := ⟨.struct [(0, 17)], 1, 8, .agg #[.pointer none], false⟩
def ti117 : TI := ⟨.struct [(0, 17)], 1, 8, .agg #[.pointer none], false⟩
def ti118 : TI := ⟨.ptr 189, 1, 8, .pointer none, false⟩
def ti119 : TI := ⟨.func, 1, 8, .nilFunc, false⟩
def ti120 : TI := ⟨.func, 1, 8, .nilFunc, false⟩
def ti121 : TI := ⟨.func, 1, 8, .nilFunc, false⟩
def ti122 : TI := ⟨.iface 1, 1, 16, .nilIface, false⟩
def ti124 : TI := ⟨.func, 1, 8, .nilFunc, false⟩
def ti125 : TI := ⟨.iface 1, 1, 16, .nilIface, false⟩
def ti126 : TI := ⟨.func, 1, 8, .nilFunc, false⟩
def ti127 : TI := ⟨.iface 1, 1, 16, .nilIface, false⟩
def ti128 : TI := ⟨.slice 27, 1, 24, .slice none 0 0, false⟩
def ti129 : TI := ⟨.func, 1, 8, .nilFunc, false⟩
def ti130 : TI := ⟨.func, 1, 8, .nilFunc, false⟩
def ti132 : TI := ⟨.func, 1, 8, .nilFunc, false⟩
def ti133 : TI := ⟨.func, 1, 8, .nilFunc, false⟩
def ti135 : TI := ⟨.func, 1, 8, .nilFunc, false⟩
def ti136 : TI := ⟨.func, 1, 8, .nilFunc, false⟩
def ti137 : TI := ⟨.ptr 37, 1, 8, .pointer none, false⟩
def ti138 : TI := ⟨.func, 1, 8, .nilFunc, false⟩
def ti139 : TI := ⟨.func, 1, 8, .nilFunc, false⟩
def ti140 : TI := ⟨.array 256 4, 256, 256, .agg #[.bool false, .bool false, .bool false, .bool false, .bool false, .bool false, .bool false, .bool false, .bool false, .bool false, .bool false, .bool false, .bool false, .bool false, .bool false, .bool false, .bool false, .bool false, .bool false, .bool false, .bool false, .bool false, .bool false, .bool false, .bool false, .bool false, .bool false, .bool false, .bool false, .bool false, .bool false, .bool false, .bool false, .bool false, .bool false, .bool false, .bool false, .bool false, .bool false, .bool false, .bool false, .bool false, .bool false, .bool false, .bool false, .bool false, .bool false, .bool false, .bool false, .bool false, .bool false, .bool false, .bool false, .bool false, .bool false, .bool false, .bool false, .bool false, .bool false, .bool false, .bool false, .bool false, .bool false, .bool false, .bool false, .bool false, .bool false, .bool false, .bool false, .bool false, .bool false, .bool false, .bool false, .bool false, .bool false, .bool false, .bool false, .bool false, .bool false, .bool false, .bool false, .bool false, .bool false, .bool false, .bool false, .bool false, .bool false, .bool false, .bool false, .bool false, .bool false, .bool false, .bool false, .bool false, .bool false, .bool false, .bool false, .bool false, .bool false, .bool false, .bool false, .bool false, .bool false, .bool false, .bool false, .bool false, .bool false, .bool false, .bool false, .bool false, .bool false, .bool false, .bool false, .bool false, .bool false, .bool false, .bool false, .bool false, .bool false, .bool false, .bool false, .bool false, .bool false, .bool false, .bool false, .bool false, .bool false, .bool false, .bool false, .bool false, .bool false, .bool false, .bool false, .bool false, .bool false, .bool false, .bool false, .bool false, .bool false, .bool false, .bool false, .bool false, .bool false, .bool false, .bool false, .bool false, .bool false, .bool false, .bool false, .bool false, .bool false, .bool false, .bool false, .bool false, .bool false, .bool false, .bool false, .bool false, .bool false, .bool false, .bool false, .bool false, .bool false, .bool false, .bool false, .bool false, .bool false, .bool false, .bool false, .bool false, .bool false, .bool false, .bool false, .bool false, .bool false, .bool false, .bool false, .bool false, .bool false, .bool false, .bool false, .bool false, .bool false, .bool false, .bool false, .bool false, .bool false, .bool false, .bool false, .bool false, .bool false, .bool false, .bool false, .bool false, .bool false, .bool false, .bool false, .bool false, .bool false, .bool false, .bool false, .bool false, .bool false, .bool false, .bool false, .bool false, .bool false, .bool false, .bool false, .bool false, .bool false, .bool false, .bool false, .bool false, .bool false, .bool false, .bool false, .bool false, .bool false, .bool false, .bool false, .bool false, .bool false, .bool false, .bool false, .bool false, .bool false, .bool false, .bool false, .bool false, .bool false, .bool false, .bool false, .bool false, .bool false, .bool false, .bool false, .bool false, .bool false, .bool false, .bool false, .bool false, .bool false, .bool false, .bool false, .bool false, .bool false, .bool false, .bool false, .bool false, .bool false, .bool false, .bool false, .bool false, .bool false, .bool false], false⟩
def ti141 : TI := ⟨.array 256 4, 256, 256, .agg #[.bool false, .bool false, .bool false, .bool false, .bool false, .bool false, .bool false, .bool false, .bool false, .bool false, .bool false, .bool false, .bool false, .bool false, .bool false, .bool false, .bool false, .bool false, .bool false, .bool false, .bool false, .bool false, .bool false, .bool false, .bool false, .bool false, .bool false, .bool false, .bool false, .bool false, .bool false, .bool false, .bool false, .bool false, .bool false, .bool false, .bool false, .bool false, .bool false, .bool false, .bool false, .bool false, .bool false, .bool false, .bool false, .bool false, .bool false, .bool false, .bool false, .bool false, .bool false, .bool false, .bool false, .bool false, .bool false, .bool false, .bool false, .bool false, .bool false, .bool false, .bool false, .bool false, .bool false, .bool false, .bool false, .bool false, .bool false, .bool false, .bool false, .bool false, .bool false, .bool false, .bool false, .bool false, .bool false, .bool false, .bool false, .bool false, .bool false, .bool false, .bool false, .bool false, .bool false, .bool false, .bool false, .bool false, .bool false, .bool false, .bool false, .bool false, .bool false, .bool false, .bool false, .bool false, .bool false, .bool false, .bool false, .bool false, .bool false, .bool false, .bool false, .bool false, .bool false, .bool false, .bool false, .bool false, .bool false, .bool false, .bool false, .bool false, .bool false, .bool false, .bool false, .bool false, .bool false, .bool false, .bool false, .bool false, .bool false, .bool false, .bool false, .bool false, .bool false, .bool false, .bool false, .bool false, .bool false, .bool false, .bool false, .bool false, .bool false, .bool false, .bool false, .bool false, .bool false, .bool false, .bool false, .bool false, .bool false, .bool false, .bool false, .bool false, .bool false, .bool false, .bool false, .bool false, .bool false, .bool false, .bool false, .bool false, .bool false, .bool false, .bool false, .bool false, .bool false, .bool false, .bool false, .bool false, .bool false, .bool false, .bool false, .bool false, .bool false, .bool false, .bool false, .bool false, .bool false, .bool false, .bool false, .bool false, .bool false, .bool false, .bool false, .bool false, .bool false, .bool false, .bool false, .bool false, .bool false, .bool false, .bool false, .bool false, .bool false, .bool false, .bool false, .bool false, .bool false, .bool false, .bool false, .bool false, .bool false, .bool false, .bool false, .bool false, .bool false, .bool false, .bool false, .bool false, .bool false, .bool false, .bool false, .bool false, .bool false, .bool false, .bool false, .bool false, .bool false, .bool false, .bool false, .bool false, .bool false, .bool false, .bool false, .bool false, .bool false, .bool false, .bool false, .bool false, .bool false, .bool false, .bool false, .bool false, .bool false, .bool false, .bool false, .bool false, .bool false, .bool false, .bool false, .bool false, .bool false, .bool false, .bool false, .bool false, .bool false, .bool false, .bool false, .bool false, .bool false, .bool false, .bool false, .bool false, .bool false, .bool false, .bool false, .bool false, .bool false, .bool false, .bool false, .bool false, .bool false, .bool false, .bool false, .bool false, .bool false, .bool false], false⟩
def ti143 : TI := ⟨.func, 1, 8, .nilFunc, false⟩
def ti144 : TI := ⟨.func, 1, 8, .nilFunc, false⟩
def ti145 : TI := ⟨.ptr 80, 1, 8, .pointer none, false⟩
def ti146 : TI := ⟨.func, 1, 8, .nilFunc, false⟩
def ti147 : TI := ⟨.func, 1, 8, .nilFunc, false⟩
def ti148 : TI := ⟨.func, 1, 8, .nilFunc, false⟩
def ti150 : TI := ⟨.func, 1, 8, .nilFunc, false⟩
def ti151 : TI := ⟨.ptr 65, 1, 8, .pointer none, false⟩
def ti152 : TI := ⟨.func, 1, 8, .nilFunc, false⟩
def ti153 : TI := ⟨.func, 1, 8, .nilFunc, false⟩
def ti154 : TI := ⟨.ptr 141, 1, 8, .pointer none, false⟩
def ti155 : TI := ⟨.array 24 5, 24, 24, .agg #[.int .u8 0, .int .u8 0, .int .u8 0, .int .u8 0, .int .u8 0, .int .u8 0, .int .u8 0, .int .u8 0, .int .u8 0, .int .u8 0, .int .u8 0, .int .u8 0, .int .u8 0, .int .u8 0, .int .u8 0, .int .u8 0, .int .u8 0, .int .u8 0, .int .u8 0, .int .u8 0, .int .u8 0, .int .u8 0, .int .u8 0, .int .u8 0], false⟩
def ti156 : TI := ⟨.int .u64, 1, 8, .int .u64 0, false⟩
def ti157 : TI := ⟨.func, 1, 8, .nilFunc, false⟩
def ti158 : TI := ⟨.func, 1, 8, .nilFunc, false⟩
def ti160 : TI := ⟨.func, 1, 8, .nilFunc, false⟩
def ti162 : TI := ⟨.func, 1, 8, .nilFunc, false⟩
def ti163 : TI := ⟨.int .u32, 1, 4, .int .u32 0, false⟩
def ti165 : TI := ⟨.func, 1, 8, .nilFunc, false⟩
def ti166 : TI := ⟨.func, 1, 8, .nilFunc, false⟩
def ti167 : TI := ⟨.array 20 156, 20, 160, .agg #[.int .u64 0, .int .u64 0, .int .u64 0, .int .u64 0, .int .u64 0, .int .u64 0, .int .u64 0, .int .u64 0, .int .u64 0, .int .u64 0, .int .u64 0, .int .u64 0, .int .u64 0, .int .u64 0, .int .u64 0, .int .u64 0, .int .u64 0, .int .u64 0, .int .u64 0, .int .u64 0], false⟩
def ti168 : TI := ⟨.array 65 5, 65, 65, .agg #[.int .u8 0, .int .u8 0, .int .u8 0, .int .u8 0, .int .u8 0, .int .u8 0, .int .u8 0, .int .u8 0, .int .u8 0, .int .u8 0, .int .u8 0, .int .u8 0, .int .u8 0, .int .u8 0, .int .u8 0, .int .u8 0, .int .u8 0, .int .u8 0, .int .u8 0, .int .u8 0, .int .u8 0, .int .u8 0, .int .u8 0, .int .u8 0, .int .u8 0, .int .u8 0, .int .u8 0, .int .u8 0, .int .u8 0, .int .u8 0, .int .u8 0, .int .u8 0, .int .u8 0, .int .u8 0, .int .u8 0, .int .u8 0, .int .u8 0, .int .u8 0, .int .u8 0, .int .u8 0, .int .u8 0, .int .u8 0, .int .u8 0, .int .u8 0, .int .u8 0, .int .u8 0, .int .u8 0, .int .u8 0, .int .u8 0, .int .u8 0, .int .u8 0, .int .u8 0, .int .u8 0, .int .u8 0, .int .u8 0, .int .u8 0, .int .u8 0, .int .u8 0, .int .u8 0, .int .u8 0, .int .u8 0, .int .u8 0, .int .u8 0, .int .u8 0, .int .u8 0], false⟩
def ti169 : TI := ⟨.func, 1, 8, .nilFunc, false⟩
def ti170 : TI := ⟨.func, 1, 8, .nilFunc, false⟩
def ti171 : TI := ⟨.array 32 5, 32, 32, .agg #[.int .u8 0, .int .u8 0, .int .u8 0, .int .u8 0, .int .u8 0, .int .u8 0, .int .u8 0, .int .u8 0, .int .u8 0, .int .u8 0, .int .u8 0, .int .u8 0, .int .u8 0, .int .u8 0, .int .u8 0, .int .u8 0, .int .u8 0, .int .u8 0, .int .u8 0, .int .u8 0, .int .u8 0, .int .u8 0, .int .u8 0, .int .u8 0, .int .u8 0, .int .u8 0, .int .u8 0, .int .u8 0, .int .u8 0, .int .u8 0, .int .u8 0, .int .u8 0], false⟩
def ti172 : TI := ⟨.array 64 5, 64, 64, .agg #[.int .u8 0, .int .u8 0, .int .u8 0, .int .u8 0, .int .u8 0, .int .u8 0, .int .u8 0, .int .u8 0, .int .u8 0, .int .u8 0, .int .u8 0, .int .u8 0, .int .u8 0, .int .u8 0, .int .u8 0, .int .u8 0, .int .u8 0, .int .u8 0, .int .u8 0, .int .u8 0, .int .u8 0, .int .u8 0, .int .u8 0, .int .u8 0, .int .u8 0, .int .u8 0, .int .u8 0, .int .u8 0, .int .u8 0, .int .u8 0, .int .u8 0, .int .u8 0, .int .u8 0, .int .u8 0, .int .u8 0, .int .u8 0, .int .u8 0, .int .u8 0, .int .u8 0, .int .u8 0, .int .u8 0, .int .u8 0, .int .u8 0, .int .u8 0, .int .u8 0, .int .u8 0, .int .u8 0, .int .u8 0, .int .u8 0, .int .u8 0, .int .u8 0, .int .u8 0, .int .u8 0, .int .u8 0, .int .u8 0, .int .u8 0, .int .u8 0, .int .u8 0, .int .u8 0, .int .u8 0, .int .u8 0, .int .u8 0, .int .u8 0, .int .u8 0], false⟩
def ti173 : TI := ⟨.struct [(0, 17), (1, 17), (2, 17), (3, 9)], 4, 40, .agg #[.pointer none, .pointer none, .pointer none, .string ⟨#[]⟩], false⟩
def ti174 : TI := ⟨.struct [(0, 17), (1, 17), (2, 17), (3, 9)], 4, 40, .agg #[.pointer none, .pointer none, .pointer none, .string ⟨#[]⟩], false⟩
def ti175 : TI := ⟨.array 0 16, 0, 0, .agg #[], false⟩
def ti176 : TI := ⟨.struct [(0, 175)], 0, 0, .agg #[], false⟩
def ti177 : TI := ⟨.struct [(0, 175)], 0, 0, .agg #[], false⟩
def ti178 : TI := ⟨.func, 1, 8, .nilFunc, false⟩
def ti179 : TI := ⟨.func, 1, 8, .nilFunc, false⟩
def ti180 : TI := ⟨.int .u8, 1, 1, .int .u8 0, false⟩
def ti181 : TI := ⟨.func, 1, 8, .nilFunc, false⟩
def ti182 : TI := ⟨.int .i32, 1, 4, .int .i32 0, false⟩
def ti183 : TI := ⟨.int .i32, 1, 4, .int .i32 0, false⟩
def ti184 : TI := ⟨.struct [(0, 12), (1, 12), (2, 163), (3, 180), (4, 5), (5, 5), (6, 95), (7, 181), (8, 85), (9, 182), (10, 183)], 11, 48, .agg #[.int .u64 0, .int .u64 0, .int .u32 0, .int .u8 0, .int .u8 0, .int .u8 0, .int .u8 0, .nilFunc, .pointer none, .int .i32 0, .int .i32 0], false⟩
def ti185 : TI := ⟨.struct [(0, 12), (1, 12), (2, 163), (3, 180), (4, 5), (5, 5), (6, 95), (7, 181), (8, 85), (9, 182), (10, 183)], 11, 48, .agg #[.int .u64 0, .int .u64 0, .int .u32 0, .int .u8 0, .int .u8 0, .int .u8 0, .int .u8 0, .nilFunc, .pointer none, .int .i32 0, .int .i32 0], false⟩
def ti186 : TI := ⟨.func, 1, 8, .nilFunc, false⟩
def ti187 : TI := ⟨.func, 1, 8, .nilFunc, false⟩
def ti188 : TI := ⟨.struct [(0, 9), (1, 95)], 2, 24, .agg #[.string ⟨#[]⟩, .int .u8 0], false⟩
def ti189 : TI := ⟨.struct [(0, 9), (1, 95)], 2, 24, .agg #[.string ⟨#[]⟩, .int .u8 0], false⟩
def ti190 : TI := ⟨.ptr 194, 1, 8, .pointer none, false⟩
def ti191 : TI := ⟨.func, 1, 8, .nilFunc, false⟩
def ti192 : TI := ⟨.int .u16, 1, 2, .int .u16 0, false⟩
def ti193 : TI := ⟨.struct [(0, 182), (1, 192), (2, 192), (3, 163), (4, 163)], 5, 16, .agg #[.int .i32 0, .int .u16 0, .int .u16 0, .int .u32 0, .int .u32 0], false⟩
def ti194 : TI := ⟨.struct [(0, 182), (1, 192), (2, 192), (3, 163), (4, 163)], 5, 16, .agg #[.int .i32 0, .int .u16 0, .int .u16 0, .int .u32 0, .int .u32 0], false⟩
def ti195 : TI := ⟨.slice 198, 1, 24, .slice none 0 0, false⟩
def ti196 : TI := ⟨.int .i32, 1, 4, .int .i32 0, false⟩
def ti197 : TI := ⟨.struct [(0, 182), (1, 183), (2, 196), (3, 196)], 4, 16, .agg #[.int .i32 0, .int .i32 0, .int .i32 0, .int .i32 0], false⟩
def ti198 : TI := ⟨.struct [(0, 182), (1, 183), (2, 196), (3, 196)], 4, 16, .agg #[.int .i32 0, .int .i32 0, .int .i32 0, .int .i32 0], false⟩
def ti199 : TI := ⟨.ptr 27, 1, 8, .pointer none, false⟩
def tiList : List (Option TI) := [none, some ti1, some ti2, some ti3, some ti4, some ti5, some ti6, some ti7, some ti8, some ti9, some ti10, some ti11, some ti12, some ti13, some ti14, some ti15, some ti16, some ti17, some ti18, some ti19, some ti20, some ti21, some ti22, some ti23, some ti24, some ti25, some ti26, some ti27, none, some ti29, none, some ti31, some ti32, some ti33, some ti34, some ti35, some ti36, some ti37, some ti38, some ti39, some ti40, some ti41, some ti42, none, some ti44, some ti45, some ti46, some ti47, none, some ti49, some ti50, some ti51, some ti52, some ti53, some ti54, some ti55, some ti56, none, some ti58, some ti59, some ti60, some ti61, some ti62, some ti63, some ti64, some ti65, some ti66, some ti67, some ti68, some ti69, some ti70, some ti71, some ti72, some ti73, some ti74, none, some ti76, some ti77, some ti78, some ti79, some ti80, none, some ti82, some ti83, some ti84, some ti85, some ti86, some ti87, some ti88, some ti89, some ti90, some ti91, some ti92, some ti93, some ti94, some ti95, some ti96, some ti97, some ti98, some ti99, none, some ti101, some ti102, some ti103, none, some ti105, none, some ti107, some ti108, some ti109, none, some ti111, some ti112, some ti113, some ti114, some ti115, some ti116, some ti117, some ti118, some ti119, some ti120, some ti121, some ti122, none, some ti124, some ti125, some ti126, some ti127, some ti128, some ti129, some ti130, none, some ti132, some ti133, none, some ti135, some ti136, some ti137, some ti138, some ti139, some ti140, some ti141, none, some ti143, some ti144, some ti145, some ti146, some ti147, some ti148, none, some ti150, some ti151, some ti152, some ti153, some ti154, some ti155, some ti156, some ti157, some ti158, none, some ti160, none, some ti162, some ti163, none, some ti165, some ti166, some ti167, some ti168, some ti169, some ti170, some ti171, some ti172, some ti173, some ti174, some ti175, some ti176, some ti177, some ti178, some ti179, some ti180, some ti181, some ti182, some ti183, some ti184, some ti185, some ti186, some ti187, some ti188, some ti189, some ti190, some ti191, some ti192, some ti193, some ti194, some ti195, some ti196, some ti197, some ti198, some ti199]
def tabS : TypeId → Option TI := listTab tiList
@[simp] theorem tab3 : tabS 3 = some ti3 := rfl
@[simp] theorem tab9 : tabS 9 = some ti9 := rfl
@[simp] theorem tab23 : tabS 23 = some ti23 := rfl
@[simp] theorem tab24 : tabS 24 = some ti24 := rfl
@[simp] theorem tab35 : tabS 35 = some ti35 := rfl
@[simp] theorem tab37 : tabS 37 = some ti37 := rfl
@[simp] theorem tab42 : tabS 42 = some ti42 := rfl
@[simp] theorem tab65 : tabS 65 = some ti65 := rfl
@[simp] theorem ti3_td : ti3.td = .int .i64 := rfl
@[simp] theorem ti9_td : ti9.td = .str := rfl
@[simp] theorem ti23_td : ti23.td = .struct [(0, 9), (1, 9)] := rfl
@[simp] theorem ti24_td : ti24.td = .slice 37 := rfl
@[simp] theorem ti35_td : ti35.td = .slice 65 := rfl
@[simp] theorem ti37_td : ti37.td = .struct [(0, 3), (1, 3), (2, 3), (3, 3), (4, 9), (5, 35)] := rfl
@[simp] theorem ti42_td : ti42.td = .struct [(0, 23), (2, 23), (4, 24), (5, 9)] := rfl
@[simp] theorem ti65_td : ti65.td = .struct [(0, 3), (1, 9)] := rfl
theorem tabOK : okList Tryz.prog 0 tiList = true := by kernel_rfl
def isBS (t : TypeId) : Bool := Nat.beq t 56
structure Base where
  w : World
  K0 : KS
noncomputable def cx (w0 : Base) : Ctx := { P := Tryz.prog, w0 := w0.w, K0 := w0.K0, tab := tabS, glob := fun _ => none, lits := ["quote.go:61", "ref.go:42"], seals := ["law.go:49"], isB := isBS, u8 := 5 }
theorem cxOK (w0 : Base) : CtxOK (cx w0) := ⟨listTab_ok rfl tabOK, (by kernel_rfl : Tryz.prog.follows .mixedOrders = true), fun t ti hb ht => by
  have e : t = 56 := Nat.eq_of_beq_eq_true hb
  subst e
  have : some ti56 = some ti := ht
  cases this
  rfl⟩
theorem cxG (w0 : Base) : ∀ g a, (cx w0).glob g = some a → AV.under 0 a = true := fun g a h => by cases h
@[reducible] def tB : TypeId := 56
@[reducible] def selvagelaw11_UnifiedBack.id : FuncId := 4
@[reducible] def unified_Print.id : FuncId := 7
@[reducible] def selvagelaw11_num.id : FuncId := 9
@[reducible] def selvagelaw11_sameHunks.id : FuncId := 10
@[reducible] def unified_Hunk.id : FuncId := 11
@[reducible] def selvagelaw11_sure.id : FuncId := 13
@[reducible] def unified_Parse.id : FuncId := 14
@[reducible] def unified_header.id : FuncId := 15
@[reducible] def hunks_Valid.id : FuncId := 16
@[reducible] def unified_follows.id : FuncId := 17
@[reducible] def strings_Builder_WriteString.id : FuncId := 18
@[reducible] def strings_Builder_String.id : FuncId := 19
@[reducible] def errors_As.id : FuncId := 22
@[reducible] def unified_span.id : FuncId := 23
@[reducible] def lines_Whole.id : FuncId := 24
@[reducible] def lines_Split.id : FuncId := 28
@[reducible] def unified_reader_read.id : FuncId := 29
@[reducible] def strings_Contains.id : FuncId := 30
@[reducible] def strings_ContainsAny.id : FuncId := 31
@[reducible] def quote_Quote.id : FuncId := 32
@[reducible] def hunks_sides.id : FuncId := 33
@[reducible] def hunks_place.id : FuncId := 34
@[reducible] def unified_place.id : FuncId := 35
@[reducible] def strconv_Itoa.id : FuncId := 44
@[reducible] def strings_HasSuffix.id : FuncId := 45
@[reducible] def selvageref01_Whole.id : FuncId := 50
@[reducible] def strings_IndexByte.id : FuncId := 51
@[reducible] def unified_reader_name.id : FuncId := 52
@[reducible] def strings_HasPrefix.id : FuncId := 53
@[reducible] def unified_reader_hunk.id : FuncId := 54
@[reducible] def strings_IndexAny.id : FuncId := 56
@[reducible] def quote_Needs.id : FuncId := 57
@[reducible] def strings_Builder_WriteByte.id : FuncId := 58
@[reducible] def quote_letter.id : FuncId := 59
@[reducible] def strings_Builder_Write.id : FuncId := 60
@[reducible] def hunks_line.id : FuncId := 61
@[reducible] def hunks_side_add.id : FuncId := 62
@[reducible] def selvageref02_escape.id : FuncId := 67
@[reducible] def selvageref10_old.id : FuncId := 73
@[reducible] def selvageref10_fresh.id : FuncId := 74
@[reducible] def selvageref10_line.id : FuncId := 75
@[reducible] def quote_Unquote.id : FuncId := 77
@[reducible] def lines_Bare.id : FuncId := 78
@[reducible] def strings_TrimPrefix.id : FuncId := 79
@[reducible] def stringslite_HasPrefix.id : FuncId := 80
@[reducible] def unified_first.id : FuncId := 81
@[reducible] def unified_reader_rows.id : FuncId := 82
@[reducible] def quote_meant.id : FuncId := 90
@[reducible] def quote_octal.id : FuncId := 91
@[reducible] def strings_TrimSuffix.id : FuncId := 92
@[reducible] def strings_CutPrefix.id : FuncId := 94
@[reducible] def unified_ranged.id : FuncId := 95
@[reducible] def stringslite_CutPrefix.id : FuncId := 105
@[reducible] def unified_number.id : FuncId := 106
end Go.Sv
