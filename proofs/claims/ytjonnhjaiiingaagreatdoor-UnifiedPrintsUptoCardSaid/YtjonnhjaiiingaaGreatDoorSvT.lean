/- The table of this program's types, as the executor asks it; held against the program by the kernel. Printed by a program of this session. -/
import Derived.Test.YtjonnhjaiiingaaGreatDoorSvQ
import Derived.Test.YtjonnhjaiiingaaGreatDoorProg
import Derived.KernelRfl
set_option linter.unusedVariables false
set_option maxRecDepth 100000
namespace Go.Sv
open Go Go.Proofs

def ti1 : TI := ⟨.func, 1, 8, .nilFunc, false⟩
def ti2 : TI := ⟨.int .i64, 1, 8, .int .i64 0, false⟩
def ti3 : TI := ⟨.int .i64, 1, 8, .int .i64 0, false⟩
def ti4 : TI := ⟨.bool, 1, 1, .bool false, false⟩
def ti5 : TI := ⟨.int .u8, 1, 1, .int .u8 0, false⟩
def ti6 : TI := ⟨.int .u8, 1, 1, .int .u8 0, false⟩
def ti7 : TI := ⟨.struct [(0, 2), (1, 3), (2, 4), (3, 6)], 4, 24, .agg #[.int .i64 0, .int .i64 0, .bool false, .int .u8 0], false⟩
def ti8 : TI := ⟨.struct [(0, 2), (1, 3), (2, 4), (3, 6)], 4, 24, .agg #[.int .i64 0, .int .i64 0, .bool false, .int .u8 0], false⟩
def ti9 : TI := ⟨.str, 1, 16, .string ⟨#[]⟩, false⟩
def ti10 : TI := ⟨.str, 1, 16, .string ⟨#[]⟩, false⟩
def ti11 : TI := ⟨.str, 1, 16, .string ⟨#[]⟩, false⟩
def ti12 : TI := ⟨.int .u64, 1, 8, .int .u64 0, false⟩
def ti13 : TI := ⟨.struct [(0, 9), (1, 12)], 2, 24, .agg #[.string ⟨#[]⟩, .int .u64 0], false⟩
def ti14 : TI := ⟨.struct [(0, 9), (1, 12)], 2, 24, .agg #[.string ⟨#[]⟩, .int .u64 0], false⟩
def ti15 : TI := ⟨.ptr 174, 1, 8, .pointer none, false⟩
def ti16 : TI := ⟨.ptr 177, 1, 8, .pointer none, false⟩
def ti17 : TI := ⟨.ptr 185, 1, 8, .pointer none, false⟩
def ti18 : TI := ⟨.struct [(0, 17)], 1, 8, .agg #[.pointer none], false⟩
def ti19 : TI := ⟨.struct [(0, 17)], 1, 8, .agg #[.pointer none], false⟩
def ti20 : TI := ⟨.iface 0, 1, 16, .nilIface, false⟩
def ti21 : TI := ⟨.int .i32, 1, 4, .int .i32 0, false⟩
def ti22 : TI := ⟨.struct [(0, 9), (1, 9)], 2, 32, .agg #[.string ⟨#[]⟩, .string ⟨#[]⟩], false⟩
def ti23 : TI := ⟨.struct [(0, 9), (1, 9)], 2, 32, .agg #[.string ⟨#[]⟩, .string ⟨#[]⟩], true⟩
def ti24 : TI := ⟨.slice 37, 1, 24, .slice none 0 0, false⟩
def ti25 : TI := ⟨.func, 1, 8, .nilFunc, false⟩
def ti26 : TI := ⟨.iface 1, 1, 16, .nilIface, false⟩
def ti27 : TI := ⟨.iface 1, 1, 16, .nilIface, false⟩
def ti29 : TI := ⟨.func, 1, 8, .nilFunc, false⟩
def ti31 : TI := ⟨.func, 1, 8, .nilFunc, false⟩
def ti32 : TI := ⟨.func, 1, 8, .nilFunc, false⟩
def ti33 : TI := ⟨.func, 1, 8, .nilFunc, false⟩
def ti34 : TI := ⟨.func, 1, 8, .nilFunc, false⟩
def ti35 : TI := ⟨.slice 65, 1, 24, .slice none 0 0, false⟩
def ti36 : TI := ⟨.struct [(0, 3), (1, 3), (2, 3), (3, 3), (4, 9), (5, 35)], 6, 72, .agg #[.int .i64 0, .int .i64 0, .int .i64 0, .int .i64 0, .string ⟨#[]⟩, .slice none 0 0], false⟩
def ti37 : TI := ⟨.struct [(0, 3), (1, 3), (2, 3), (3, 3), (4, 9), (5, 35)], 6, 72, .agg #[.int .i64 0, .int .i64 0, .int .i64 0, .int .i64 0, .string ⟨#[]⟩, .slice none 0 0], false⟩
def ti38 : TI := ⟨.func, 1, 8, .nilFunc, false⟩
def ti39 : TI := ⟨.func, 1, 8, .nilFunc, false⟩
def ti40 : TI := ⟨.func, 1, 8, .nilFunc, false⟩
def ti41 : TI := ⟨.struct [(0, 23), (2, 23), (4, 24), (5, 9)], 6, 104, .agg #[.string ⟨#[]⟩, .string ⟨#[]⟩, .string ⟨#[]⟩, .string ⟨#[]⟩, .slice none 0 0, .string ⟨#[]⟩], false⟩
def ti42 : TI := ⟨.struct [(0, 23), (2, 23), (4, 24), (5, 9)], 6, 104, .agg #[.string ⟨#[]⟩, .string ⟨#[]⟩, .string ⟨#[]⟩, .string ⟨#[]⟩, .slice none 0 0, .string ⟨#[]⟩], false⟩
def ti44 : TI := ⟨.func, 1, 8, .nilFunc, false⟩
def ti45 : TI := ⟨.func, 1, 8, .nilFunc, false⟩
def ti46 : TI := ⟨.slice 9, 1, 24, .slice none 0 0, false⟩
def ti47 : TI := ⟨.func, 1, 8, .nilFunc, false⟩
def ti49 : TI := ⟨.func, 1, 8, .nilFunc, false⟩
def ti50 : TI := ⟨.int .i64, 1, 8, .int .i64 0, false⟩
def ti51 : TI := ⟨.func, 1, 8, .nilFunc, false⟩
def ti52 : TI := ⟨.func, 1, 8, .nilFunc, false⟩
def ti53 : TI := ⟨.ptr 56, 1, 8, .pointer none, false⟩
def ti54 : TI := ⟨.slice 5, 1, 24, .slice none 0 0, false⟩
def ti55 : TI := ⟨.struct [(0, 53), (1, 54)], 2, 32, .agg #[.pointer none, .slice none 0 0], false⟩
def ti56 : TI := ⟨.struct [(0, 53), (1, 54)], 2, 32, .agg #[.pointer none, .slice none 0 0], false⟩
def ti58 : TI := ⟨.func, 1, 8, .nilFunc, false⟩
def ti59 : TI := ⟨.func, 1, 8, .nilFunc, false⟩
def ti60 : TI := ⟨.func, 1, 8, .nilFunc, false⟩
def ti61 : TI := ⟨.func, 1, 8, .nilFunc, false⟩
def ti62 : TI := ⟨.func, 1, 8, .nilFunc, false⟩
def ti63 : TI := ⟨.ptr 50, 1, 8, .pointer none, false⟩
def ti64 : TI := ⟨.struct [(0, 3), (1, 9)], 2, 24, .agg #[.int .i64 0, .string ⟨#[]⟩], false⟩
def ti65 : TI := ⟨.struct [(0, 3), (1, 9)], 2, 24, .agg #[.int .i64 0, .string ⟨#[]⟩], true⟩
def ti66 : TI := ⟨.func, 1, 8, .nilFunc, false⟩
def ti67 : TI := ⟨.func, 1, 8, .nilFunc, false⟩
def ti68 : TI := ⟨.func, 1, 8, .nilFunc, false⟩
def ti69 : TI := ⟨.func, 1, 8, .nilFunc, false⟩
def ti70 : TI := ⟨.ptr 73, 1, 8, .pointer none, false⟩
def ti71 : TI := ⟨.func, 1, 8, .nilFunc, false⟩
def ti72 : TI := ⟨.struct [(0, 46), (1, 3)], 2, 32, .agg #[.slice none 0 0, .int .i64 0], false⟩
def ti73 : TI := ⟨.struct [(0, 46), (1, 3)], 2, 32, .agg #[.slice none 0 0, .int .i64 0], false⟩
def ti74 : TI := ⟨.ptr 78, 1, 8, .pointer none, false⟩
def ti76 : TI := ⟨.func, 1, 8, .nilFunc, false⟩
def ti77 : TI := ⟨.struct [(0, 50), (1, 3)], 2, 16, .agg #[.int .i64 0, .int .i64 0], false⟩
def ti78 : TI := ⟨.struct [(0, 50), (1, 3)], 2, 16, .agg #[.int .i64 0, .int .i64 0], true⟩
def ti79 : TI := ⟨.struct [(0, 3), (1, 4)], 2, 16, .agg #[.int .i64 0, .bool false], false⟩
def ti80 : TI := ⟨.struct [(0, 3), (1, 4)], 2, 16, .agg #[.int .i64 0, .bool false], true⟩
def ti82 : TI := ⟨.func, 1, 8, .nilFunc, false⟩
def ti83 : TI := ⟨.func, 1, 8, .nilFunc, false⟩
def ti84 : TI := ⟨.func, 1, 8, .nilFunc, false⟩
def ti85 : TI := ⟨.ptr 5, 1, 8, .pointer none, false⟩
def ti86 : TI := ⟨.func, 1, 8, .nilFunc, false⟩
def ti87 : TI := ⟨.unsafeptr, 1, 8, .pointer none, false⟩
def ti88 : TI := ⟨.int .u64, 1, 8, .int .u64 0, false⟩
def ti89 : TI := ⟨.struct [(0, 17), (1, 87), (2, 88)], 3, 24, .agg #[.pointer none, .pointer none, .int .u64 0], false⟩
def ti90 : TI := ⟨.struct [(0, 17), (1, 87), (2, 88)], 3, 24, .agg #[.pointer none, .pointer none, .int .u64 0], false⟩
def ti91 : TI := ⟨.func, 1, 8, .nilFunc, false⟩
def ti92 : TI := ⟨.iface 11, 1, 16, .nilIface, false⟩
def ti93 : TI := ⟨.iface 11, 1, 16, .nilIface, false⟩
def ti94 : TI := ⟨.func, 1, 8, .nilFunc, false⟩
def ti95 : TI := ⟨.int .u8, 1, 1, .int .u8 0, false⟩
def ti96 : TI := ⟨.func, 1, 8, .nilFunc, false⟩
def ti97 : TI := ⟨.func, 1, 8, .nilFunc, false⟩
def ti98 : TI := ⟨.func, 1, 8, .nilFunc, false⟩
def ti99 : TI := ⟨.func, 1, 8, .nilFunc, false⟩
def ti101 : TI := ⟨.func, 1, 8, .nilFunc, false⟩
def ti102 : TI := ⟨.func, 1, 8, .nilFunc, false⟩
def ti103 : TI := ⟨.func, 1, 8, .nilFunc, false⟩
def ti105 : TI := ⟨.func, 1, 8, .nilFunc, false⟩
def ti107 : TI := ⟨.func, 1, 8, .nilFunc, false⟩
def ti108 : TI := ⟨.func, 1, 8, .nilFunc, false⟩
def ti109 : TI := ⟨.func, 1, 8, .nilFunc, false⟩
def ti111 : TI := ⟨.func, 1, 8, .nilFunc, false⟩
def ti112 : TI := ⟨.func, 1, 8, .nilFunc, false⟩
def ti113 : TI := ⟨.int .u64, 1, 8, .int .u64 0, false⟩
def ti114 : TI := ⟨.func, 1, 8, .nilFunc, false⟩
def ti115 : TI := ⟨.func, 1, 8, .nilFunc, false⟩
def ti116 : TI := ⟨.struct [(0, 17)], 1, 8, .agg #[.pointer none], false⟩
def ti117 : TI := ⟨.struct [(0, 17)], 1, 8, .agg #[.pointer none], false⟩
def ti118 : TI := ⟨.ptr 189, 1, 8, .pointer none, false⟩
def ti119 : TI := ⟨.func, 1, 8, .nilFunc, false⟩
def ti120 : TI := ⟨.func, 1, 8, .nilFunc, false⟩
def ti121 : TI := ⟨.func, 1, 8, .nilFunc, false⟩
def ti122 : TI := ⟨.iface 1, 1, 16, .nilIface, false⟩
def ti124 : TI := ⟨.func, 1, 8, .nilFunc, false⟩
def ti125 : TI := ⟨.iface 1, 1, 16, .nilIface, false⟩
def ti126 : TI := ⟨.func, 1, 8, .nilFunc, false⟩
def ti127 : TI := ⟨.iface 1, 1, 16, .nilIface, false⟩
def ti128 : TI := ⟨.slice 27, 1, 24, .slice none 0 0, false⟩
def ti129 : TI := ⟨.func, 1, 8, .nilFunc, false⟩
def ti130 : TI := ⟨.func, 1, 8, .nilFunc, false⟩
def ti132 : TI := ⟨.func, 1, 8, .nilFunc, false⟩
def ti133 : TI := ⟨.func, 1, 8, .nilFunc, false⟩
def ti135 : TI := ⟨.func, 1, 8, .nilFunc, false⟩
def ti136 : TI := ⟨.func, 1, 8, .nilFunc, false⟩
def ti137 : TI := ⟨.ptr 37, 1, 8, .pointer none, false⟩
def ti138 : TI := ⟨.func, 1, 8, .nilFunc, false⟩
def ti139 : TI := ⟨.func, 1, 8, .nilFunc, false⟩
def ti140 : TI := ⟨.array 256 4, 256, 256, .agg #[.bool false, .bool false, .bool false, .bool false, .bool false, .bool false, .bool false, .bool false, .bool false, .bool false, .bool false, .bool false, .bool false, .bool false, .bool false, .bool false, .bool false, .bool false, .bool false, .bool false, .bool false, .bool false, .bool false, .bool false, .bool false, .bool false, .bool false, .bool false, .bool false, .bool false, .bool false, .bool false, .bool false, .bool false, .bool false, .bool false, .bool false, .bool false, .bool false, .bool false, .bool false, .bool false, .bool false, .bool false, .bool false, .bool false, .bool false, .bool false, .bool false, .bool false, .bool false, .bool false, .bool false, .bool false, .bool false, .bool false, .bool false, .bool false, .bool false, .bool false, .bool false, .bool false, .bool false, .bool false, .bool false, .bool false, .bool false, .bool false, .bool false, .bool false, .bool false, .bool false, .bool false, .bool false, .bool false, .bool false, .bool false, .bool false, .bool false, .bool false, .bool false, .bool false, .bool false, .bool false, .bool false, .bool false, .bool false, .bool false, .bool false, .bool false, .bool false, .bool false, .bool false, .bool false, .bool false, .bool false, .bool false, .bool false, .bool false, .bool false, .bool false, .bool false, .bool false, .bool false, .bool false, .bool false, .bool false, .bool false, .bool false, .bool false, .bool false, .bool false, .bool false, .bool false, .bool false, .bool false, .bool false, .bool false, .bool false, .bool false, .bool false, .bool false, .bool false, .bool false, .bool false, .bool false, .bool false, .bool false, .bool false, .bool false, .bool false, .bool false, .bool false, .bool false, .bool false, .bool false, .bool false, .bool false, .bool false, .bool false, .bool false, .bool false, .bool false, .bool false, .bool false, .bool false, .bool false, .bool false, .bool false, .bool false, .bool false, .bool false, .bool false, .bool false, .bool false, .bool false, .bool false, .bool false, .bool false, .bool false, .bool false, .bool false, .bool false, .bool false, .bool false, .bool false, .bool false, .bool false, .bool false, .bool false, .bool false, .bool false, .bool false, .bool false, .bool false, .bool false, .bool false, .bool false, .bool false, .bool false, .bool false, .bool false, .bool false, .bool false, .bool false, .bool false, .bool false, .bool false, .bool false, .bool false, .bool false, .bool false, .bool false, .bool false, .bool false, .bool false, .bool false, .bool false, .bool false, .bool false, .bool false, .bool false, .bool false, .bool false, .bool false, .bool false, .bool false, .bool false, .bool false, .bool false, .bool false, .bool false, .bool false, .bool false, .bool false, .bool false, .bool false, .bool false, .bool false, .bool false, .bool false, .bool false, .bool false, .bool false, .bool false, .bool false, .bool false, .bool false, .bool false, .bool false, .bool false, .bool false, .bool false, .bool false, .bool false, .bool false, .bool false, .bool false, .bool false, .bool false, .bool false, .bool false, .bool false, .bool false, .bool false, .bool false, .bool false, .bool false, .bool false, .bool false, .bool false, .bool false, .bool false, .bool false, .bool false, .bool false], false⟩
def ti141 : TI := ⟨.array 256 4, 256, 256, .agg #[.bool false, .bool false, .bool false, .bool false, .bool false, .bool false, .bool false, .bool false, .bool false, .bool false, .bool false, .bool false, .bool false, .bool false, .bool false, .bool false, .bool false, .bool false, .bool false, .bool false, .bool false, .bool false, .bool false, .bool false, .bool false, .bool false, .bool false, .bool false, .bool false, .bool false, .bool false, .bool false, .bool false, .bool false, .bool false, .bool false, .bool false, .bool false, .bool false, .bool false, .bool false, .bool false, .bool false, .bool false, .bool false, .bool false, .bool false, .bool false, .bool false, .bool false, .bool false, .bool false, .bool false, .bool false, .bool false, .bool false, .bool false, .bool false, .bool false, .bool false, .bool false, .bool false, .bool false, .bool false, .bool false, .bool false, .bool false, .bool false, .bool false, .bool false, .bool false, .bool false, .bool false, .bool false, .bool false, .bool false, .bool false, .bool false, .bool false, .bool false, .bool false, .bool false, .bool false, .bool false, .bool false, .bool false, .bool false, .bool false, .bool false, .bool false, .bool false, .bool false, .bool false, .bool false, .bool false, .bool false, .bool false, .bool false, .bool false, .bool false, .bool false, .bool false, .bool false, .bool false, .bool false, .bool false, .bool false, .bool false, .bool false, .bool false, .bool false, .bool false, .bool false, .bool false, .bool false, .bool false, .bool false, .bool false, .bool false, .bool false, .bool false, .bool false, .bool false, .bool false, .bool false, .bool false, .bool false, .bool false, .bool false, .bool false, .bool false, .bool false, .bool false, .bool false, .bool false, .bool false, .bool false, .bool false, .bool false, .bool false, .bool false, .bool false, .bool false, .bool false, .bool false, .bool false, .bool false, .bool false, .bool false, .bool false, .bool false, .bool false, .bool false, .bool false, .bool false, .bool false, .bool false, .bool false, .bool false, .bool false, .bool false, .bool false, .bool false, .bool false, .bool false, .bool false, .bool false, .bool false, .bool false, .bool false, .bool false, .bool false, .bool false, .bool false, .bool false, .bool false, .bool false, .bool false, .bool false, .bool false, .bool false, .bool false, .bool false, .bool false, .bool false, .bool false, .bool false, .bool false, .bool false, .bool false, .bool false, .bool false, .bool false, .bool false, .bool false, .bool false, .bool false, .bool false, .bool false, .bool false, .bool false, .bool false, .bool false, .bool false, .bool false, .bool false, .bool false, .bool false, .bool false, .bool false, .bool false, .bool false, .bool false, .bool false, .bool false, .bool false, .bool false, .bool false, .bool false, .bool false, .bool false, .bool false, .bool false, .bool false, .bool false, .bool false, .bool false, .bool false, .bool false, .bool false, .bool false, .bool false, .bool false, .bool false, .bool false, .bool false, .bool false, .bool false, .bool false, .bool false, .bool false, .bool false, .bool false, .bool false, .bool false, .bool false, .bool false, .bool false, .bool false, .bool false, .bool false, .bool false, .bool false, .bool false, .bool false, .bool false], false⟩
def ti143 : TI := ⟨.func, 1, 8, .nilFunc, false⟩
def ti144 : TI := ⟨.func, 1, 8, .nilFunc, false⟩
def ti145 : TI := ⟨.ptr 80, 1, 8, .pointer none, false⟩
def ti146 : TI := ⟨.func, 1, 8, .nilFunc, false⟩
def ti147 : TI := ⟨.func, 1, 8, .nilFunc, false⟩
def ti148 : TI := ⟨.func, 1, 8, .nilFunc, false⟩
def ti150 : TI := ⟨.func, 1, 8, .nilFunc, false⟩
def ti151 : TI := ⟨.ptr 65, 1, 8, .pointer none, false⟩
def ti152 : TI := ⟨.func, 1, 8, .nilFunc, false⟩
def ti153 : TI := ⟨.func, 1, 8, .nilFunc, false⟩
def ti154 : TI := ⟨.ptr 141, 1, 8, .pointer none, false⟩
def ti155 : TI := ⟨.array 24 5, 24, 24, .agg #[.int .u8 0, .int .u8 0, .int .u8 0, .int .u8 0, .int .u8 0, .int .u8 0, .int .u8 0, .int .u8 0, .int .u8 0, .int .u8 0, .int .u8 0, .int .u8 0, .int .u8 0, .int .u8 0, .int .u8 0, .int .u8 0, .int .u8 0, .int .u8 0, .int .u8 0, .int .u8 0, .int .u8 0, .int .u8 0, .int .u8 0, .int .u8 0], false⟩
def ti156 : TI := ⟨.int .u64, 1, 8, .int .u64 0, false⟩
def ti157 : TI := ⟨.func, 1, 8, .nilFunc, false⟩
def ti158 : TI := ⟨.func, 1, 8, .nilFunc, false⟩
def ti160 : TI := ⟨.func, 1, 8, .nilFunc, false⟩
def ti162 : TI := ⟨.func, 1, 8, .nilFunc, false⟩
def ti163 : TI := ⟨.int .u32, 1, 4, .int .u32 0, false⟩
def ti165 : TI := ⟨.func, 1, 8, .nilFunc, false⟩
def ti166 : TI := ⟨.func, 1, 8, .nilFunc, false⟩
def ti167 : TI := ⟨.array 20 156, 20, 160, .agg #[.int .u64 0, .int .u64 0, .int .u64 0, .int .u64 0, .int .u64 0, .int .u64 0, .int .u64 0, .int .u64 0, .int .u64 0, .int .u64 0, .int .u64 0, .int .u64 0, .int .u64 0, .int .u64 0, .int .u64 0, .int .u64 0, .int .u64 0, .int .u64 0, .int .u64 0, .int .u64 0], false⟩
def ti168 : TI := ⟨.array 65 5, 65, 65, .agg #[.int .u8 0, .int .u8 0, .int .u8 0, .int .u8 0, .int .u8 0, .int .u8 0, .int .u8 0, .int .u8 0, .int .u8 0, .int .u8 0, .int .u8 0, .int .u8 0, .int .u8 0, .int .u8 0, .int .u8 0, .int .u8 0, .int .u8 0, .int .u8 0, .int .u8 0, .int .u8 0, .int .u8 0, .int .u8 0, .int .u8 0, .int .u8 0, .int .u8 0, .int .u8 0, .int .u8 0, .int .u8 0, .int .u8 0, .int .u8 0, .int .u8 0, .int .u8 0, .int .u8 0, .int .u8 0, .int .u8 0, .int .u8 0, .int .u8 0, .int .u8 0, .int .u8 0, .int .u8 0, .int .u8 0, .int .u8 0, .int .u8 0, .int .u8 0, .int .u8 0, .int .u8 0, .int .u8 0, .int .u8 0, .int .u8 0, .int .u8 0, .int .u8 0, .int .u8 0, .int .u8 0, .int .u8 0, .int .u8 0, .int .u8 0, .int .u8 0, .int .u8 0, .int .u8 0, .int .u8 0, .int .u8 0, .int .u8 0, .int .u8 0, .int .u8 0, .int .u8 0], false⟩
def ti169 : TI := ⟨.func, 1, 8, .nilFunc, false⟩
def ti170 : TI := ⟨.func, 1, 8, .nilFunc, false⟩
def ti171 : TI := ⟨.array 32 5, 32, 32, .agg #[.int .u8 0, .int .u8 0, .int .u8 0, .int .u8 0, .int .u8 0, .int .u8 0, .int .u8 0, .int .u8 0, .int .u8 0, .int .u8 0, .int .u8 0, .int .u8 0, .int .u8 0, .int .u8 0, .int .u8 0, .int .u8 0, .int .u8 0, .int .u8 0, .int .u8 0, .int .u8 0, .int .u8 0, .int .u8 0, .int .u8 0, .int .u8 0, .int .u8 0, .int .u8 0, .int .u8 0, .int .u8 0, .int .u8 0, .int .u8 0, .int .u8 0, .int .u8 0], false⟩
def ti172 : TI := ⟨.array 64 5, 64, 64, .agg #[.int .u8 0, .int .u8 0, .int .u8 0, .int .u8 0, .int .u8 0, .int .u8 0, .int .u8 0, .int .u8 0, .int .u8 0, .int .u8 0, .int .u8 0, .int .u8 0, .int .u8 0, .int .u8 0, .int .u8 0, .int .u8 0, .int .u8 0, .int .u8 0, .int .u8 0, .int .u8 0, .int .u8 0, .int .u8 0, .int .u8 0, .int .u8 0, .int .u8 0, .int .u8 0, .int .u8 0, .int .u8 0, .int .u8 0, .int .u8 0, .int .u8 0, .int .u8 0, .int .u8 0, .int .u8 0, .int .u8 0, .int .u8 0, .int .u8 0, .int .u8 0, .int .u8 0, .int .u8 0, .int .u8 0, .int .u8 0, .int .u8 0, .int .u8 0, .int .u8 0, .int .u8 0, .int .u8 0, .int .u8 0, .int .u8 0, .int .u8 0, .int .u8 0, .int .u8 0, .int .u8 0, .int .u8 0, .int .u8 0, .int .u8 0, .int .u8 0, .int .u8 0, .int .u8 0, .int .u8 0, .int .u8 0, .int .u8 0, .int .u8 0, .int .u8 0], false⟩
def ti173 : TI := ⟨.struct [(0, 17), (1, 17), (2, 17), (3, 9)], 4, 40, .agg #[.pointer none, .pointer none, .pointer none, .string ⟨#[]⟩], false⟩
def ti174 : TI := ⟨.struct [(0, 17), (1, 17), (2, 17), (3, 9)], 4, 40, .agg #[.pointer none, .pointer none, .pointer none, .string ⟨#[]⟩], false⟩
def ti175 : TI := ⟨.array 0 16, 0, 0, .agg #[], false⟩
def ti176 : TI := ⟨.struct [(0, 175)], 0, 0, .agg #[], false⟩
def ti177 : TI := ⟨.struct [(0, 175)], 0, 0, .agg #[], false⟩
def ti178 : TI := ⟨.func, 1, 8, .nilFunc, false⟩
def ti179 : TI := ⟨.func, 1, 8, .nilFunc, false⟩
def ti180 : TI := ⟨.int .u8, 1, 1, .int .u8 0, false⟩
def ti181 : TI := ⟨.func, 1, 8, .nilFunc, false⟩
def ti182 : TI := ⟨.int .i32, 1, 4, .int .i32 0, false⟩
def ti183 : TI := ⟨.int .i32, 1, 4, .int .i32 0, false⟩
def ti184 : TI := ⟨.struct [(0, 12), (1, 12), (2, 163), (3, 180), (4, 5), (5, 5), (6, 95), (7, 181), (8, 85), (9, 182), (10, 183)], 11, 48, .agg #[.int .u64 0, .int .u64 0, .int .u32 0, .int .u8 0, .int .u8 0, .int .u8 0, .int .u8 0, .nilFunc, .pointer none, .int .i32 0, .int .i32 0], false⟩
def ti185 : TI := ⟨.struct [(0, 12), (1, 12), (2, 163), (3, 180), (4, 5), (5, 5), (6, 95), (7, 181), (8, 85), (9, 182), (10, 183)], 11, 48, .agg #[.int .u64 0, .int .u64 0, .int .u32 0, .int .u8 0, .int .u8 0, .int .u8 0, .int .u8 0, .nilFunc, .pointer none, .int .i32 0, .int .i32 0], false⟩
def ti186 : TI := ⟨.func, 1, 8, .nilFunc, false⟩
def ti187 : TI := ⟨.func, 1, 8, .nilFunc, false⟩
def ti188 : TI := ⟨.struct [(0, 9), (1, 95)], 2, 24, .agg #[.string ⟨#[]⟩, .int .u8 0], false⟩
def ti189 : TI := ⟨.struct [(0, 9), (1, 95)], 2, 24, .agg #[.string ⟨#[]⟩, .int .u8 0], false⟩
def ti190 : TI := ⟨.ptr 194, 1, 8, .pointer none, false⟩
def ti191 : TI := ⟨.func, 1, 8, .nilFunc, false⟩
def ti192 : TI := ⟨.int .u16, 1, 2, .int .u16 0, false⟩
def ti193 : TI := ⟨.struct [(0, 182), (1, 192), (2, 192), (3, 163), (4, 163)], 5, 16, .agg #[.int .i32 0, .int .u16 0, .int .u16 0, .int .u32 0, .int .u32 0], false⟩
def ti194 : TI := ⟨.struct [(0, 182), (1, 192), (2, 192), (3, 163), (4, 163)], 5, 16, .agg #[.int .i32 0, .int .u16 0, .int .u16 0, .int .u32 0, .int .u32 0], false⟩
def ti195 : TI := ⟨.slice 198, 1, 24, .slice none 0 0, false⟩
def ti196 : TI := ⟨.int .i32, 1, 4, .int .i32 0, false⟩
def ti197 : TI := ⟨.struct [(0, 182), (1, 183), (2, 196), (3, 196)], 4, 16, .agg #[.int .i32 0, .int .i32 0, .int .i32 0, .int .i32 0], false⟩
def ti198 : TI := ⟨.struct [(0, 182), (1, 183), (2, 196), (3, 196)], 4, 16, .agg #[.int .i32 0, .int .i32 0, .int .i32 0, .int .i32 0], false⟩
def ti199 : TI := ⟨.ptr 27, 1, 8, .pointer none, false⟩
def tiList : List (Option TI) := [none, some ti1, some ti2, some ti3, some ti4, some ti5, some ti6, some ti7, some ti8, some ti9, some ti10, some ti11, some ti12, some ti13, some ti14, some ti15, some ti16, some ti17, some ti18, some ti19, some ti20, some ti21, some ti22, some ti23, some ti24, some ti25, some ti26, some ti27, none, some ti29, none, some ti31, some ti32, some ti33, some ti34, some ti35, some ti36, some ti37, some ti38, some ti39, some ti40, some ti41, some ti42, none, some ti44, some ti45, some ti46, some ti47, none, some ti49, some ti50, some ti51, some ti52, some ti53, some ti54, some ti55, some ti56, none, some ti58, some ti59, some ti60, some ti61, some ti62, some ti63, some ti64, some ti65, some ti66, some ti67, some ti68, some ti69, some ti70, some ti71, some ti72, some ti73, some ti74, none, some ti76, some ti77, some ti78, some ti79, some ti80, none, some ti82, some ti83, some ti84, some ti85, some ti86, some ti87, some ti88, some ti89, some ti90, some ti91, some ti92, some ti93, some ti94, some ti95, some ti96, some ti97, some ti98, some ti99, none, some ti101, some ti102, some ti103, none, some ti105, none, some ti107, some ti108, some ti109, none, some ti111, some ti112, some ti113, some ti114, some ti115, some ti116, some ti117, some ti118, some ti119, some ti120, some ti121, some ti122, none, some ti124, some ti125, some ti126, some ti127, some ti128, some ti129, some ti130, none, some ti132, some ti133, none, some ti135, some ti136, some ti137, some ti138, some ti139, some ti140, some ti141, none, some ti143, some ti144, some ti145, some ti146, some ti147, some ti148, none, some ti150, some ti151, some ti152, some ti153, some ti154, some ti155, some ti156, some ti157, some ti158, none, some ti160, none, some ti162, some ti163, none, some ti165, some ti166, some ti167, some ti168, some ti169, some ti170, some ti171, some ti172, some ti173, some ti174, some ti175, some ti176, some ti177, some ti178, some ti179, some ti180, some ti181, some ti182, some ti183, some ti184, some ti185, some ti186, some ti187, some ti188, some ti189, some ti190, some ti191, some ti192, some ti193, some ti194, some ti195, some ti196, some ti197, some ti198, some ti199]
def tabS : TypeId → Option TI := listTab tiList
@[simp] theorem tab1 : tabS 1 = some ti1 := rfl
@[simp] theorem tab2 : tabS 2 = some ti2 := rfl
@[simp] theorem tab3 : tabS 3 = some ti3 := rfl
@[simp] theorem tab4 : tabS 4 = some ti4 := rfl
@[simp] theorem tab5 : tabS 5 = some ti5 := rfl
@[simp] theorem tab6 : tabS 6 = some ti6 := rfl
@[simp] theorem tab7 : tabS 7 = some ti7 := rfl
@[simp] theorem tab8 : tabS 8 = some ti8 := rfl
@[simp] theorem tab9 : tabS 9 = some ti9 := rfl
@[simp] theorem tab10 : tabS 10 = some ti10 := rfl
@[simp] theorem tab11 : tabS 11 = some ti11 := rfl
@[simp] theorem tab12 : tabS 12 = some ti12 := rfl
@[simp] theorem tab13 : tabS 13 = some ti13 := rfl
@[simp] theorem tab14 : tabS 14 = some ti14 := rfl
@[simp] theorem tab15 : tabS 15 = some ti15 := rfl
@[simp] theorem tab16 : tabS 16 = some ti16 := rfl
@[simp] theorem tab17 : tabS 17 = some ti17 := rfl
@[simp] theorem tab18 : tabS 18 = some ti18 := rfl
@[simp] theorem tab19 : tabS 19 = some ti19 := rfl
@[simp] theorem tab20 : tabS 20 = some ti20 := rfl
@[simp] theorem tab21 : tabS 21 = some ti21 := rfl
@[simp] theorem tab22 : tabS 22 = some ti22 := rfl
@[simp] theorem tab23 : tabS 23 = some ti23 := rfl
@[simp] theorem tab24 : tabS 24 = some ti24 := rfl
@[simp] theorem tab25 : tabS 25 = some ti25 := rfl
@[simp] theorem tab26 : tabS 26 = some ti26 := rfl
@[simp] theorem tab27 : tabS 27 = some ti27 := rfl
@[simp] theorem tab29 : tabS 29 = some ti29 := rfl
@[simp] theorem tab31 : tabS 31 = some ti31 := rfl
@[simp] theorem tab32 : tabS 32 = some ti32 := rfl
@[simp] theorem tab33 : tabS 33 = some ti33 := rfl
@[simp] theorem tab34 : tabS 34 = some ti34 := rfl
@[simp] theorem tab35 : tabS 35 = some ti35 := rfl
@[simp] theorem tab36 : tabS 36 = some ti36 := rfl
@[simp] theorem tab37 : tabS 37 = some ti37 := rfl
@[simp] theorem tab38 : tabS 38 = some ti38 := rfl
@[simp] theorem tab39 : tabS 39 = some ti39 := rfl
@[simp] theorem tab40 : tabS 40 = some ti40 := rfl
@[simp] theorem tab41 : tabS 41 = some ti41 := rfl
@[simp] theorem tab42 : tabS 42 = some ti42 := rfl
@[simp] theorem tab44 : tabS 44 = some ti44 := rfl
@[simp] theorem tab45 : tabS 45 = some ti45 := rfl
@[simp] theorem tab46 : tabS 46 = some ti46 := rfl
@[simp] theorem tab47 : tabS 47 = some ti47 := rfl
@[simp] theorem tab49 : tabS 49 = some ti49 := rfl
@[simp] theorem tab50 : tabS 50 = some ti50 := rfl
@[simp] theorem tab51 : tabS 51 = some ti51 := rfl
@[simp] theorem tab52 : tabS 52 = some ti52 := rfl
@[simp] theorem tab53 : tabS 53 = some ti53 := rfl
@[simp] theorem tab54 : tabS 54 = some ti54 := rfl
@[simp] theorem tab55 : tabS 55 = some ti55 := rfl
@[simp] theorem tab56 : tabS 56 = some ti56 := rfl
@[simp] theorem tab58 : tabS 58 = some ti58 := rfl
@[simp] theorem tab59 : tabS 59 = some ti59 := rfl
@[simp] theorem tab60 : tabS 60 = some ti60 := rfl
@[simp] theorem tab61 : tabS 61 = some ti61 := rfl
@[simp] theorem tab62 : tabS 62 = some ti62 := rfl
@[simp] theorem tab63 : tabS 63 = some ti63 := rfl
@[simp] theorem tab64 : tabS 64 = some ti64 := rfl
@[simp] theorem tab65 : tabS 65 = some ti65 := rfl
@[simp] theorem tab66 : tabS 66 = some ti66 := rfl
@[simp] theorem tab67 : tabS 67 = some ti67 := rfl
@[simp] theorem tab68 : tabS 68 = some ti68 := rfl
@[simp] theorem tab69 : tabS 69 = some ti69 := rfl
@[simp] theorem tab70 : tabS 70 = some ti70 := rfl
@[simp] theorem tab71 : tabS 71 = some ti71 := rfl
@[simp] theorem tab72 : tabS 72 = some ti72 := rfl
@[simp] theorem tab73 : tabS 73 = some ti73 := rfl
@[simp] theorem tab74 : tabS 74 = some ti74 := rfl
@[simp] theorem tab76 : tabS 76 = some ti76 := rfl
@[simp] theorem tab77 : tabS 77 = some ti77 := rfl
@[simp] theorem tab78 : tabS 78 = some ti78 := rfl
@[simp] theorem tab79 : tabS 79 = some ti79 := rfl
@[simp] theorem tab80 : tabS 80 = some ti80 := rfl
@[simp] theorem tab82 : tabS 82 = some ti82 := rfl
@[simp] theorem tab83 : tabS 83 = some ti83 := rfl
@[simp] theorem tab84 : tabS 84 = some ti84 := rfl
@[simp] theorem tab85 : tabS 85 = some ti85 := rfl
@[simp] theorem tab86 : tabS 86 = some ti86 := rfl
@[simp] theorem tab87 : tabS 87 = some ti87 := rfl
@[simp] theorem tab88 : tabS 88 = some ti88 := rfl
@[simp] theorem tab89 : tabS 89 = some ti89 := rfl
@[simp] theorem tab90 : tabS 90 = some ti90 := rfl
@[simp] theorem tab91 : tabS 91 = some ti91 := rfl
@[simp] theorem tab92 : tabS 92 = some ti92 := rfl
@[simp] theorem tab93 : tabS 93 = some ti93 := rfl
@[simp] theorem tab94 : tabS 94 = some ti94 := rfl
@[simp] theorem tab95 : tabS 95 = some ti95 := rfl
@[simp] theorem tab96 : tabS 96 = some ti96 := rfl
@[simp] theorem tab97 : tabS 97 = some ti97 := rfl
@[simp] theorem tab98 : tabS 98 = some ti98 := rfl
@[simp] theorem tab99 : tabS 99 = some ti99 := rfl
@[simp] theorem tab101 : tabS 101 = some ti101 := rfl
@[simp] theorem tab102 : tabS 102 = some ti102 := rfl
@[simp] theorem tab103 : tabS 103 = some ti103 := rfl
@[simp] theorem tab105 : tabS 105 = some ti105 := rfl
@[simp] theorem tab107 : tabS 107 = some ti107 := rfl
@[simp] theorem tab108 : tabS 108 = some ti108 := rfl
@[simp] theorem tab109 : tabS 109 = some ti109 := rfl
@[simp] theorem tab111 : tabS 111 = some ti111 := rfl
@[simp] theorem tab112 : tabS 112 = some ti112 := rfl
@[simp] theorem tab113 : tabS 113 = some ti113 := rfl
@[simp] theorem tab114 : tabS 114 = some ti114 := rfl
@[simp] theorem tab115 : tabS 115 = some ti115 := rfl
@[simp] theorem tab116 : tabS 116 = some ti116 := rfl
@[simp] theorem tab117 : tabS 117 = some ti117 := rfl
@[simp] theorem tab118 : tabS 118 = some ti118 := rfl
@[simp] theorem tab119 : tabS 119 = some ti119 := rfl
@[simp] theorem tab120 : tabS 120 = some ti120 := rfl
@[simp] theorem tab121 : tabS 121 = some ti121 := rfl
@[simp] theorem tab122 : tabS 122 = some ti122 := rfl
@[simp] theorem tab124 : tabS 124 = some ti124 := rfl
@[simp] theorem tab125 : tabS 125 = some ti125 := rfl
@[simp] theorem tab126 : tabS 126 = some ti126 := rfl
@[simp] theorem tab127 : tabS 127 = some ti127 := rfl
@[simp] theorem tab128 : tabS 128 = some ti128 := rfl
@[simp] theorem tab129 : tabS 129 = some ti129 := rfl
@[simp] theorem tab130 : tabS 130 = some ti130 := rfl
@[simp] theorem tab132 : tabS 132 = some ti132 := rfl
@[simp] theorem tab133 : tabS 133 = some ti133 := rfl
@[simp] theorem tab135 : tabS 135 = some ti135 := rfl
@[simp] theorem tab136 : tabS 136 = some ti136 := rfl
@[simp] theorem tab137 : tabS 137 = some ti137 := rfl
@[simp] theorem tab138 : tabS 138 = some ti138 := rfl
@[simp] theorem tab139 : tabS 139 = some ti139 := rfl
@[simp] theorem tab140 : tabS 140 = some ti140 := rfl
@[simp] theorem tab141 : tabS 141 = some ti141 := rfl
@[simp] theorem tab143 : tabS 143 = some ti143 := rfl
@[simp] theorem tab144 : tabS 144 = some ti144 := rfl
@[simp] theorem tab145 : tabS 145 = some ti145 := rfl
@[simp] theorem tab146 : tabS 146 = some ti146 := rfl
@[simp] theorem tab147 : tabS 147 = some ti147 := rfl
@[simp] theorem tab148 : tabS 148 = some ti148 := rfl
@[simp] theorem tab150 : tabS 150 = some ti150 := rfl
@[simp] theorem tab151 : tabS 151 = some ti151 := rfl
@[simp] theorem tab152 : tabS 152 = some ti152 := rfl
@[simp] theorem tab153 : tabS 153 = some ti153 := rfl
@[simp] theorem tab154 : tabS 154 = some ti154 := rfl
@[simp] theorem tab155 : tabS 155 = some ti155 := rfl
@[simp] theorem tab156 : tabS 156 = some ti156 := rfl
@[simp] theorem tab157 : tabS 157 = some ti157 := rfl
@[simp] theorem tab158 : tabS 158 = some ti158 := rfl
@[simp] theorem tab160 : tabS 160 = some ti160 := rfl
@[simp] theorem tab162 : tabS 162 = some ti162 := rfl
@[simp] theorem tab163 : tabS 163 = some ti163 := rfl
@[simp] theorem tab165 : tabS 165 = some ti165 := rfl
@[simp] theorem tab166 : tabS 166 = some ti166 := rfl
@[simp] theorem tab167 : tabS 167 = some ti167 := rfl
@[simp] theorem tab168 : tabS 168 = some ti168 := rfl
@[simp] theorem tab169 : tabS 169 = some ti169 := rfl
@[simp] theorem tab170 : tabS 170 = some ti170 := rfl
@[simp] theorem tab171 : tabS 171 = some ti171 := rfl
@[simp] theorem tab172 : tabS 172 = some ti172 := rfl
@[simp] theorem tab173 : tabS 173 = some ti173 := rfl
@[simp] theorem tab174 : tabS 174 = some ti174 := rfl
@[simp] theorem tab175 : tabS 175 = some ti175 := rfl
@[simp] theorem tab176 : tabS 176 = some ti176 := rfl
@[simp] theorem tab177 : tabS 177 = some ti177 := rfl
@[simp] theorem tab178 : tabS 178 = some ti178 := rfl
@[simp] theorem tab179 : tabS 179 = some ti179 := rfl
@[simp] theorem tab180 : tabS 180 = some ti180 := rfl
@[simp] theorem tab181 : tabS 181 = some ti181 := rfl
@[simp] theorem tab182 : tabS 182 = some ti182 := rfl
@[simp] theorem tab183 : tabS 183 = some ti183 := rfl
@[simp] theorem tab184 : tabS 184 = some ti184 := rfl
@[simp] theorem tab185 : tabS 185 = some ti185 := rfl
@[simp] theorem tab186 : tabS 186 = some ti186 := rfl
@[simp] theorem tab187 : tabS 187 = some ti187 := rfl
@[simp] theorem tab188 : tabS 188 = some ti188 := rfl
@[simp] theorem tab189 : tabS 189 = some ti189 := rfl
@[simp] theorem tab190 : tabS 190 = some ti190 := rfl
@[simp] theorem tab191 : tabS 191 = some ti191 := rfl
@[simp] theorem tab192 : tabS 192 = some ti192 := rfl
@[simp] theorem tab193 : tabS 193 = some ti193 := rfl
@[simp] theorem tab194 : tabS 194 = some ti194 := rfl
@[simp] theorem tab195 : tabS 195 = some ti195 := rfl
@[simp] theorem tab196 : tabS 196 = some ti196 := rfl
@[simp] theorem tab197 : tabS 197 = some ti197 := rfl
@[simp] theorem tab198 : tabS 198 = some ti198 := rfl
@[simp] theorem tab199 : tabS 199 = some ti199 := rfl
@[simp] theorem ti1_td : ti1.td = .func := rfl
@[simp] theorem ti1_size : ti1.size = 1 := rfl
@[simp] theorem ti1_bytes : ti1.bytes = 8 := rfl
@[simp] theorem ti1_zero : ti1.zero = .nilFunc := rfl
@[simp] theorem ti2_td : ti2.td = .int .i64 := rfl
@[simp] theorem ti2_size : ti2.size = 1 := rfl
@[simp] theorem ti2_bytes : ti2.bytes = 8 := rfl
@[simp] theorem ti2_zero : ti2.zero = .int .i64 0 := rfl
@[simp] theorem ti3_td : ti3.td = .int .i64 := rfl
@[simp] theorem ti3_size : ti3.size = 1 := rfl
@[simp] theorem ti3_bytes : ti3.bytes = 8 := rfl
@[simp] theorem ti3_zero : ti3.zero = .int .i64 0 := rfl
@[simp] theorem ti4_td : ti4.td = .bool := rfl
@[simp] theorem ti4_size : ti4.size = 1 := rfl
@[simp] theorem ti4_bytes : ti4.bytes = 1 := rfl
@[simp] theorem ti4_zero : ti4.zero = .bool false := rfl
@[simp] theorem ti5_td : ti5.td = .int .u8 := rfl
@[simp] theorem ti5_size : ti5.size = 1 := rfl
@[simp] theorem ti5_bytes : ti5.bytes = 1 := rfl
@[simp] theorem ti5_zero : ti5.zero = .int .u8 0 := rfl
@[simp] theorem ti6_td : ti6.td = .int .u8 := rfl
@[simp] theorem ti6_size : ti6.size = 1 := rfl
@[simp] theorem ti6_bytes : ti6.bytes = 1 := rfl
@[simp] theorem ti6_zero : ti6.zero = .int .u8 0 := rfl
@[simp] theorem ti7_td : ti7.td = .struct [(0, 2), (1, 3), (2, 4), (3, 6)] := rfl
@[simp] theorem ti7_size : ti7.size = 4 := rfl
@[simp] theorem ti7_bytes : ti7.bytes = 24 := rfl
@[simp] theorem ti7_zero : ti7.zero = .agg #[.int .i64 0, .int .i64 0, .bool false, .int .u8 0] := rfl
@[simp] theorem ti8_td : ti8.td = .struct [(0, 2), (1, 3), (2, 4), (3, 6)] := rfl
@[simp] theorem ti8_size : ti8.size = 4 := rfl
@[simp] theorem ti8_bytes : ti8.bytes = 24 := rfl
@[simp] theorem ti8_zero : ti8.zero = .agg #[.int .i64 0, .int .i64 0, .bool false, .int .u8 0] := rfl
@[simp] theorem ti9_td : ti9.td = .str := rfl
@[simp] theorem ti9_size : ti9.size = 1 := rfl
@[simp] theorem ti9_bytes : ti9.bytes = 16 := rfl
@[simp] theorem ti9_zero : ti9.zero = .string ⟨#[]⟩ := rfl
@[simp] theorem ti10_td : ti10.td = .str := rfl
@[simp] theorem ti10_size : ti10.size = 1 := rfl
@[simp] theorem ti10_bytes : ti10.bytes = 16 := rfl
@[simp] theorem ti10_zero : ti10.zero = .string ⟨#[]⟩ := rfl
@[simp] theorem ti11_td : ti11.td = .str := rfl
@[simp] theorem ti11_size : ti11.size = 1 := rfl
@[simp] theorem ti11_bytes : ti11.bytes = 16 := rfl
@[simp] theorem ti11_zero : ti11.zero = .string ⟨#[]⟩ := rfl
@[simp] theorem ti12_td : ti12.td = .int .u64 := rfl
@[simp] theorem ti12_size : ti12.size = 1 := rfl
@[simp] theorem ti12_bytes : ti12.bytes = 8 := rfl
@[simp] theorem ti12_zero : ti12.zero = .int .u64 0 := rfl
@[simp] theorem ti13_td : ti13.td = .struct [(0, 9), (1, 12)] := rfl
@[simp] theorem ti13_size : ti13.size = 2 := rfl
@[simp] theorem ti13_bytes : ti13.bytes = 24 := rfl
@[simp] theorem ti13_zero : ti13.zero = .agg #[.string ⟨#[]⟩, .int .u64 0] := rfl
@[simp] theorem ti14_td : ti14.td = .struct [(0, 9), (1, 12)] := rfl
@[simp] theorem ti14_size : ti14.size = 2 := rfl
@[simp] theorem ti14_bytes : ti14.bytes = 24 := rfl
@[simp] theorem ti14_zero : ti14.zero = .agg #[.string ⟨#[]⟩, .int .u64 0] := rfl
@[simp] theorem ti15_td : ti15.td = .ptr 174 := rfl
@[simp] theorem ti15_size : ti15.size = 1 := rfl
@[simp] theorem ti15_bytes : ti15.bytes = 8 := rfl
@[simp] theorem ti15_zero : ti15.zero = .pointer none := rfl
@[simp] theorem ti16_td : ti16.td = .ptr 177 := rfl
@[simp] theorem ti16_size : ti16.size = 1 := rfl
@[simp] theorem ti16_bytes : ti16.bytes = 8 := rfl
@[simp] theorem ti16_zero : ti16.zero = .pointer none := rfl
@[simp] theorem ti17_td : ti17.td = .ptr 185 := rfl
@[simp] theorem ti17_size : ti17.size = 1 := rfl
@[simp] theorem ti17_bytes : ti17.bytes = 8 := rfl
@[simp] theorem ti17_zero : ti17.zero = .pointer none := rfl
@[simp] theorem ti18_td : ti18.td = .struct [(0, 17)] := rfl
@[simp] theorem ti18_size : ti18.size = 1 := rfl
@[simp] theorem ti18_bytes : ti18.bytes = 8 := rfl
@[simp] theorem ti18_zero : ti18.zero = .agg #[.pointer none] := rfl
@[simp] theorem ti19_td : ti19.td = .struct [(0, 17)] := rfl
@[simp] theorem ti19_size : ti19.size = 1 := rfl
@[simp] theorem ti19_bytes : ti19.bytes = 8 := rfl
@[simp] theorem ti19_zero : ti19.zero = .agg #[.pointer none] := rfl
@[simp] theorem ti20_td : ti20.td = .iface 0 := rfl
@[simp] theorem ti20_size : ti20.size = 1 := rfl
@[simp] theorem ti20_bytes : ti20.bytes = 16 := rfl
@[simp] theorem ti20_zero : ti20.zero = .nilIface := rfl
@[simp] theorem ti21_td : ti21.td = .int .i32 := rfl
@[simp] theorem ti21_size : ti21.size = 1 := rfl
@[simp] theorem ti21_bytes : ti21.bytes = 4 := rfl
@[simp] theorem ti21_zero : ti21.zero = .int .i32 0 := rfl
@[simp] theorem ti22_td : ti22.td = .struct [(0, 9), (1, 9)] := rfl
@[simp] theorem ti22_size : ti22.size = 2 := rfl
@[simp] theorem ti22_bytes : ti22.bytes = 32 := rfl
@[simp] theorem ti22_zero : ti22.zero = .agg #[.string ⟨#[]⟩, .string ⟨#[]⟩] := rfl
@[simp] theorem ti23_td : ti23.td = .struct [(0, 9), (1, 9)] := rfl
@[simp] theorem ti23_size : ti23.size = 2 := rfl
@[simp] theorem ti23_bytes : ti23.bytes = 32 := rfl
@[simp] theorem ti23_zero : ti23.zero = .agg #[.string ⟨#[]⟩, .string ⟨#[]⟩] := rfl
@[simp] theorem ti24_td : ti24.td = .slice 37 := rfl
@[simp] theorem ti24_size : ti24.size = 1 := rfl
@[simp] theorem ti24_bytes : ti24.bytes = 24 := rfl
@[simp] theorem ti24_zero : ti24.zero = .slice none 0 0 := rfl
@[simp] theorem ti25_td : ti25.td = .func := rfl
@[simp] theorem ti25_size : ti25.size = 1 := rfl
@[simp] theorem ti25_bytes : ti25.bytes = 8 := rfl
@[simp] theorem ti25_zero : ti25.zero = .nilFunc := rfl
@[simp] theorem ti26_td : ti26.td = .iface 1 := rfl
@[simp] theorem ti26_size : ti26.size = 1 := rfl
@[simp] theorem ti26_bytes : ti26.bytes = 16 := rfl
@[simp] theorem ti26_zero : ti26.zero = .nilIface := rfl
@[simp] theorem ti27_td : ti27.td = .iface 1 := rfl
@[simp] theorem ti27_size : ti27.size = 1 := rfl
@[simp] theorem ti27_bytes : ti27.bytes = 16 := rfl
@[simp] theorem ti27_zero : ti27.zero = .nilIface := rfl
@[simp] theorem ti29_td : ti29.td = .func := rfl
@[simp] theorem ti29_size : ti29.size = 1 := rfl
@[simp] theorem ti29_bytes : ti29.bytes = 8 := rfl
@[simp] theorem ti29_zero : ti29.zero = .nilFunc := rfl
@[simp] theorem ti31_td : ti31.td = .func := rfl
@[simp] theorem ti31_size : ti31.size = 1 := rfl
@[simp] theorem ti31_bytes : ti31.bytes = 8 := rfl
@[simp] theorem ti31_zero : ti31.zero = .nilFunc := rfl
@[simp] theorem ti32_td : ti32.td = .func := rfl
@[simp] theorem ti32_size : ti32.size = 1 := rfl
@[simp] theorem ti32_bytes : ti32.bytes = 8 := rfl
@[simp] theorem ti32_zero : ti32.zero = .nilFunc := rfl
@[simp] theorem ti33_td : ti33.td = .func := rfl
@[simp] theorem ti33_size : ti33.size = 1 := rfl
@[simp] theorem ti33_bytes : ti33.bytes = 8 := rfl
@[simp] theorem ti33_zero : ti33.zero = .nilFunc := rfl
@[simp] theorem ti34_td : ti34.td = .func := rfl
@[simp] theorem ti34_size : ti34.size = 1 := rfl
@[simp] theorem ti34_bytes : ti34.bytes = 8 := rfl
@[simp] theorem ti34_zero : ti34.zero = .nilFunc := rfl
@[simp] theorem ti35_td : ti35.td = .slice 65 := rfl
@[simp] theorem ti35_size : ti35.size = 1 := rfl
@[simp] theorem ti35_bytes : ti35.bytes = 24 := rfl
@[simp] theorem ti35_zero : ti35.zero = .slice none 0 0 := rfl
@[simp] theorem ti36_td : ti36.td = .struct [(0, 3), (1, 3), (2, 3), (3, 3), (4, 9), (5, 35)] := rfl
@[simp] theorem ti36_size : ti36.size = 6 := rfl
@[simp] theorem ti36_bytes : ti36.bytes = 72 := rfl
@[simp] theorem ti36_zero : ti36.zero = .agg #[.int .i64 0, .int .i64 0, .int .i64 0, .int .i64 0, .string ⟨#[]⟩, .slice none 0 0] := rfl
@[simp] theorem ti37_td : ti37.td = .struct [(0, 3), (1, 3), (2, 3), (3, 3), (4, 9), (5, 35)] := rfl
@[simp] theorem ti37_size : ti37.size = 6 := rfl
@[simp] theorem ti37_bytes : ti37.bytes = 72 := rfl
@[simp] theorem ti37_zero : ti37.zero = .agg #[.int .i64 0, .int .i64 0, .int .i64 0, .int .i64 0, .string ⟨#[]⟩, .slice none 0 0] := rfl
@[simp] theorem ti38_td : ti38.td = .func := rfl
@[simp] theorem ti38_size : ti38.size = 1 := rfl
@[simp] theorem ti38_bytes : ti38.bytes = 8 := rfl
@[simp] theorem ti38_zero : ti38.zero = .nilFunc := rfl
@[simp] theorem ti39_td : ti39.td = .func := rfl
@[simp] theorem ti39_size : ti39.size = 1 := rfl
@[simp] theorem ti39_bytes : ti39.bytes = 8 := rfl
@[simp] theorem ti39_zero : ti39.zero = .nilFunc := rfl
@[simp] theorem ti40_td : ti40.td = .func := rfl
@[simp] theorem ti40_size : ti40.size = 1 := rfl
@[simp] theorem ti40_bytes : ti40.bytes = 8 := rfl
@[simp] theorem ti40_zero : ti40.zero = .nilFunc := rfl
@[simp] theorem ti41_td : ti41.td = .struct [(0, 23), (2, 23), (4, 24), (5, 9)] := rfl
@[simp] theorem ti41_size : ti41.size = 6 := rfl
@[simp] theorem ti41_bytes : ti41.bytes = 104 := rfl
@[simp] theorem ti41_zero : ti41.zero = .agg #[.string ⟨#[]⟩, .string ⟨#[]⟩, .string ⟨#[]⟩, .string ⟨#[]⟩, .slice none 0 0, .string ⟨#[]⟩] := rfl
@[simp] theorem ti42_td : ti42.td = .struct [(0, 23), (2, 23), (4, 24), (5, 9)] := rfl
@[simp] theorem ti42_size : ti42.size = 6 := rfl
@[simp] theorem ti42_bytes : ti42.bytes = 104 := rfl
@[simp] theorem ti42_zero : ti42.zero = .agg #[.string ⟨#[]⟩, .string ⟨#[]⟩, .string ⟨#[]⟩, .string ⟨#[]⟩, .slice none 0 0, .string ⟨#[]⟩] := rfl
@[simp] theorem ti44_td : ti44.td = .func := rfl
@[simp] theorem ti44_size : ti44.size = 1 := rfl
@[simp] theorem ti44_bytes : ti44.bytes = 8 := rfl
@[simp] theorem ti44_zero : ti44.zero = .nilFunc := rfl
@[simp] theorem ti45_td : ti45.td = .func := rfl
@[simp] theorem ti45_size : ti45.size = 1 := rfl
@[simp] theorem ti45_bytes : ti45.bytes = 8 := rfl
@[simp] theorem ti45_zero : ti45.zero = .nilFunc := rfl
@[simp] theorem ti46_td : ti46.td = .slice 9 := rfl
@[simp] theorem ti46_size : ti46.size = 1 := rfl
@[simp] theorem ti46_bytes : ti46.bytes = 24 := rfl
@[simp] theorem ti46_zero : ti46.zero = .slice none 0 0 := rfl
@[simp] theorem ti47_td : ti47.td = .func := rfl
@[simp] theorem ti47_size : ti47.size = 1 := rfl
@[simp] theorem ti47_bytes : ti47.bytes = 8 := rfl
@[simp] theorem ti47_zero : ti47.zero = .nilFunc := rfl
@[simp] theorem ti49_td : ti49.td = .func := rfl
@[simp] theorem ti49_size : ti49.size = 1 := rfl
@[simp] theorem ti49_bytes : ti49.bytes = 8 := rfl
@[simp] theorem ti49_zero : ti49.zero = .nilFunc := rfl
@[simp] theorem ti50_td : ti50.td = .int .i64 := rfl
@[simp] theorem ti50_size : ti50.size = 1 := rfl
@[simp] theorem ti50_bytes : ti50.bytes = 8 := rfl
@[simp] theorem ti50_zero : ti50.zero = .int .i64 0 := rfl
@[simp] theorem ti51_td : ti51.td = .func := rfl
@[simp] theorem ti51_size : ti51.size = 1 := rfl
@[simp] theorem ti51_bytes : ti51.bytes = 8 := rfl
@[simp] theorem ti51_zero : ti51.zero = .nilFunc := rfl
@[simp] theorem ti52_td : ti52.td = .func := rfl
@[simp] theorem ti52_size : ti52.size = 1 := rfl
@[simp] theorem ti52_bytes : ti52.bytes = 8 := rfl
@[simp] theorem ti52_zero : ti52.zero = .nilFunc := rfl
@[simp] theorem ti53_td : ti53.td = .ptr 56 := rfl
@[simp] theorem ti53_size : ti53.size = 1 := rfl
@[simp] theorem ti53_bytes : ti53.bytes = 8 := rfl
@[simp] theorem ti53_zero : ti53.zero = .pointer none := rfl
@[simp] theorem ti54_td : ti54.td = .slice 5 := rfl
@[simp] theorem ti54_size : ti54.size = 1 := rfl
@[simp] theorem ti54_bytes : ti54.bytes = 24 := rfl
@[simp] theorem ti54_zero : ti54.zero = .slice none 0 0 := rfl
@[simp] theorem ti55_td : ti55.td = .struct [(0, 53), (1, 54)] := rfl
@[simp] theorem ti55_size : ti55.size = 2 := rfl
@[simp] theorem ti55_bytes : ti55.bytes = 32 := rfl
@[simp] theorem ti55_zero : ti55.zero = .agg #[.pointer none, .slice none 0 0] := rfl
@[simp] theorem ti56_td : ti56.td = .struct [(0, 53), (1, 54)] := rfl
@[simp] theorem ti56_size : ti56.size = 2 := rfl
@[simp] theorem ti56_bytes : ti56.bytes = 32 := rfl
@[simp] theorem ti56_zero : ti56.zero = .agg #[.pointer none, .slice none 0 0] := rfl
@[simp] theorem ti58_td : ti58.td = .func := rfl
@[simp] theorem ti58_size : ti58.size = 1 := rfl
@[simp] theorem ti58_bytes : ti58.bytes = 8 := rfl
@[simp] theorem ti58_zero : ti58.zero = .nilFunc := rfl
@[simp] theorem ti59_td : ti59.td = .func := rfl
@[simp] theorem ti59_size : ti59.size = 1 := rfl
@[simp] theorem ti59_bytes : ti59.bytes = 8 := rfl
@[simp] theorem ti59_zero : ti59.zero = .nilFunc := rfl
@[simp] theorem ti60_td : ti60.td = .func := rfl
@[simp] theorem ti60_size : ti60.size = 1 := rfl
@[simp] theorem ti60_bytes : ti60.bytes = 8 := rfl
@[simp] theorem ti60_zero : ti60.zero = .nilFunc := rfl
@[simp] theorem ti61_td : ti61.td = .func := rfl
@[simp] theorem ti61_size : ti61.size = 1 := rfl
@[simp] theorem ti61_bytes : ti61.bytes = 8 := rfl
@[simp] theorem ti61_zero : ti61.zero = .nilFunc := rfl
@[simp] theorem ti62_td : ti62.td = .func := rfl
@[simp] theorem ti62_size : ti62.size = 1 := rfl
@[simp] theorem ti62_bytes : ti62.bytes = 8 := rfl
@[simp] theorem ti62_zero : ti62.zero = .nilFunc := rfl
@[simp] theorem ti63_td : ti63.td = .ptr 50 := rfl
@[simp] theorem ti63_size : ti63.size = 1 := rfl
@[simp] theorem ti63_bytes : ti63.bytes = 8 := rfl
@[simp] theorem ti63_zero : ti63.zero = .pointer none := rfl
@[simp] theorem ti64_td : ti64.td = .struct [(0, 3), (1, 9)] := rfl
@[simp] theorem ti64_size : ti64.size = 2 := rfl
@[simp] theorem ti64_bytes : ti64.bytes = 24 := rfl
@[simp] theorem ti64_zero : ti64.zero = .agg #[.int .i64 0, .string ⟨#[]⟩] := rfl
@[simp] theorem ti65_td : ti65.td = .struct [(0, 3), (1, 9)] := rfl
@[simp] theorem ti65_size : ti65.size = 2 := rfl
@[simp] theorem ti65_bytes : ti65.bytes = 24 := rfl
@[simp] theorem ti65_zero : ti65.zero = .agg #[.int .i64 0, .string ⟨#[]⟩] := rfl
@[simp] theorem ti66_td : ti66.td = .func := rfl
@[simp] theorem ti66_size : ti66.size = 1 := rfl
@[simp] theorem ti66_bytes : ti66.bytes = 8 := rfl
@[simp] theorem ti66_zero : ti66.zero = .nilFunc := rfl
@[simp] theorem ti67_td : ti67.td = .func := rfl
@[simp] theorem ti67_size : ti67.size = 1 := rfl
@[simp] theorem ti67_bytes : ti67.bytes = 8 := rfl
@[simp] theorem ti67_zero : ti67.zero = .nilFunc := rfl
@[simp] theorem ti68_td : ti68.td = .func := rfl
@[simp] theorem ti68_size : ti68.size = 1 := rfl
@[simp] theorem ti68_bytes : ti68.bytes = 8 := rfl
@[simp] theorem ti68_zero : ti68.zero = .nilFunc := rfl
@[simp] theorem ti69_td : ti69.td = .func := rfl
@[simp] theorem ti69_size : ti69.size = 1 := rfl
@[simp] theorem ti69_bytes : ti69.bytes = 8 := rfl
@[simp] theorem ti69_zero : ti69.zero = .nilFunc := rfl
@[simp] theorem ti70_td : ti70.td = .ptr 73 := rfl
@[simp] theorem ti70_size : ti70.size = 1 := rfl
@[simp] theorem ti70_bytes : ti70.bytes = 8 := rfl
@[simp] theorem ti70_zero : ti70.zero = .pointer none := rfl
@[simp] theorem ti71_td : ti71.td = .func := rfl
@[simp] theorem ti71_size : ti71.size = 1 := rfl
@[simp] theorem ti71_bytes : ti71.bytes = 8 := rfl
@[simp] theorem ti71_zero : ti71.zero = .nilFunc := rfl
@[simp] theorem ti72_td : ti72.td = .struct [(0, 46), (1, 3)] := rfl
@[simp] theorem ti72_size : ti72.size = 2 := rfl
@[simp] theorem ti72_bytes : ti72.bytes = 32 := rfl
@[simp] theorem ti72_zero : ti72.zero = .agg #[.slice none 0 0, .int .i64 0] := rfl
@[simp] theorem ti73_td : ti73.td = .struct [(0, 46), (1, 3)] := rfl
@[simp] theorem ti73_size : ti73.size = 2 := rfl
@[simp] theorem ti73_bytes : ti73.bytes = 32 := rfl
@[simp] theorem ti73_zero : ti73.zero = .agg #[.slice none 0 0, .int .i64 0] := rfl
@[simp] theorem ti74_td : ti74.td = .ptr 78 := rfl
@[simp] theorem ti74_size : ti74.size = 1 := rfl
@[simp] theorem ti74_bytes : ti74.bytes = 8 := rfl
@[simp] theorem ti74_zero : ti74.zero = .pointer none := rfl
@[simp] theorem ti76_td : ti76.td = .func := rfl
@[simp] theorem ti76_size : ti76.size = 1 := rfl
@[simp] theorem ti76_bytes : ti76.bytes = 8 := rfl
@[simp] theorem ti76_zero : ti76.zero = .nilFunc := rfl
@[simp] theorem ti77_td : ti77.td = .struct [(0, 50), (1, 3)] := rfl
@[simp] theorem ti77_size : ti77.size = 2 := rfl
@[simp] theorem ti77_bytes : ti77.bytes = 16 := rfl
@[simp] theorem ti77_zero : ti77.zero = .agg #[.int .i64 0, .int .i64 0] := rfl
@[simp] theorem ti78_td : ti78.td = .struct [(0, 50), (1, 3)] := rfl
@[simp] theorem ti78_size : ti78.size = 2 := rfl
@[simp] theorem ti78_bytes : ti78.bytes = 16 := rfl
@[simp] theorem ti78_zero : ti78.zero = .agg #[.int .i64 0, .int .i64 0] := rfl
@[simp] theorem ti79_td : ti79.td = .struct [(0, 3), (1, 4)] := rfl
@[simp] theorem ti79_size : ti79.size = 2 := rfl
@[simp] theorem ti79_bytes : ti79.bytes = 16 := rfl
@[simp] theorem ti79_zero : ti79.zero = .agg #[.int .i64 0, .bool false] := rfl
@[simp] theorem ti80_td : ti80.td = .struct [(0, 3), (1, 4)] := rfl
@[simp] theorem ti80_size : ti80.size = 2 := rfl
@[simp] theorem ti80_bytes : ti80.bytes = 16 := rfl
@[simp] theorem ti80_zero : ti80.zero = .agg #[.int .i64 0, .bool false] := rfl
@[simp] theorem ti82_td : ti82.td = .func := rfl
@[simp] theorem ti82_size : ti82.size = 1 := rfl
@[simp] theorem ti82_bytes : ti82.bytes = 8 := rfl
@[simp] theorem ti82_zero : ti82.zero = .nilFunc := rfl
@[simp] theorem ti83_td : ti83.td = .func := rfl
@[simp] theorem ti83_size : ti83.size = 1 := rfl
@[simp] theorem ti83_bytes : ti83.bytes = 8 := rfl
@[simp] theorem ti83_zero : ti83.zero = .nilFunc := rfl
@[simp] theorem ti84_td : ti84.td = .func := rfl
@[simp] theorem ti84_size : ti84.size = 1 := rfl
@[simp] theorem ti84_bytes : ti84.bytes = 8 := rfl
@[simp] theorem ti84_zero : ti84.zero = .nilFunc := rfl
@[simp] theorem ti85_td : ti85.td = .ptr 5 := rfl
@[simp] theorem ti85_size : ti85.size = 1 := rfl
@[simp] theorem ti85_bytes : ti85.bytes = 8 := rfl
@[simp] theorem ti85_zero : ti85.zero = .pointer none := rfl
@[simp] theorem ti86_td : ti86.td = .func := rfl
@[simp] theorem ti86_size : ti86.size = 1 := rfl
@[simp] theorem ti86_bytes : ti86.bytes = 8 := rfl
@[simp] theorem ti86_zero : ti86.zero = .nilFunc := rfl
@[simp] theorem ti87_td : ti87.td = .unsafeptr := rfl
@[simp] theorem ti87_size : ti87.size = 1 := rfl
@[simp] theorem ti87_bytes : ti87.bytes = 8 := rfl
@[simp] theorem ti87_zero : ti87.zero = .pointer none := rfl
@[simp] theorem ti88_td : ti88.td = .int .u64 := rfl
@[simp] theorem ti88_size : ti88.size = 1 := rfl
@[simp] theorem ti88_bytes : ti88.bytes = 8 := rfl
@[simp] theorem ti88_zero : ti88.zero = .int .u64 0 := rfl
@[simp] theorem ti89_td : ti89.td = .struct [(0, 17), (1, 87), (2, 88)] := rfl
@[simp] theorem ti89_size : ti89.size = 3 := rfl
@[simp] theorem ti89_bytes : ti89.bytes = 24 := rfl
@[simp] theorem ti89_zero : ti89.zero = .agg #[.pointer none, .pointer none, .int .u64 0] := rfl
@[simp] theorem ti90_td : ti90.td = .struct [(0, 17), (1, 87), (2, 88)] := rfl
@[simp] theorem ti90_size : ti90.size = 3 := rfl
@[simp] theorem ti90_bytes : ti90.bytes = 24 := rfl
@[simp] theorem ti90_zero : ti90.zero = .agg #[.pointer none, .pointer none, .int .u64 0] := rfl
@[simp] theorem ti91_td : ti91.td = .func := rfl
@[simp] theorem ti91_size : ti91.size = 1 := rfl
@[simp] theorem ti91_bytes : ti91.bytes = 8 := rfl
@[simp] theorem ti91_zero : ti91.zero = .nilFunc := rfl
@[simp] theorem ti92_td : ti92.td = .iface 11 := rfl
@[simp] theorem ti92_size : ti92.size = 1 := rfl
@[simp] theorem ti92_bytes : ti92.bytes = 16 := rfl
@[simp] theorem ti92_zero : ti92.zero = .nilIface := rfl
@[simp] theorem ti93_td : ti93.td = .iface 11 := rfl
@[simp] theorem ti93_size : ti93.size = 1 := rfl
@[simp] theorem ti93_bytes : ti93.bytes = 16 := rfl
@[simp] theorem ti93_zero : ti93.zero = .nilIface := rfl
@[simp] theorem ti94_td : ti94.td = .func := rfl
@[simp] theorem ti94_size : ti94.size = 1 := rfl
@[simp] theorem ti94_bytes : ti94.bytes = 8 := rfl
@[simp] theorem ti94_zero : ti94.zero = .nilFunc := rfl
@[simp] theorem ti95_td : ti95.td = .int .u8 := rfl
@[simp] theorem ti95_size : ti95.size = 1 := rfl
@[simp] theorem ti95_bytes : ti95.bytes = 1 := rfl
@[simp] theorem ti95_zero : ti95.zero = .int .u8 0 := rfl
@[simp] theorem ti96_td : ti96.td = .func := rfl
@[simp] theorem ti96_size : ti96.size = 1 := rfl
@[simp] theorem ti96_bytes : ti96.bytes = 8 := rfl
@[simp] theorem ti96_zero : ti96.zero = .nilFunc := rfl
@[simp] theorem ti97_td : ti97.td = .func := rfl
@[simp] theorem ti97_size : ti97.size = 1 := rfl
@[simp] theorem ti97_bytes : ti97.bytes = 8 := rfl
@[simp] theorem ti97_zero : ti97.zero = .nilFunc := rfl
@[simp] theorem ti98_td : ti98.td = .func := rfl
@[simp] theorem ti98_size : ti98.size = 1 := rfl
@[simp] theorem ti98_bytes : ti98.bytes = 8 := rfl
@[simp] theorem ti98_zero : ti98.zero = .nilFunc := rfl
@[simp] theorem ti99_td : ti99.td = .func := rfl
@[simp] theorem ti99_size : ti99.size = 1 := rfl
@[simp] theorem ti99_bytes : ti99.bytes = 8 := rfl
@[simp] theorem ti99_zero : ti99.zero = .nilFunc := rfl
@[simp] theorem ti101_td : ti101.td = .func := rfl
@[simp] theorem ti101_size : ti101.size = 1 := rfl
@[simp] theorem ti101_bytes : ti101.bytes = 8 := rfl
@[simp] theorem ti101_zero : ti101.zero = .nilFunc := rfl
@[simp] theorem ti102_td : ti102.td = .func := rfl
@[simp] theorem ti102_size : ti102.size = 1 := rfl
@[simp] theorem ti102_bytes : ti102.bytes = 8 := rfl
@[simp] theorem ti102_zero : ti102.zero = .nilFunc := rfl
@[simp] theorem ti103_td : ti103.td = .func := rfl
@[simp] theorem ti103_size : ti103.size = 1 := rfl
@[simp] theorem ti103_bytes : ti103.bytes = 8 := rfl
@[simp] theorem ti103_zero : ti103.zero = .nilFunc := rfl
@[simp] theorem ti105_td : ti105.td = .func := rfl
@[simp] theorem ti105_size : ti105.size = 1 := rfl
@[simp] theorem ti105_bytes : ti105.bytes = 8 := rfl
@[simp] theorem ti105_zero : ti105.zero = .nilFunc := rfl
@[simp] theorem ti107_td : ti107.td = .func := rfl
@[simp] theorem ti107_size : ti107.size = 1 := rfl
@[simp] theorem ti107_bytes : ti107.bytes = 8 := rfl
@[simp] theorem ti107_zero : ti107.zero = .nilFunc := rfl
@[simp] theorem ti108_td : ti108.td = .func := rfl
@[simp] theorem ti108_size : ti108.size = 1 := rfl
@[simp] theorem ti108_bytes : ti108.bytes = 8 := rfl
@[simp] theorem ti108_zero : ti108.zero = .nilFunc := rfl
@[simp] theorem ti109_td : ti109.td = .func := rfl
@[simp] theorem ti109_size : ti109.size = 1 := rfl
@[simp] theorem ti109_bytes : ti109.bytes = 8 := rfl
@[simp] theorem ti109_zero : ti109.zero = .nilFunc := rfl
@[simp] theorem ti111_td : ti111.td = .func := rfl
@[simp] theorem ti111_size : ti111.size = 1 := rfl
@[simp] theorem ti111_bytes : ti111.bytes = 8 := rfl
@[simp] theorem ti111_zero : ti111.zero = .nilFunc := rfl
@[simp] theorem ti112_td : ti112.td = .func := rfl
@[simp] theorem ti112_size : ti112.size = 1 := rfl
@[simp] theorem ti112_bytes : ti112.bytes = 8 := rfl
@[simp] theorem ti112_zero : ti112.zero = .nilFunc := rfl
@[simp] theorem ti113_td : ti113.td = .int .u64 := rfl
@[simp] theorem ti113_size : ti113.size = 1 := rfl
@[simp] theorem ti113_bytes : ti113.bytes = 8 := rfl
@[simp] theorem ti113_zero : ti113.zero = .int .u64 0 := rfl
@[simp] theorem ti114_td : ti114.td = .func := rfl
@[simp] theorem ti114_size : ti114.size = 1 := rfl
@[simp] theorem ti114_bytes : ti114.bytes = 8 := rfl
@[simp] theorem ti114_zero : ti114.zero = .nilFunc := rfl
@[simp] theorem ti115_td : ti115.td = .func := rfl
@[simp] theorem ti115_size : ti115.size = 1 := rfl
@[simp] theorem ti115_bytes : ti115.bytes = 8 := rfl
@[simp] theorem ti115_zero : ti115.zero = .nilFunc := rfl
@[simp] theorem ti116_td : ti116.td = .struct [(0, 17)] := rfl
@[simp] theorem ti116_size : ti116.size = 1 := rfl
@[simp] theorem ti116_bytes : ti116.bytes = 8 := rfl
@[simp] theorem ti116_zero : ti116.zero = .agg #[.pointer none] := rfl
@[simp] theorem ti117_td : ti117.td = .struct [(0, 17)] := rfl
@[simp] theorem ti117_size : ti117.size = 1 := rfl
@[simp] theorem ti117_bytes : ti117.bytes = 8 := rfl
@[simp] theorem ti117_zero : ti117.zero = .agg #[.pointer none] := rfl
@[simp] theorem ti118_td : ti118.td = .ptr 189 := rfl
@[simp] theorem ti118_size : ti118.size = 1 := rfl
@[simp] theorem ti118_bytes : ti118.bytes = 8 := rfl
@[simp] theorem ti118_zero : ti118.zero = .pointer none := rfl
@[simp] theorem ti119_td : ti119.td = .func := rfl
@[simp] theorem ti119_size : ti119.size = 1 := rfl
@[simp] theorem ti119_bytes : ti119.bytes = 8 := rfl
@[simp] theorem ti119_zero : ti119.zero = .nilFunc := rfl
@[simp] theorem ti120_td : ti120.td = .func := rfl
@[simp] theorem ti120_size : ti120.size = 1 := rfl
@[simp] theorem ti120_bytes : ti120.bytes = 8 := rfl
@[simp] theorem ti120_zero : ti120.zero = .nilFunc := rfl
@[simp] theorem ti121_td : ti121.td = .func := rfl
@[simp] theorem ti121_size : ti121.size = 1 := rfl
@[simp] theorem ti121_bytes : ti121.bytes = 8 := rfl
@[simp] theorem ti121_zero : ti121.zero = .nilFunc := rfl
@[simp] theorem ti122_td : ti122.td = .iface 1 := rfl
@[simp] theorem ti122_size : ti122.size = 1 := rfl
@[simp] theorem ti122_bytes : ti122.bytes = 16 := rfl
@[simp] theorem ti122_zero : ti122.zero = .nilIface := rfl
@[simp] theorem ti124_td : ti124.td = .func := rfl
@[simp] theorem ti124_size : ti124.size = 1 := rfl
@[simp] theorem ti124_bytes : ti124.bytes = 8 := rfl
@[simp] theorem ti124_zero : ti124.zero = .nilFunc := rfl
@[simp] theorem ti125_td : ti125.td = .iface 1 := rfl
@[simp] theorem ti125_size : ti125.size = 1 := rfl
@[simp] theorem ti125_bytes : ti125.bytes = 16 := rfl
@[simp] theorem ti125_zero : ti125.zero = .nilIface := rfl
@[simp] theorem ti126_td : ti126.td = .func := rfl
@[simp] theorem ti126_size : ti126.size = 1 := rfl
@[simp] theorem ti126_bytes : ti126.bytes = 8 := rfl
@[simp] theorem ti126_zero : ti126.zero = .nilFunc := rfl
@[simp] theorem ti127_td : ti127.td = .iface 1 := rfl
@[simp] theorem ti127_size : ti127.size = 1 := rfl
@[simp] theorem ti127_bytes : ti127.bytes = 16 := rfl
@[simp] theorem ti127_zero : ti127.zero = .nilIface := rfl
@[simp] theorem ti128_td : ti128.td = .slice 27 := rfl
@[simp] theorem ti128_size : ti128.size = 1 := rfl
@[simp] theorem ti128_bytes : ti128.bytes = 24 := rfl
@[simp] theorem ti128_zero : ti128.zero = .slice none 0 0 := rfl
@[simp] theorem ti129_td : ti129.td = .func := rfl
@[simp] theorem ti129_size : ti129.size = 1 := rfl
@[simp] theorem ti129_bytes : ti129.bytes = 8 := rfl
@[simp] theorem ti129_zero : ti129.zero = .nilFunc := rfl
@[simp] theorem ti130_td : ti130.td = .func := rfl
@[simp] theorem ti130_size : ti130.size = 1 := rfl
@[simp] theorem ti130_bytes : ti130.bytes = 8 := rfl
@[simp] theorem ti130_zero : ti130.zero = .nilFunc := rfl
@[simp] theorem ti132_td : ti132.td = .func := rfl
@[simp] theorem ti132_size : ti132.size = 1 := rfl
@[simp] theorem ti132_bytes : ti132.bytes = 8 := rfl
@[simp] theorem ti132_zero : ti132.zero = .nilFunc := rfl
@[simp] theorem ti133_td : ti133.td = .func := rfl
@[simp] theorem ti133_size : ti133.size = 1 := rfl
@[simp] theorem ti133_bytes : ti133.bytes = 8 := rfl
@[simp] theorem ti133_zero : ti133.zero = .nilFunc := rfl
@[simp] theorem ti135_td : ti135.td = .func := rfl
@[simp] theorem ti135_size : ti135.size = 1 := rfl
@[simp] theorem ti135_bytes : ti135.bytes = 8 := rfl
@[simp] theorem ti135_zero : ti135.zero = .nilFunc := rfl
@[simp] theorem ti136_td : ti136.td = .func := rfl
@[simp] theorem ti136_size : ti136.size = 1 := rfl
@[simp] theorem ti136_bytes : ti136.bytes = 8 := rfl
@[simp] theorem ti136_zero : ti136.zero = .nilFunc := rfl
@[simp] theorem ti137_td : ti137.td = .ptr 37 := rfl
@[simp] theorem ti137_size : ti137.size = 1 := rfl
@[simp] theorem ti137_bytes : ti137.bytes = 8 := rfl
@[simp] theorem ti137_zero : ti137.zero = .pointer none := rfl
@[simp] theorem ti138_td : ti138.td = .func := rfl
@[simp] theorem ti138_size : ti138.size = 1 := rfl
@[simp] theorem ti138_bytes : ti138.bytes = 8 := rfl
@[simp] theorem ti138_zero : ti138.zero = .nilFunc := rfl
@[simp] theorem ti139_td : ti139.td = .func := rfl
@[simp] theorem ti139_size : ti139.size = 1 := rfl
@[simp] theorem ti139_bytes : ti139.bytes = 8 := rfl
@[simp] theorem ti139_zero : ti139.zero = .nilFunc := rfl
@[simp] theorem ti140_td : ti140.td = .array 256 4 := rfl
@[simp] theorem ti140_size : ti140.size = 256 := rfl
@[simp] theorem ti140_bytes : ti140.bytes = 256 := rfl
@[simp] theorem ti140_zero : ti140.zero = .agg #[.bool false, .bool false, .bool false, .bool false, .bool false, .bool false, .bool false, .bool false, .bool false, .bool false, .bool false, .bool false, .bool false, .bool false, .bool false, .bool false, .bool false, .bool false, .bool false, .bool false, .bool false, .bool false, .bool false, .bool false, .bool false, .bool false, .bool false, .bool false, .bool false, .bool false, .bool false, .bool false, .bool false, .bool false, .bool false, .bool false, .bool false, .bool false, .bool false, .bool false, .bool false, .bool false, .bool false, .bool false, .bool false, .bool false, .bool false, .bool false, .bool false, .bool false, .bool false, .bool false, .bool false, .bool false, .bool false, .bool false, .bool false, .bool false, .bool false, .bool false, .bool false, .bool false, .bool false, .bool false, .bool false, .bool false, .bool false, .bool false, .bool false, .bool false, .bool false, .bool false, .bool false, .bool false, .bool false, .bool false, .bool false, .bool false, .bool false, .bool false, .bool false, .bool false, .bool false, .bool false, .bool false, .bool false, .bool false, .bool false, .bool false, .bool false, .bool false, .bool false, .bool false, .bool false, .bool false, .bool false, .bool false, .bool false, .bool false, .bool false, .bool false, .bool false, .bool false, .bool false, .bool false, .bool false, .bool false, .bool false, .bool false, .bool false, .bool false, .bool false, .bool false, .bool false, .bool false, .bool false, .bool false, .bool false, .bool false, .bool false, .bool false, .bool false, .bool false, .bool false, .bool false, .bool false, .bool false, .bool false, .bool false, .bool false, .bool false, .bool false, .bool false, .bool false, .bool false, .bool false, .bool false, .bool false, .bool false, .bool false, .bool false, .bool false, .bool false, .bool false, .bool false, .bool false, .bool false, .bool false, .bool false, .bool false, .bool false, .bool false, .bool false, .bool false, .bool false, .bool false, .bool false, .bool false, .bool false, .bool false, .bool false, .bool false, .bool false, .bool false, .bool false, .bool false, .bool false, .bool false, .bool false, .bool false, .bool false, .bool false, .bool false, .bool false, .bool false, .bool false, .bool false, .bool false, .bool false, .bool false, .bool false, .bool false, .bool false, .bool false, .bool false, .bool false, .bool false, .bool false, .bool false, .bool false, .bool false, .bool false, .bool false, .bool false, .bool false, .bool false, .bool false, .bool false, .bool false, .bool false, .bool false, .bool false, .bool false, .bool false, .bool false, .bool false, .bool false, .bool false, .bool false, .bool false, .bool false, .bool false, .bool false, .bool false, .bool false, .bool false, .bool false, .bool false, .bool false, .bool false, .bool false, .bool false, .bool false, .bool false, .bool false, .bool false, .bool false, .bool false, .bool false, .bool false, .bool false, .bool false, .bool false, .bool false, .bool false, .bool false, .bool false, .bool false, .bool false, .bool false, .bool false, .bool false, .bool false, .bool false, .bool false, .bool false, .bool false, .bool false, .bool false, .bool false, .bool false, .bool false, .bool false, .bool false, .bool false, .bool false] := rfl
@[simp] theorem ti141_td : ti141.td = .array 256 4 := rfl
@[simp] theorem ti141_size : ti141.size = 256 := rfl
@[simp] theorem ti141_bytes : ti141.bytes = 256 := rfl
@[simp] theorem ti141_zero : ti141.zero = .agg #[.bool false, .bool false, .bool false, .bool false, .bool false, .bool false, .bool false, .bool false, .bool false, .bool false, .bool false, .bool false, .bool false, .bool false, .bool false, .bool false, .bool false, .bool false, .bool false, .bool false, .bool false, .bool false, .bool false, .bool false, .bool false, .bool false, .bool false, .bool false, .bool false, .bool false, .bool false, .bool false, .bool false, .bool false, .bool false, .bool false, .bool false, .bool false, .bool false, .bool false, .bool false, .bool false, .bool false, .bool false, .bool false, .bool false, .bool false, .bool false, .bool false, .bool false, .bool false, .bool false, .bool false, .bool false, .bool false, .bool false, .bool false, .bool false, .bool false, .bool false, .bool false, .bool false, .bool false, .bool false, .bool false, .bool false, .bool false, .bool false, .bool false, .bool false, .bool false, .bool false, .bool false, .bool false, .bool false, .bool false, .bool false, .bool false, .bool false, .bool false, .bool false, .bool false, .bool false, .bool false, .bool false, .bool false, .bool false, .bool false, .bool false, .bool false, .bool false, .bool false, .bool false, .bool false, .bool false, .bool false, .bool false, .bool false, .bool false, .bool false, .bool false, .bool false, .bool false, .bool false, .bool false, .bool false, .bool false, .bool false, .bool false, .bool false, .bool false, .bool false, .bool false, .bool false, .bool false, .bool false, .bool false, .bool false, .bool false, .bool false, .bool false, .bool false, .bool false, .bool false, .bool false, .bool false, .bool false, .bool false, .bool false, .bool false, .bool false, .bool false, .bool false, .bool false, .bool false, .bool false, .bool false, .bool false, .bool false, .bool false, .bool false, .bool false, .bool false, .bool false, .bool false, .bool false, .bool false, .bool false, .bool false, .bool false, .bool false, .bool false, .bool false, .bool false, .bool false, .bool false, .bool false, .bool false, .bool false, .bool false, .bool false, .bool false, .bool false, .bool false, .bool false, .bool false, .bool false, .bool false, .bool false, .bool false, .bool false, .bool false, .bool false, .bool false, .bool false, .bool false, .bool false, .bool false, .bool false, .bool false, .bool false, .bool false, .bool false, .bool false, .bool false, .bool false, .bool false, .bool false, .bool false, .bool false, .bool false, .bool false, .bool false, .bool false, .bool false, .bool false, .bool false, .bool false, .bool false, .bool false, .bool false, .bool false, .bool false, .bool false, .bool false, .bool false, .bool false, .bool false, .bool false, .bool false, .bool false, .bool false, .bool false, .bool false, .bool false, .bool false, .bool false, .bool false, .bool false, .bool false, .bool false, .bool false, .bool false, .bool false, .bool false, .bool false, .bool false, .bool false, .bool false, .bool false, .bool false, .bool false, .bool false, .bool false, .bool false, .bool false, .bool false, .bool false, .bool false, .bool false, .bool false, .bool false, .bool false, .bool false, .bool false, .bool false, .bool false, .bool false, .bool false, .bool false, .bool false, .bool false, .bool false, .bool false, .bool false, .bool false] := rfl
@[simp] theorem ti143_td : ti143.td = .func := rfl
@[simp] theorem ti143_size : ti143.size = 1 := rfl
@[simp] theorem ti143_bytes : ti143.bytes = 8 := rfl
@[simp] theorem ti143_zero : ti143.zero = .nilFunc := rfl
@[simp] theorem ti144_td : ti144.td = .func := rfl
@[simp] theorem ti144_size : ti144.size = 1 := rfl
@[simp] theorem ti144_bytes : ti144.bytes = 8 := rfl
@[simp] theorem ti144_zero : ti144.zero = .nilFunc := rfl
@[simp] theorem ti145_td : ti145.td = .ptr 80 := rfl
@[simp] theorem ti145_size : ti145.size = 1 := rfl
@[simp] theorem ti145_bytes : ti145.bytes = 8 := rfl
@[simp] theorem ti145_zero : ti145.zero = .pointer none := rfl
@[simp] theorem ti146_td : ti146.td = .func := rfl
@[simp] theorem ti146_size : ti146.size = 1 := rfl
@[simp] theorem ti146_bytes : ti146.bytes = 8 := rfl
@[simp] theorem ti146_zero : ti146.zero = .nilFunc := rfl
@[simp] theorem ti147_td : ti147.td = .func := rfl
@[simp] theorem ti147_size : ti147.size = 1 := rfl
@[simp] theorem ti147_bytes : ti147.bytes = 8 := rfl
@[simp] theorem ti147_zero : ti147.zero = .nilFunc := rfl
@[simp] theorem ti148_td : ti148.td = .func := rfl
@[simp] theorem ti148_size : ti148.size = 1 := rfl
@[simp] theorem ti148_bytes : ti148.bytes = 8 := rfl
@[simp] theorem ti148_zero : ti148.zero = .nilFunc := rfl
@[simp] theorem ti150_td : ti150.td = .func := rfl
@[simp] theorem ti150_size : ti150.size = 1 := rfl
@[simp] theorem ti150_bytes : ti150.bytes = 8 := rfl
@[simp] theorem ti150_zero : ti150.zero = .nilFunc := rfl
@[simp] theorem ti151_td : ti151.td = .ptr 65 := rfl
@[simp] theorem ti151_size : ti151.size = 1 := rfl
@[simp] theorem ti151_bytes : ti151.bytes = 8 := rfl
@[simp] theorem ti151_zero : ti151.zero = .pointer none := rfl
@[simp] theorem ti152_td : ti152.td = .func := rfl
@[simp] theorem ti152_size : ti152.size = 1 := rfl
@[simp] theorem ti152_bytes : ti152.bytes = 8 := rfl
@[simp] theorem ti152_zero : ti152.zero = .nilFunc := rfl
@[simp] theorem ti153_td : ti153.td = .func := rfl
@[simp] theorem ti153_size : ti153.size = 1 := rfl
@[simp] theorem ti153_bytes : ti153.bytes = 8 := rfl
@[simp] theorem ti153_zero : ti153.zero = .nilFunc := rfl
@[simp] theorem ti154_td : ti154.td = .ptr 141 := rfl
@[simp] theorem ti154_size : ti154.size = 1 := rfl
@[simp] theorem ti154_bytes : ti154.bytes = 8 := rfl
@[simp] theorem ti154_zero : ti154.zero = .pointer none := rfl
@[simp] theorem ti155_td : ti155.td = .array 24 5 := rfl
@[simp] theorem ti155_size : ti155.size = 24 := rfl
@[simp] theorem ti155_bytes : ti155.bytes = 24 := rfl
@[simp] theorem ti155_zero : ti155.zero = .agg #[.int .u8 0, .int .u8 0, .int .u8 0, .int .u8 0, .int .u8 0, .int .u8 0, .int .u8 0, .int .u8 0, .int .u8 0, .int .u8 0, .int .u8 0, .int .u8 0, .int .u8 0, .int .u8 0, .int .u8 0, .int .u8 0, .int .u8 0, .int .u8 0, .int .u8 0, .int .u8 0, .int .u8 0, .int .u8 0, .int .u8 0, .int .u8 0] := rfl
@[simp] theorem ti156_td : ti156.td = .int .u64 := rfl
@[simp] theorem ti156_size : ti156.size = 1 := rfl
@[simp] theorem ti156_bytes : ti156.bytes = 8 := rfl
@[simp] theorem ti156_zero : ti156.zero = .int .u64 0 := rfl
@[simp] theorem ti157_td : ti157.td = .func := rfl
@[simp] theorem ti157_size : ti157.size = 1 := rfl
@[simp] theorem ti157_bytes : ti157.bytes = 8 := rfl
@[simp] theorem ti157_zero : ti157.zero = .nilFunc := rfl
@[simp] theorem ti158_td : ti158.td = .func := rfl
@[simp] theorem ti158_size : ti158.size = 1 := rfl
@[simp] theorem ti158_bytes : ti158.bytes = 8 := rfl
@[simp] theorem ti158_zero : ti158.zero = .nilFunc := rfl
@[simp] theorem ti160_td : ti160.td = .func := rfl
@[simp] theorem ti160_size : ti160.size = 1 := rfl
@[simp] theorem ti160_bytes : ti160.bytes = 8 := rfl
@[simp] theorem ti160_zero : ti160.zero = .nilFunc := rfl
@[simp] theorem ti162_td : ti162.td = .func := rfl
@[simp] theorem ti162_size : ti162.size = 1 := rfl
@[simp] theorem ti162_bytes : ti162.bytes = 8 := rfl
@[simp] theorem ti162_zero : ti162.zero = .nilFunc := rfl
@[simp] theorem ti163_td : ti163.td = .int .u32 := rfl
@[simp] theorem ti163_size : ti163.size = 1 := rfl
@[simp] theorem ti163_bytes : ti163.bytes = 4 := rfl
@[simp] theorem ti163_zero : ti163.zero = .int .u32 0 := rfl
@[simp] theorem ti165_td : ti165.td = .func := rfl
@[simp] theorem ti165_size : ti165.size = 1 := rfl
@[simp] theorem ti165_bytes : ti165.bytes = 8 := rfl
@[simp] theorem ti165_zero : ti165.zero = .nilFunc := rfl
@[simp] theorem ti166_td : ti166.td = .func := rfl
@[simp] theorem ti166_size : ti166.size = 1 := rfl
@[simp] theorem ti166_bytes : ti166.bytes = 8 := rfl
@[simp] theorem ti166_zero : ti166.zero = .nilFunc := rfl
@[simp] theorem ti167_td : ti167.td = .array 20 156 := rfl
@[simp] theorem ti167_size : ti167.size = 20 := rfl
@[simp] theorem ti167_bytes : ti167.bytes = 160 := rfl
@[simp] theorem ti167_zero : ti167.zero = .agg #[.int .u64 0, .int .u64 0, .int .u64 0, .int .u64 0, .int .u64 0, .int .u64 0, .int .u64 0, .int .u64 0, .int .u64 0, .int .u64 0, .int .u64 0, .int .u64 0, .int .u64 0, .int .u64 0, .int .u64 0, .int .u64 0, .int .u64 0, .int .u64 0, .int .u64 0, .int .u64 0] := rfl
@[simp] theorem ti168_td : ti168.td = .array 65 5 := rfl
@[simp] theorem ti168_size : ti168.size = 65 := rfl
@[simp] theorem ti168_bytes : ti168.bytes = 65 := rfl
@[simp] theorem ti168_zero : ti168.zero = .agg #[.int .u8 0, .int .u8 0, .int .u8 0, .int .u8 0, .int .u8 0, .int .u8 0, .int .u8 0, .int .u8 0, .int .u8 0, .int .u8 0, .int .u8 0, .int .u8 0, .int .u8 0, .int .u8 0, .int .u8 0, .int .u8 0, .int .u8 0, .int .u8 0, .int .u8 0, .int .u8 0, .int .u8 0, .int .u8 0, .int .u8 0, .int .u8 0, .int .u8 0, .int .u8 0, .int .u8 0, .int .u8 0, .int .u8 0, .int .u8 0, .int .u8 0, .int .u8 0, .int .u8 0, .int .u8 0, .int .u8 0, .int .u8 0, .int .u8 0, .int .u8 0, .int .u8 0, .int .u8 0, .int .u8 0, .int .u8 0, .int .u8 0, .int .u8 0, .int .u8 0, .int .u8 0, .int .u8 0, .int .u8 0, .int .u8 0, .int .u8 0, .int .u8 0, .int .u8 0, .int .u8 0, .int .u8 0, .int .u8 0, .int .u8 0, .int .u8 0, .int .u8 0, .int .u8 0, .int .u8 0, .int .u8 0, .int .u8 0, .int .u8 0, .int .u8 0, .int .u8 0] := rfl
@[simp] theorem ti169_td : ti169.td = .func := rfl
@[simp] theorem ti169_size : ti169.size = 1 := rfl
@[simp] theorem ti169_bytes : ti169.bytes = 8 := rfl
@[simp] theorem ti169_zero : ti169.zero = .nilFunc := rfl
@[simp] theorem ti170_td : ti170.td = .func := rfl
@[simp] theorem ti170_size : ti170.size = 1 := rfl
@[simp] theorem ti170_bytes : ti170.bytes = 8 := rfl
@[simp] theorem ti170_zero : ti170.zero = .nilFunc := rfl
@[simp] theorem ti171_td : ti171.td = .array 32 5 := rfl
@[simp] theorem ti171_size : ti171.size = 32 := rfl
@[simp] theorem ti171_bytes : ti171.bytes = 32 := rfl
@[simp] theorem ti171_zero : ti171.zero = .agg #[.int .u8 0, .int .u8 0, .int .u8 0, .int .u8 0, .int .u8 0, .int .u8 0, .int .u8 0, .int .u8 0, .int .u8 0, .int .u8 0, .int .u8 0, .int .u8 0, .int .u8 0, .int .u8 0, .int .u8 0, .int .u8 0, .int .u8 0, .int .u8 0, .int .u8 0, .int .u8 0, .int .u8 0, .int .u8 0, .int .u8 0, .int .u8 0, .int .u8 0, .int .u8 0, .int .u8 0, .int .u8 0, .int .u8 0, .int .u8 0, .int .u8 0, .int .u8 0] := rfl
@[simp] theorem ti172_td : ti172.td = .array 64 5 := rfl
@[simp] theorem ti172_size : ti172.size = 64 := rfl
@[simp] theorem ti172_bytes : ti172.bytes = 64 := rfl
@[simp] theorem ti172_zero : ti172.zero = .agg #[.int .u8 0, .int .u8 0, .int .u8 0, .int .u8 0, .int .u8 0, .int .u8 0, .int .u8 0, .int .u8 0, .int .u8 0, .int .u8 0, .int .u8 0, .int .u8 0, .int .u8 0, .int .u8 0, .int .u8 0, .int .u8 0, .int .u8 0, .int .u8 0, .int .u8 0, .int .u8 0, .int .u8 0, .int .u8 0, .int .u8 0, .int .u8 0, .int .u8 0, .int .u8 0, .int .u8 0, .int .u8 0, .int .u8 0, .int .u8 0, .int .u8 0, .int .u8 0, .int .u8 0, .int .u8 0, .int .u8 0, .int .u8 0, .int .u8 0, .int .u8 0, .int .u8 0, .int .u8 0, .int .u8 0, .int .u8 0, .int .u8 0, .int .u8 0, .int .u8 0, .int .u8 0, .int .u8 0, .int .u8 0, .int .u8 0, .int .u8 0, .int .u8 0, .int .u8 0, .int .u8 0, .int .u8 0, .int .u8 0, .int .u8 0, .int .u8 0, .int .u8 0, .int .u8 0, .int .u8 0, .int .u8 0, .int .u8 0, .int .u8 0, .int .u8 0] := rfl
@[simp] theorem ti173_td : ti173.td = .struct [(0, 17), (1, 17), (2, 17), (3, 9)] := rfl
@[simp] theorem ti173_size : ti173.size = 4 := rfl
@[simp] theorem ti173_bytes : ti173.bytes = 40 := rfl
@[simp] theorem ti173_zero : ti173.zero = .agg #[.pointer none, .pointer none, .pointer none, .string ⟨#[]⟩] := rfl
@[simp] theorem ti174_td : ti174.td = .struct [(0, 17), (1, 17), (2, 17), (3, 9)] := rfl
@[simp] theorem ti174_size : ti174.size = 4 := rfl
@[simp] theorem ti174_bytes : ti174.bytes = 40 := rfl
@[simp] theorem ti174_zero : ti174.zero = .agg #[.pointer none, .pointer none, .pointer none, .string ⟨#[]⟩] := rfl
@[simp] theorem ti175_td : ti175.td = .array 0 16 := rfl
@[simp] theorem ti175_size : ti175.size = 0 := rfl
@[simp] theorem ti175_bytes : ti175.bytes = 0 := rfl
@[simp] theorem ti175_zero : ti175.zero = .agg #[] := rfl
@[simp] theorem ti176_td : ti176.td = .struct [(0, 175)] := rfl
@[simp] theorem ti176_size : ti176.size = 0 := rfl
@[simp] theorem ti176_bytes : ti176.bytes = 0 := rfl
@[simp] theorem ti176_zero : ti176.zero = .agg #[] := rfl
@[simp] theorem ti177_td : ti177.td = .struct [(0, 175)] := rfl
@[simp] theorem ti177_size : ti177.size = 0 := rfl
@[simp] theorem ti177_bytes : ti177.bytes = 0 := rfl
@[simp] theorem ti177_zero : ti177.zero = .agg #[] := rfl
@[simp] theorem ti178_td : ti178.td = .func := rfl
@[simp] theorem ti178_size : ti178.size = 1 := rfl
@[simp] theorem ti178_bytes : ti178.bytes = 8 := rfl
@[simp] theorem ti178_zero : ti178.zero = .nilFunc := rfl
@[simp] theorem ti179_td : ti179.td = .func := rfl
@[simp] theorem ti179_size : ti179.size = 1 := rfl
@[simp] theorem ti179_bytes : ti179.bytes = 8 := rfl
@[simp] theorem ti179_zero : ti179.zero = .nilFunc := rfl
@[simp] theorem ti180_td : ti180.td = .int .u8 := rfl
@[simp] theorem ti180_size : ti180.size = 1 := rfl
@[simp] theorem ti180_bytes : ti180.bytes = 1 := rfl
@[simp] theorem ti180_zero : ti180.zero = .int .u8 0 := rfl
@[simp] theorem ti181_td : ti181.td = .func := rfl
@[simp] theorem ti181_size : ti181.size = 1 := rfl
@[simp] theorem ti181_bytes : ti181.bytes = 8 := rfl
@[simp] theorem ti181_zero : ti181.zero = .nilFunc := rfl
@[simp] theorem ti182_td : ti182.td = .int .i32 := rfl
@[simp] theorem ti182_size : ti182.size = 1 := rfl
@[simp] theorem ti182_bytes : ti182.bytes = 4 := rfl
@[simp] theorem ti182_zero : ti182.zero = .int .i32 0 := rfl
@[simp] theorem ti183_td : ti183.td = .int .i32 := rfl
@[simp] theorem ti183_size : ti183.size = 1 := rfl
@[simp] theorem ti183_bytes : ti183.bytes = 4 := rfl
@[simp] theorem ti183_zero : ti183.zero = .int .i32 0 := rfl
@[simp] theorem ti184_td : ti184.td = .struct [(0, 12), (1, 12), (2, 163), (3, 180), (4, 5), (5, 5), (6, 95), (7, 181), (8, 85), (9, 182), (10, 183)] := rfl
@[simp] theorem ti184_size : ti184.size = 11 := rfl
@[simp] theorem ti184_bytes : ti184.bytes = 48 := rfl
@[simp] theorem ti184_zero : ti184.zero = .agg #[.int .u64 0, .int .u64 0, .int .u32 0, .int .u8 0, .int .u8 0, .int .u8 0, .int .u8 0, .nilFunc, .pointer none, .int .i32 0, .int .i32 0] := rfl
@[simp] theorem ti185_td : ti185.td = .struct [(0, 12), (1, 12), (2, 163), (3, 180), (4, 5), (5, 5), (6, 95), (7, 181), (8, 85), (9, 182), (10, 183)] := rfl
@[simp] theorem ti185_size : ti185.size = 11 := rfl
@[simp] theorem ti185_bytes : ti185.bytes = 48 := rfl
@[simp] theorem ti185_zero : ti185.zero = .agg #[.int .u64 0, .int .u64 0, .int .u32 0, .int .u8 0, .int .u8 0, .int .u8 0, .int .u8 0, .nilFunc, .pointer none, .int .i32 0, .int .i32 0] := rfl
@[simp] theorem ti186_td : ti186.td = .func := rfl
@[simp] theorem ti186_size : ti186.size = 1 := rfl
@[simp] theorem ti186_bytes : ti186.bytes = 8 := rfl
@[simp] theorem ti186_zero : ti186.zero = .nilFunc := rfl
@[simp] theorem ti187_td : ti187.td = .func := rfl
@[simp] theorem ti187_size : ti187.size = 1 := rfl
@[simp] theorem ti187_bytes : ti187.bytes = 8 := rfl
@[simp] theorem ti187_zero : ti187.zero = .nilFunc := rfl
@[simp] theorem ti188_td : ti188.td = .struct [(0, 9), (1, 95)] := rfl
@[simp] theorem ti188_size : ti188.size = 2 := rfl
@[simp] theorem ti188_bytes : ti188.bytes = 24 := rfl
@[simp] theorem ti188_zero : ti188.zero = .agg #[.string ⟨#[]⟩, .int .u8 0] := rfl
@[simp] theorem ti189_td : ti189.td = .struct [(0, 9), (1, 95)] := rfl
@[simp] theorem ti189_size : ti189.size = 2 := rfl
@[simp] theorem ti189_bytes : ti189.bytes = 24 := rfl
@[simp] theorem ti189_zero : ti189.zero = .agg #[.string ⟨#[]⟩, .int .u8 0] := rfl
@[simp] theorem ti190_td : ti190.td = .ptr 194 := rfl
@[simp] theorem ti190_size : ti190.size = 1 := rfl
@[simp] theorem ti190_bytes : ti190.bytes = 8 := rfl
@[simp] theorem ti190_zero : ti190.zero = .pointer none := rfl
@[simp] theorem ti191_td : ti191.td = .func := rfl
@[simp] theorem ti191_size : ti191.size = 1 := rfl
@[simp] theorem ti191_bytes : ti191.bytes = 8 := rfl
@[simp] theorem ti191_zero : ti191.zero = .nilFunc := rfl
@[simp] theorem ti192_td : ti192.td = .int .u16 := rfl
@[simp] theorem ti192_size : ti192.size = 1 := rfl
@[simp] theorem ti192_bytes : ti192.bytes = 2 := rfl
@[simp] theorem ti192_zero : ti192.zero = .int .u16 0 := rfl
@[simp] theorem ti193_td : ti193.td = .struct [(0, 182), (1, 192), (2, 192), (3, 163), (4, 163)] := rfl
@[simp] theorem ti193_size : ti193.size = 5 := rfl
@[simp] theorem ti193_bytes : ti193.bytes = 16 := rfl
@[simp] theorem ti193_zero : ti193.zero = .agg #[.int .i32 0, .int .u16 0, .int .u16 0, .int .u32 0, .int .u32 0] := rfl
@[simp] theorem ti194_td : ti194.td = .struct [(0, 182), (1, 192), (2, 192), (3, 163), (4, 163)] := rfl
@[simp] theorem ti194_size : ti194.size = 5 := rfl
@[simp] theorem ti194_bytes : ti194.bytes = 16 := rfl
@[simp] theorem ti194_zero : ti194.zero = .agg #[.int .i32 0, .int .u16 0, .int .u16 0, .int .u32 0, .int .u32 0] := rfl
@[simp] theorem ti195_td : ti195.td = .slice 198 := rfl
@[simp] theorem ti195_size : ti195.size = 1 := rfl
@[simp] theorem ti195_bytes : ti195.bytes = 24 := rfl
@[simp] theorem ti195_zero : ti195.zero = .slice none 0 0 := rfl
@[simp] theorem ti196_td : ti196.td = .int .i32 := rfl
@[simp] theorem ti196_size : ti196.size = 1 := rfl
@[simp] theorem ti196_bytes : ti196.bytes = 4 := rfl
@[simp] theorem ti196_zero : ti196.zero = .int .i32 0 := rfl
@[simp] theorem ti197_td : ti197.td = .struct [(0, 182), (1, 183), (2, 196), (3, 196)] := rfl
@[simp] theorem ti197_size : ti197.size = 4 := rfl
@[simp] theorem ti197_bytes : ti197.bytes = 16 := rfl
@[simp] theorem ti197_zero : ti197.zero = .agg #[.int .i32 0, .int .i32 0, .int .i32 0, .int .i32 0] := rfl
@[simp] theorem ti198_td : ti198.td = .struct [(0, 182), (1, 183), (2, 196), (3, 196)] := rfl
@[simp] theorem ti198_size : ti198.size = 4 := rfl
@[simp] theorem ti198_bytes : ti198.bytes = 16 := rfl
@[simp] theorem ti198_zero : ti198.zero = .agg #[.int .i32 0, .int .i32 0, .int .i32 0, .int .i32 0] := rfl
@[simp] theorem ti199_td : ti199.td = .ptr 27 := rfl
@[simp] theorem ti199_size : ti199.size = 1 := rfl
@[simp] theorem ti199_bytes : ti199.bytes = 8 := rfl
@[simp] theorem ti199_zero : ti199.zero = .pointer none := rfl
theorem tabOK : okList Tryz.prog 0 tiList = true := by kernel_rfl
def isBS (t : TypeId) : Bool := Nat.beq t 56
structure Base where
  w : World
  K0 : KS
noncomputable def cx (w0 : Base) : Ctx := { P := Tryz.prog, w0 := w0.w, K0 := w0.K0, tab := tabS, glob := fun _ => none, lits := ["quote.go:61", "ref.go:42"], seals := ["law.go:49"], isB := isBS, u8 := 5 }
@[simp] theorem cx_tab (w0 : Base) : (cx w0).tab = tabS := rfl
@[simp] theorem cx_P (w0 : Base) : (cx w0).P = Tryz.prog := rfl
@[simp] theorem cx_glob (w0 : Base) (g : Nat) : (cx w0).glob g = none := rfl
theorem cxOK (w0 : Base) : CtxOK (cx w0) := ⟨listTab_ok rfl tabOK, (by kernel_rfl : Tryz.prog.follows .mixedOrders = true), fun t ti hb ht => by
  have e : t = 56 := Nat.eq_of_beq_eq_true hb
  subst e
  have : some ti56 = some ti := ht
  cases this
  rfl⟩
theorem cxG (w0 : Base) : ∀ g a, (cx w0).glob g = some a → AV.under 0 a = true := fun g a h => by cases h
@[reducible] def tB : TypeId := 56
@[reducible] def ty.abi_BoundsErrorCode : TypeId := 6
@[reducible] def ty.abi_Kind : TypeId := 95
@[reducible] def ty.abi_Method : TypeId := 198
@[reducible] def ty.abi_NameOff : TypeId := 182
@[reducible] def ty.abi_TFlag : TypeId := 180
@[reducible] def ty.abi_TextOff : TypeId := 196
@[reducible] def ty.abi_Type : TypeId := 185
@[reducible] def ty.abi_TypeOff : TypeId := 183
@[reducible] def ty.abi_UncommonType : TypeId := 194
@[reducible] def ty.api_Errno : TypeId := 50
@[reducible] def ty.api_Hunk : TypeId := 37
@[reducible] def ty.api_Name : TypeId := 23
@[reducible] def ty.api_Row : TypeId := 65
@[reducible] def ty.error : TypeId := 27
@[reducible] def ty.hunks_side : TypeId := 80
@[reducible] def ty.maps_unhashableTypeError : TypeId := 19
@[reducible] def ty.reflectlite_Type : TypeId := 93
@[reducible] def ty.reflectlite_Value : TypeId := 90
@[reducible] def ty.reflectlite_ValueError : TypeId := 189
@[reducible] def ty.reflectlite_flag : TypeId := 88
@[reducible] def ty.reflectlite_rtype : TypeId := 117
@[reducible] def ty.runtime_PanicNilError : TypeId := 177
@[reducible] def ty.runtime_TypeAssertionError : TypeId := 174
@[reducible] def ty.runtime_boundsError : TypeId := 8
@[reducible] def ty.runtime_errorAddressString : TypeId := 14
@[reducible] def ty.runtime_errorString : TypeId := 10
@[reducible] def ty.runtime_plainError : TypeId := 11
@[reducible] def ty.selvagelaw11_Case : TypeId := 42
@[reducible] def ty.strings_Builder : TypeId := 56
@[reducible] def ty.strings_asciiSet : TypeId := 141
@[reducible] def ty.unified_fault : TypeId := 78
@[reducible] def ty.unified_reader : TypeId := 73
@[reducible] def main_main.id : FuncId := 0
@[reducible] def gosem_cut.id : FuncId := 1
@[reducible] def gosem_cut_init.id : FuncId := 2
@[reducible] def selvagelaw11_UnifiedPrints.id : FuncId := 3
@[reducible] def selvagelaw11_UnifiedBack.id : FuncId := 4
@[reducible] def selvagelaw11_UnifiedRest.id : FuncId := 5
@[reducible] def selvagelaw11_twin.id : FuncId := 6
@[reducible] def unified_Print.id : FuncId := 7
@[reducible] def selvageref11_Print.id : FuncId := 8
@[reducible] def selvagelaw11_num.id : FuncId := 9
@[reducible] def selvagelaw11_sameHunks.id : FuncId := 10
@[reducible] def unified_Hunk.id : FuncId := 11
@[reducible] def selvageref11_Hunk.id : FuncId := 12
@[reducible] def selvagelaw11_sure.id : FuncId := 13
@[reducible] def unified_Parse.id : FuncId := 14
@[reducible] def unified_header.id : FuncId := 15
@[reducible] def hunks_Valid.id : FuncId := 16
@[reducible] def unified_follows.id : FuncId := 17
@[reducible] def strings_Builder_WriteString.id : FuncId := 18
@[reducible] def strings_Builder_String.id : FuncId := 19
@[reducible] def selvageref11_Faults.id : FuncId := 20
@[reducible] def selvageref11_Shown.id : FuncId := 21
@[reducible] def errors_As.id : FuncId := 22
@[reducible] def unified_span.id : FuncId := 23
@[reducible] def lines_Whole.id : FuncId := 24
@[reducible] def selvageref10_Valid.id : FuncId := 25
@[reducible] def selvageref11_span.id : FuncId := 26
@[reducible] def selvageref11_Tail.id : FuncId := 27
@[reducible] def lines_Split.id : FuncId := 28
@[reducible] def unified_reader_read.id : FuncId := 29
@[reducible] def strings_Contains.id : FuncId := 30
@[reducible] def strings_ContainsAny.id : FuncId := 31
@[reducible] def quote_Quote.id : FuncId := 32
@[reducible] def hunks_sides.id : FuncId := 33
@[reducible] def hunks_place.id : FuncId := 34
@[reducible] def unified_place.id : FuncId := 35
@[reducible] def strings_Builder_copyCheck.id : FuncId := 36
@[reducible] def selvageref11_NameOK.id : FuncId := 37
@[reducible] def selvageref11_InOrder.id : FuncId := 38
@[reducible] def selvageref02_Quote.id : FuncId := 39
@[reducible] def reflectlite_ValueOf.id : FuncId := 40
@[reducible] def reflectlite_Value_Type.id : FuncId := 41
@[reducible] def reflectlite_Value_IsNil.id : FuncId := 42
@[reducible] def errors_as.id : FuncId := 43
@[reducible] def strconv_Itoa.id : FuncId := 44
@[reducible] def strings_HasSuffix.id : FuncId := 45
@[reducible] def selvageref10_Counts.id : FuncId := 46
@[reducible] def selvageref10_rows.id : FuncId := 47
@[reducible] def selvageref10_start.id : FuncId := 48
@[reducible] def selvageref11_Digits.id : FuncId := 49
@[reducible] def selvageref01_Whole.id : FuncId := 50
@[reducible] def strings_IndexByte.id : FuncId := 51
@[reducible] def unified_reader_name.id : FuncId := 52
@[reducible] def strings_HasPrefix.id : FuncId := 53
@[reducible] def unified_reader_hunk.id : FuncId := 54
@[reducible] def strings_Index.id : FuncId := 55
@[reducible] def strings_IndexAny.id : FuncId := 56
@[reducible] def quote_Needs.id : FuncId := 57
@[reducible] def strings_Builder_WriteByte.id : FuncId := 58
@[reducible] def quote_letter.id : FuncId := 59
@[reducible] def strings_Builder_Write.id : FuncId := 60
@[reducible] def hunks_line.id : FuncId := 61
@[reducible] def hunks_side_add.id : FuncId := 62
@[reducible] def abi_NoEscape.id : FuncId := 63
@[reducible] def selvageref11_has.id : FuncId := 64
@[reducible] def selvageref11_Place.id : FuncId := 65
@[reducible] def selvageref02_Needs.id : FuncId := 66
@[reducible] def selvageref02_escape.id : FuncId := 67
@[reducible] def reflectlite_TypeOf.id : FuncId := 68
@[reducible] def reflectlite_Value_Elem.id : FuncId := 69
@[reducible] def reflectlite_Value_Set.id : FuncId := 70
@[reducible] def internal_strconv_Itoa.id : FuncId := 71
@[reducible] def stringslite_HasSuffix.id : FuncId := 72
@[reducible] def selvageref10_old.id : FuncId := 73
@[reducible] def selvageref10_fresh.id : FuncId := 74
@[reducible] def selvageref10_line.id : FuncId := 75
@[reducible] def stringslite_IndexByte.id : FuncId := 76
@[reducible] def quote_Unquote.id : FuncId := 77
@[reducible] def lines_Bare.id : FuncId := 78
@[reducible] def strings_TrimPrefix.id : FuncId := 79
@[reducible] def stringslite_HasPrefix.id : FuncId := 80
@[reducible] def unified_first.id : FuncId := 81
@[reducible] def unified_reader_rows.id : FuncId := 82
@[reducible] def stringslite_Index.id : FuncId := 83
@[reducible] def strings_IndexRune.id : FuncId := 84
@[reducible] def strings_shouldUseASCIISet.id : FuncId := 85
@[reducible] def strings_makeASCIISet.id : FuncId := 86
@[reducible] def strings_asciiSet_contains.id : FuncId := 87
@[reducible] def strconv_FormatInt.id : FuncId := 88
@[reducible] def bytealg_IndexByteString.id : FuncId := 89
@[reducible] def quote_meant.id : FuncId := 90
@[reducible] def quote_octal.id : FuncId := 91
@[reducible] def strings_TrimSuffix.id : FuncId := 92
@[reducible] def stringslite_TrimPrefix.id : FuncId := 93
@[reducible] def strings_CutPrefix.id : FuncId := 94
@[reducible] def unified_ranged.id : FuncId := 95
@[reducible] def bytealg_IndexString.id : FuncId := 96
@[reducible] def bytealg_Cutover.id : FuncId := 97
@[reducible] def bytealg_IndexRabinKarp_string.id : FuncId := 98
@[reducible] def utf8_ValidRune.id : FuncId := 99
@[reducible] def strconv_small.id : FuncId := 100
@[reducible] def strconv_numDigits.id : FuncId := 101
@[reducible] def strconv_formatBase10.id : FuncId := 102
@[reducible] def strconv_formatBits.id : FuncId := 103
@[reducible] def stringslite_TrimSuffix.id : FuncId := 104
@[reducible] def stringslite_CutPrefix.id : FuncId := 105
@[reducible] def unified_number.id : FuncId := 106
@[reducible] def bytealg_hashStr_string.id : FuncId := 107
@[reducible] def strconv_log10Pow2.id : FuncId := 108
@[reducible] def bits_Len64.id : FuncId := 109
@[reducible] def strconv_bool2_int.id : FuncId := 110
@[reducible] def strconv_isPowerOfTwo.id : FuncId := 111
@[reducible] def bits_TrailingZeros.id : FuncId := 112
@[reducible] def bits_TrailingZeros32.id : FuncId := 113
@[reducible] def bits_TrailingZeros64.id : FuncId := 114
@[reducible] def runtime_boundsError_Error.id : FuncId := 115
@[reducible] def runtime_boundsError_RuntimeError.id : FuncId := 116
@[reducible] def runtime_errorString_Error.id : FuncId := 117
@[reducible] def runtime_errorString_RuntimeError.id : FuncId := 118
@[reducible] def runtime_plainError_Error.id : FuncId := 119
@[reducible] def runtime_plainError_RuntimeError.id : FuncId := 120
@[reducible] def runtime_errorAddressString_Error.id : FuncId := 121
@[reducible] def runtime_errorAddressString_RuntimeError.id : FuncId := 122
@[reducible] def runtime_TypeAssertionError_Error.id : FuncId := 123
@[reducible] def runtime_TypeAssertionError_RuntimeError.id : FuncId := 124
@[reducible] def runtime_PanicNilError_Error.id : FuncId := 125
@[reducible] def runtime_PanicNilError_RuntimeError.id : FuncId := 126
@[reducible] def abi_Type_Align.id : FuncId := 127
@[reducible] def abi_Type_Elem.id : FuncId := 128
@[reducible] def abi_Type_Kind.id : FuncId := 129
@[reducible] def maps_unhashableTypeError_Error.id : FuncId := 130
@[reducible] def maps_unhashableTypeError_RuntimeError.id : FuncId := 131
@[reducible] def api_Errno_Error.id : FuncId := 132
@[reducible] def strings_Builder_Reset.id : FuncId := 133
@[reducible] def reflectlite_flag_mustBeAssignable.id : FuncId := 134
@[reducible] def reflectlite_Value_Kind.id : FuncId := 135
@[reducible] def abi_Kind_String.id : FuncId := 136
@[reducible] def abi_Type_Size.id : FuncId := 137
@[reducible] def reflectlite_rtype_AssignableTo.id : FuncId := 138
@[reducible] def reflectlite_rtype_Comparable.id : FuncId := 139
@[reducible] def reflectlite_rtype_Elem.id : FuncId := 140
@[reducible] def reflectlite_rtype_Implements.id : FuncId := 141
@[reducible] def reflectlite_rtype_Name.id : FuncId := 142
@[reducible] def reflectlite_rtype_PkgPath.id : FuncId := 143
@[reducible] def reflectlite_rtype_String.id : FuncId := 144
@[reducible] def reflectlite_rtype_common.id : FuncId := 145
@[reducible] def reflectlite_rtype_uncommon.id : FuncId := 146
@[reducible] def reflectlite_ValueError_Error.id : FuncId := 147
@[reducible] def abi_UncommonType_ExportedMethods.id : FuncId := 148
@[reducible] def var_s_door_errors_errorType_is_laid_by_its_own_call_of_reflectlite_TypeOf_on_a_nil_pointer_and_Elem_of_it_handle_1.id : FuncId := 149
@[reducible] def var_s_door_gosem_cut_vars_holds_initialisers_alone_see_the_manifest_s_row_cutvarsword_look_11_test_files_too.id : FuncId := 150
@[reducible] def strconv_uint64pow10_is_laid_by_its_own_initialiser_plain_data_look_11.id : FuncId := 151
@[reducible] def bits_deBruijn32tab_is_laid_by_its_own_initialiser_plain_data_look_11.id : FuncId := 152
@[reducible] def bits_deBruijn64tab_is_laid_by_its_own_initialiser_plain_data_look_11.id : FuncId := 153
@[reducible] def var_s_door_the_look_of_gosem_cut_vars_went_over_the_folder_that_the_caller_named_as_the_repository_s_root_look_11.id : FuncId := 154
@[reducible] def gosem_cut_vars.id : FuncId := 155
end Go.Sv
