/- The table of this program's types, as the executor asks it; held against the program by the kernel. Printed by a program of this session. -/
import Derived.Test.YtimmjplgogpglaaDoorSvQ
import Derived.Test.YtimmjplgogpglaaDoorProg
import Derived.KernelRfl
set_option linter.unusedVariables false
set_option maxRecDepth 100000
namespace Go.Sv
open Go Go.Proofs
def ti1 : TI := ⟨.func, 1, 8, .nilFunc, false⟩
def ti2 : TI := ⟨.int .i64, 1, 8, .int .i64 0, false⟩
def ti3 : TI := ⟨.int .i64, 1, 8, .int .i64 0, false⟩
def ti4 : TI := ⟨.bool, 1, 1, .bool false, false⟩
def ti5 : TI := ⟨.int .u8, 1, 1, .int .u8 0, false⟩
def ti6 : TI := ⟨.int .u8, 1, 1, .int .u8 0, false⟩
def ti7 : TI := ⟨.struct [(0, 2), (1, 3), (2, 4), (3, 6)], 4, 24, .agg #[.int .i64 0, .int .i64 0, .bool false, .int .u8 0], false⟩
def ti8 : TI := ⟨.struct [(0, 2), (1, 3), (2, 4), (3, 6)], 4, 24, .agg #[.int .i64 0, .int .i64 0, .bool false, .int .u8 0], false⟩
def ti9 : TI := ⟨.str, 1, 16, .string ⟨#[]⟩, false⟩
def ti10 : TI := ⟨.str, 1, 16, .string ⟨#[]⟩, false⟩
def ti11 : TI := ⟨.str, 1, 16, .string ⟨#[]⟩, false⟩
def ti12 : TI := ⟨.int .u64, 1, 8, .int .u64 0, false⟩
def ti13 : TI := ⟨.struct [(0, 9), (1, 12)], 2, 24, .agg #[.string ⟨#[]⟩, .int .u64 0], false⟩
def ti14 : TI := ⟨.struct [(0, 9), (1, 12)], 2, 24, .agg #[.string ⟨#[]⟩, .int .u64 0], false⟩
def ti15 : TI := ⟨.ptr 132, 1, 8, .pointer none, false⟩
def ti16 : TI := ⟨.ptr 135, 1, 8, .pointer none, false⟩
def ti17 : TI := ⟨.ptr 145, 1, 8, .pointer none, false⟩
def ti18 : TI := ⟨.struct [(0, 17)], 1, 8, .agg #[.pointer none], false⟩
def ti19 : TI := ⟨.struct [(0, 17)], 1, 8, .agg #[.pointer none], false⟩
def ti20 : TI := ⟨.iface 0, 1, 16, .nilIface, false⟩
def ti21 : TI := ⟨.int .i32, 1, 4, .int .i32 0, false⟩
def ti22 : TI := ⟨.iface 1, 1, 16, .nilIface, false⟩
def ti23 : TI := ⟨.iface 1, 1, 16, .nilIface, false⟩
def ti25 : TI := ⟨.func, 1, 8, .nilFunc, false⟩
def ti27 : TI := ⟨.func, 1, 8, .nilFunc, false⟩
def ti28 : TI := ⟨.func, 1, 8, .nilFunc, false⟩
def ti29 : TI := ⟨.func, 1, 8, .nilFunc, false⟩
def ti30 : TI := ⟨.func, 1, 8, .nilFunc, false⟩
def ti31 : TI := ⟨.slice 54, 1, 24, .slice none 0 0, false⟩
def ti32 : TI := ⟨.slice 40, 1, 24, .slice none 0 0, false⟩
def ti34 : TI := ⟨.func, 1, 8, .nilFunc, false⟩
def ti35 : TI := ⟨.slice 39, 1, 24, .slice none 0 0, false⟩
def ti37 : TI := ⟨.func, 1, 8, .nilFunc, false⟩
def ti38 : TI := ⟨.struct [(0, 9), (1, 9), (2, 3)], 3, 40, .agg #[.string ⟨#[]⟩, .string ⟨#[]⟩, .int .i64 0], false⟩
def ti39 : TI := ⟨.struct [(0, 9), (1, 9), (2, 3)], 3, 40, .agg #[.string ⟨#[]⟩, .string ⟨#[]⟩, .int .i64 0], true⟩
def ti40 : TI := ⟨.struct [(0, 9), (1, 9), (2, 3)], 3, 40, .agg #[.string ⟨#[]⟩, .string ⟨#[]⟩, .int .i64 0], true⟩
def ti41 : TI := ⟨.func, 1, 8, .nilFunc, false⟩
def ti42 : TI := ⟨.int .i64, 1, 8, .int .i64 0, false⟩
def ti43 : TI := ⟨.slice 3, 1, 24, .slice none 0 0, false⟩
def ti45 : TI := ⟨.func, 1, 8, .nilFunc, false⟩
def ti46 : TI := ⟨.slice 9, 1, 24, .slice none 0 0, false⟩
def ti47 : TI := ⟨.func, 1, 8, .nilFunc, false⟩
def ti48 : TI := ⟨.func, 1, 8, .nilFunc, false⟩
def ti50 : TI := ⟨.func, 1, 8, .nilFunc, false⟩
def ti51 : TI := ⟨.func, 1, 8, .nilFunc, false⟩
def ti52 : TI := ⟨.ptr 42, 1, 8, .pointer none, false⟩
def ti53 : TI := ⟨.struct [(0, 9), (1, 3), (2, 9)], 3, 40, .agg #[.string ⟨#[]⟩, .int .i64 0, .string ⟨#[]⟩], false⟩
def ti54 : TI := ⟨.struct [(0, 9), (1, 3), (2, 9)], 3, 40, .agg #[.string ⟨#[]⟩, .int .i64 0, .string ⟨#[]⟩], true⟩
def ti55 : TI := ⟨.slice 31, 1, 24, .slice none 0 0, false⟩
def ti56 : TI := ⟨.slice 43, 1, 24, .slice none 0 0, false⟩
def ti57 : TI := ⟨.func, 1, 8, .nilFunc, false⟩
def ti58 : TI := ⟨.slice 4, 1, 24, .slice none 0 0, false⟩
def ti59 : TI := ⟨.map 9 3, 1, 8, .map none, false⟩
def ti60 : TI := ⟨.func, 1, 8, .nilFunc, false⟩
def ti62 : TI := ⟨.func, 1, 8, .nilFunc, false⟩
def ti63 : TI := ⟨.func, 1, 8, .nilFunc, false⟩
def ti64 : TI := ⟨.array 2 43, 2, 48, .agg #[.slice none 0 0, .slice none 0 0], false⟩
def ti65 : TI := ⟨.unsafeptr, 1, 8, .pointer none, false⟩
def ti66 : TI := ⟨.int .u64, 1, 8, .int .u64 0, false⟩
def ti67 : TI := ⟨.struct [(0, 17), (1, 65), (2, 66)], 3, 24, .agg #[.pointer none, .pointer none, .int .u64 0], false⟩
def ti68 : TI := ⟨.struct [(0, 17), (1, 65), (2, 66)], 3, 24, .agg #[.pointer none, .pointer none, .int .u64 0], false⟩
def ti69 : TI := ⟨.func, 1, 8, .nilFunc, false⟩
def ti70 : TI := ⟨.iface 11, 1, 16, .nilIface, false⟩
def ti71 : TI := ⟨.iface 11, 1, 16, .nilIface, false⟩
def ti72 : TI := ⟨.func, 1, 8, .nilFunc, false⟩
def ti73 : TI := ⟨.int .u8, 1, 1, .int .u8 0, false⟩
def ti74 : TI := ⟨.func, 1, 8, .nilFunc, false⟩
def ti75 : TI := ⟨.func, 1, 8, .nilFunc, false⟩
def ti76 : TI := ⟨.func, 1, 8, .nilFunc, false⟩
def ti77 : TI := ⟨.func, 1, 8, .nilFunc, false⟩
def ti78 : TI := ⟨.func, 1, 8, .nilFunc, false⟩
def ti79 : TI := ⟨.slice 82, 1, 24, .slice none 0 0, false⟩
def ti80 : TI := ⟨.func, 1, 8, .nilFunc, false⟩
def ti81 : TI := ⟨.struct [(0, 3), (1, 3), (2, 3), (3, 3)], 4, 32, .agg #[.int .i64 0, .int .i64 0, .int .i64 0, .int .i64 0], false⟩
def ti82 : TI := ⟨.struct [(0, 3), (1, 3), (2, 3), (3, 3)], 4, 32, .agg #[.int .i64 0, .int .i64 0, .int .i64 0, .int .i64 0], true⟩
def ti83 : TI := ⟨.func, 1, 8, .nilFunc, false⟩
def ti84 : TI := ⟨.slice 5, 1, 24, .slice none 0 0, false⟩
def ti85 : TI := ⟨.struct [(0, 17)], 1, 8, .agg #[.pointer none], false⟩
def ti86 : TI := ⟨.struct [(0, 17)], 1, 8, .agg #[.pointer none], false⟩
def ti87 : TI := ⟨.ptr 149, 1, 8, .pointer none, false⟩
def ti88 : TI := ⟨.func, 1, 8, .nilFunc, false⟩
def ti89 : TI := ⟨.func, 1, 8, .nilFunc, false⟩
def ti90 : TI := ⟨.func, 1, 8, .nilFunc, false⟩
def ti91 : TI := ⟨.iface 1, 1, 16, .nilIface, false⟩
def ti93 : TI := ⟨.func, 1, 8, .nilFunc, false⟩
def ti94 : TI := ⟨.iface 1, 1, 16, .nilIface, false⟩
def ti95 : TI := ⟨.func, 1, 8, .nilFunc, false⟩
def ti96 : TI := ⟨.iface 1, 1, 16, .nilIface, false⟩
def ti97 : TI := ⟨.slice 23, 1, 24, .slice none 0 0, false⟩
def ti98 : TI := ⟨.func, 1, 8, .nilFunc, false⟩
def ti99 : TI := ⟨.func, 1, 8, .nilFunc, false⟩
def ti100 : TI := ⟨.array 256 4, 256, 256, .agg #[.bool false, .bool false, .bool false, .bool false, .bool false, .bool false, .bool false, .bool false, .bool false, .bool false, .bool false, .bool false, .bool false, .bool false, .bool false, .bool false, .bool false, .bool false, .bool false, .bool false, .bool false, .bool false, .bool false, .bool false, .bool false, .bool false, .bool false, .bool false, .bool false, .bool false, .bool false, .bool false, .bool false, .bool false, .bool false, .bool false, .bool false, .bool false, .bool false, .bool false, .bool false, .bool false, .bool false, .bool false, .bool false, .bool false, .bool false, .bool false, .bool false, .bool false, .bool false, .bool false, .bool false, .bool false, .bool false, .bool false, .bool false, .bool false, .bool false, .bool false, .bool false, .bool false, .bool false, .bool false, .bool false, .bool false, .bool false, .bool false, .bool false, .bool false, .bool false, .bool false, .bool false, .bool false, .bool false, .bool false, .bool false, .bool false, .bool false, .bool false, .bool false, .bool false, .bool false, .bool false, .bool false, .bool false, .bool false, .bool false, .bool false, .bool false, .bool false, .bool false, .bool false, .bool false, .bool false, .bool false, .bool false, .bool false, .bool false, .bool false, .bool false, .bool false, .bool false, .bool false, .bool false, .bool false, .bool false, .bool false, .bool false, .bool false, .bool false, .bool false, .bool false, .bool false, .bool false, .bool false, .bool false, .bool false, .bool false, .bool false, .bool false, .bool false, .bool false, .bool false, .bool false, .bool false, .bool false, .bool false, .bool false, .bool false, .bool false, .bool false, .bool false, .bool false, .bool false, .bool false, .bool false, .bool false, .bool false, .bool false, .bool false, .bool false, .bool false, .bool false, .bool false, .bool false, .bool false, .bool false, .bool false, .bool false, .bool false, .bool false, .bool false, .bool false, .bool false, .bool false, .bool false, .bool false, .bool false, .bool false, .bool false, .bool false, .bool false, .bool false, .bool false, .bool false, .bool false, .bool false, .bool false, .bool false, .bool false, .bool false, .bool false, .bool false, .bool false, .bool false, .bool false, .bool false, .bool false, .bool false, .bool false, .bool false, .bool false, .bool false, .bool false, .bool false, .bool false, .bool false, .bool false, .bool false, .bool false, .bool false, .bool false, .bool false, .bool false, .bool false, .bool false, .bool false, .bool false, .bool false, .bool false, .bool false, .bool false, .bool false, .bool false, .bool false, .bool false, .bool false, .bool false, .bool false, .bool false, .bool false, .bool false, .bool false, .bool false, .bool false, .bool false, .bool false, .bool false, .bool false, .bool false, .bool false, .bool false, .bool false, .bool false, .bool false, .bool false, .bool false, .bool false, .bool false, .bool false, .bool false, .bool false, .bool false, .bool false, .bool false, .bool false, .bool false, .bool false, .bool false, .bool false, .bool false, .bool false, .bool false, .bool false, .bool false, .bool false, .bool false, .bool false, .bool false, .bool false, .bool false, .bool false, .bool false, .bool false, .bool false], false⟩
def ti101 : TI := ⟨.array 256 4, 256, 256, .agg #[.bool false, .bool false, .bool false, .bool false, .bool false, .bool false, .bool false, .bool false, .bool false, .bool false, .bool false, .bool false, .bool false, .bool false, .bool false, .bool false, .bool false, .bool false, .bool false, .bool false, .bool false, .bool false, .bool false, .bool false, .bool false, .bool false, .bool false, .bool false, .bool false, .bool false, .bool false, .bool false, .bool false, .bool false, .bool false, .bool false, .bool false, .bool false, .bool false, .bool false, .bool false, .bool false, .bool false, .bool false, .bool false, .bool false, .bool false, .bool false, .bool false, .bool false, .bool false, .bool false, .bool false, .bool false, .bool false, .bool false, .bool false, .bool false, .bool false, .bool false, .bool false, .bool false, .bool false, .bool false, .bool false, .bool false, .bool false, .bool false, .bool false, .bool false, .bool false, .bool false, .bool false, .bool false, .bool false, .bool false, .bool false, .bool false, .bool false, .bool false, .bool false, .bool false, .bool false, .bool false, .bool false, .bool false, .bool false, .bool false, .bool false, .bool false, .bool false, .bool false, .bool false, .bool false, .bool false, .bool false, .bool false, .bool false, .bool false, .bool false, .bool false, .bool false, .bool false, .bool false, .bool false, .bool false, .bool false, .bool false, .bool false, .bool false, .bool false, .bool false, .bool false, .bool false, .bool false, .bool false, .bool false, .bool false, .bool false, .bool false, .bool false, .bool false, .bool false, .bool false, .bool false, .bool false, .bool false, .bool false, .bool false, .bool false, .bool false, .bool false, .bool false, .bool false, .bool false, .bool false, .bool false, .bool false, .bool false, .bool false, .bool false, .bool false, .bool false, .bool false, .bool false, .bool false, .bool false, .bool false, .bool false, .bool false, .bool false, .bool false, .bool false, .bool false, .bool false, .bool false, .bool false, .bool false, .bool false, .bool false, .bool false, .bool false, .bool false, .bool false, .bool false, .bool false, .bool false, .bool false, .bool false, .bool false, .bool false, .bool false, .bool false, .bool false, .bool false, .bool false, .bool false, .bool false, .bool false, .bool false, .bool false, .bool false, .bool false, .bool false, .bool false, .bool false, .bool false, .bool false, .bool false, .bool false, .bool false, .bool false, .bool false, .bool false, .bool false, .bool false, .bool false, .bool false, .bool false, .bool false, .bool false, .bool false, .bool false, .bool false, .bool false, .bool false, .bool false, .bool false, .bool false, .bool false, .bool false, .bool false, .bool false, .bool false, .bool false, .bool false, .bool false, .bool false, .bool false, .bool false, .bool false, .bool false, .bool false, .bool false, .bool false, .bool false, .bool false, .bool false, .bool false, .bool false, .bool false, .bool false, .bool false, .bool false, .bool false, .bool false, .bool false, .bool false, .bool false, .bool false, .bool false, .bool false, .bool false, .bool false, .bool false, .bool false, .bool false, .bool false, .bool false, .bool false, .bool false, .bool false, .bool false, .bool false, .bool false, .bool false], false⟩
def ti103 : TI := ⟨.func, 1, 8, .nilFunc, false⟩
def ti104 : TI := ⟨.func, 1, 8, .nilFunc, false⟩
def ti105 : TI := ⟨.ptr 101, 1, 8, .pointer none, false⟩
def ti106 : TI := ⟨.struct [(0, 58), (1, 58)], 2, 48, .agg #[.slice none 0 0, .slice none 0 0], false⟩
def ti107 : TI := ⟨.struct [(0, 58), (1, 58)], 2, 48, .agg #[.slice none 0 0, .slice none 0 0], false⟩
def ti108 : TI := ⟨.func, 1, 8, .nilFunc, false⟩
def ti109 : TI := ⟨.func, 1, 8, .nilFunc, false⟩
def ti110 : TI := ⟨.func, 1, 8, .nilFunc, false⟩
def ti112 : TI := ⟨.func, 1, 8, .nilFunc, false⟩
def ti113 : TI := ⟨.func, 1, 8, .nilFunc, false⟩
def ti114 : TI := ⟨.struct [(0, 43), (1, 43), (2, 3), (3, 3)], 4, 64, .agg #[.slice none 0 0, .slice none 0 0, .int .i64 0, .int .i64 0], false⟩
def ti115 : TI := ⟨.struct [(0, 43), (1, 43), (2, 3), (3, 3)], 4, 64, .agg #[.slice none 0 0, .slice none 0 0, .int .i64 0, .int .i64 0], false⟩
def ti116 : TI := ⟨.slice 115, 1, 24, .slice none 0 0, false⟩
def ti117 : TI := ⟨.func, 1, 8, .nilFunc, false⟩
def ti119 : TI := ⟨.func, 1, 8, .nilFunc, false⟩
def ti120 : TI := ⟨.func, 1, 8, .nilFunc, false⟩
def ti121 : TI := ⟨.func, 1, 8, .nilFunc, false⟩
def ti122 : TI := ⟨.func, 1, 8, .nilFunc, false⟩
def ti123 : TI := ⟨.func, 1, 8, .nilFunc, false⟩
def ti124 : TI := ⟨.int .u64, 1, 8, .int .u64 0, false⟩
def ti125 : TI := ⟨.func, 1, 8, .nilFunc, false⟩
def ti126 : TI := ⟨.array 256 5, 256, 256, .agg #[.int .u8 0, .int .u8 0, .int .u8 0, .int .u8 0, .int .u8 0, .int .u8 0, .int .u8 0, .int .u8 0, .int .u8 0, .int .u8 0, .int .u8 0, .int .u8 0, .int .u8 0, .int .u8 0, .int .u8 0, .int .u8 0, .int .u8 0, .int .u8 0, .int .u8 0, .int .u8 0, .int .u8 0, .int .u8 0, .int .u8 0, .int .u8 0, .int .u8 0, .int .u8 0, .int .u8 0, .int .u8 0, .int .u8 0, .int .u8 0, .int .u8 0, .int .u8 0, .int .u8 0, .int .u8 0, .int .u8 0, .int .u8 0, .int .u8 0, .int .u8 0, .int .u8 0, .int .u8 0, .int .u8 0, .int .u8 0, .int .u8 0, .int .u8 0, .int .u8 0, .int .u8 0, .int .u8 0, .int .u8 0, .int .u8 0, .int .u8 0, .int .u8 0, .int .u8 0, .int .u8 0, .int .u8 0, .int .u8 0, .int .u8 0, .int .u8 0, .int .u8 0, .int .u8 0, .int .u8 0, .int .u8 0, .int .u8 0, .int .u8 0, .int .u8 0, .int .u8 0, .int .u8 0, .int .u8 0, .int .u8 0, .int .u8 0, .int .u8 0, .int .u8 0, .int .u8 0, .int .u8 0, .int .u8 0, .int .u8 0, .int .u8 0, .int .u8 0, .int .u8 0, .int .u8 0, .int .u8 0, .int .u8 0, .int .u8 0, .int .u8 0, .int .u8 0, .int .u8 0, .int .u8 0, .int .u8 0, .int .u8 0, .int .u8 0, .int .u8 0, .int .u8 0, .int .u8 0, .int .u8 0, .int .u8 0, .int .u8 0, .int .u8 0, .int .u8 0, .int .u8 0, .int .u8 0, .int .u8 0, .int .u8 0, .int .u8 0, .int .u8 0, .int .u8 0, .int .u8 0, .int .u8 0, .int .u8 0, .int .u8 0, .int .u8 0, .int .u8 0, .int .u8 0, .int .u8 0, .int .u8 0, .int .u8 0, .int .u8 0, .int .u8 0, .int .u8 0, .int .u8 0, .int .u8 0, .int .u8 0, .int .u8 0, .int .u8 0, .int .u8 0, .int .u8 0, .int .u8 0, .int .u8 0, .int .u8 0, .int .u8 0, .int .u8 0, .int .u8 0, .int .u8 0, .int .u8 0, .int .u8 0, .int .u8 0, .int .u8 0, .int .u8 0, .int .u8 0, .int .u8 0, .int .u8 0, .int .u8 0, .int .u8 0, .int .u8 0, .int .u8 0, .int .u8 0, .int .u8 0, .int .u8 0, .int .u8 0, .int .u8 0, .int .u8 0, .int .u8 0, .int .u8 0, .int .u8 0, .int .u8 0, .int .u8 0, .int .u8 0, .int .u8 0, .int .u8 0, .int .u8 0, .int .u8 0, .int .u8 0, .int .u8 0, .int .u8 0, .int .u8 0, .int .u8 0, .int .u8 0, .int .u8 0, .int .u8 0, .int .u8 0, .int .u8 0, .int .u8 0, .int .u8 0, .int .u8 0, .int .u8 0, .int .u8 0, .int .u8 0, .int .u8 0, .int .u8 0, .int .u8 0, .int .u8 0, .int .u8 0, .int .u8 0, .int .u8 0, .int .u8 0, .int .u8 0, .int .u8 0, .int .u8 0, .int .u8 0, .int .u8 0, .int .u8 0, .int .u8 0, .int .u8 0, .int .u8 0, .int .u8 0, .int .u8 0, .int .u8 0, .int .u8 0, .int .u8 0, .int .u8 0, .int .u8 0, .int .u8 0, .int .u8 0, .int .u8 0, .int .u8 0, .int .u8 0, .int .u8 0, .int .u8 0, .int .u8 0, .int .u8 0, .int .u8 0, .int .u8 0, .int .u8 0, .int .u8 0, .int .u8 0, .int .u8 0, .int .u8 0, .int .u8 0, .int .u8 0, .int .u8 0, .int .u8 0, .int .u8 0, .int .u8 0, .int .u8 0, .int .u8 0, .int .u8 0, .int .u8 0, .int .u8 0, .int .u8 0, .int .u8 0, .int .u8 0, .int .u8 0, .int .u8 0, .int .u8 0, .int .u8 0, .int .u8 0, .int .u8 0, .int .u8 0, .int .u8 0, .int .u8 0, .int .u8 0, .int .u8 0, .int .u8 0, .int .u8 0, .int .u8 0, .int .u8 0, .int .u8 0, .int .u8 0, .int .u8 0, .int .u8 0, .int .u8 0, .int .u8 0, .int .u8 0, .int .u8 0, .int .u8 0, .int .u8 0, .int .u8 0, .int .u8 0], false⟩
def ti127 : TI := ⟨.struct [(0, 5), (1, 5)], 2, 2, .agg #[.int .u8 0, .int .u8 0], false⟩
def ti128 : TI := ⟨.struct [(0, 5), (1, 5)], 2, 2, .agg #[.int .u8 0, .int .u8 0], false⟩
def ti129 : TI := ⟨.array 16 128, 32, 32, .agg #[.int .u8 0, .int .u8 0, .int .u8 0, .int .u8 0, .int .u8 0, .int .u8 0, .int .u8 0, .int .u8 0, .int .u8 0, .int .u8 0, .int .u8 0, .int .u8 0, .int .u8 0, .int .u8 0, .int .u8 0, .int .u8 0, .int .u8 0, .int .u8 0, .int .u8 0, .int .u8 0, .int .u8 0, .int .u8 0, .int .u8 0, .int .u8 0, .int .u8 0, .int .u8 0, .int .u8 0, .int .u8 0, .int .u8 0, .int .u8 0, .int .u8 0, .int .u8 0], false⟩
def ti130 : TI := ⟨.func, 1, 8, .nilFunc, false⟩
def ti131 : TI := ⟨.struct [(0, 17), (1, 17), (2, 17), (3, 9)], 4, 40, .agg #[.pointer none, .pointer none, .pointer none, .string ⟨#[]⟩], false⟩
def ti132 : TI := ⟨.struct [(0, 17), (1, 17), (2, 17), (3, 9)], 4, 40, .agg #[.pointer none, .pointer none, .pointer none, .string ⟨#[]⟩], false⟩
def ti133 : TI := ⟨.array 0 16, 0, 0, .agg #[], false⟩
def ti134 : TI := ⟨.struct [(0, 133)], 0, 0, .agg #[], false⟩
def ti135 : TI := ⟨.struct [(0, 133)], 0, 0, .agg #[], false⟩
def ti136 : TI := ⟨.func, 1, 8, .nilFunc, false⟩
def ti137 : TI := ⟨.func, 1, 8, .nilFunc, false⟩
def ti138 : TI := ⟨.int .u32, 1, 4, .int .u32 0, false⟩
def ti139 : TI := ⟨.int .u8, 1, 1, .int .u8 0, false⟩
def ti140 : TI := ⟨.func, 1, 8, .nilFunc, false⟩
def ti141 : TI := ⟨.ptr 5, 1, 8, .pointer none, false⟩
def ti142 : TI := ⟨.int .i32, 1, 4, .int .i32 0, false⟩
def ti143 : TI := ⟨.int .i32, 1, 4, .int .i32 0, false⟩
def ti144 : TI := ⟨.struct [(0, 12), (1, 12), (2, 138), (3, 139), (4, 5), (5, 5), (6, 73), (7, 140), (8, 141), (9, 142), (10, 143)], 11, 48, .agg #[.int .u64 0, .int .u64 0, .int .u32 0, .int .u8 0, .int .u8 0, .int .u8 0, .int .u8 0, .nilFunc, .pointer none, .int .i32 0, .int .i32 0], false⟩
def ti145 : TI := ⟨.struct [(0, 12), (1, 12), (2, 138), (3, 139), (4, 5), (5, 5), (6, 73), (7, 140), (8, 141), (9, 142), (10, 143)], 11, 48, .agg #[.int .u64 0, .int .u64 0, .int .u32 0, .int .u8 0, .int .u8 0, .int .u8 0, .int .u8 0, .nilFunc, .pointer none, .int .i32 0, .int .i32 0], false⟩
def ti146 : TI := ⟨.func, 1, 8, .nilFunc, false⟩
def ti147 : TI := ⟨.func, 1, 8, .nilFunc, false⟩
def ti148 : TI := ⟨.struct [(0, 9), (1, 73)], 2, 24, .agg #[.string ⟨#[]⟩, .int .u8 0], false⟩
def ti149 : TI := ⟨.struct [(0, 9), (1, 73)], 2, 24, .agg #[.string ⟨#[]⟩, .int .u8 0], false⟩
def ti150 : TI := ⟨.ptr 154, 1, 8, .pointer none, false⟩
def ti151 : TI := ⟨.func, 1, 8, .nilFunc, false⟩
def ti152 : TI := ⟨.int .u16, 1, 2, .int .u16 0, false⟩
def ti153 : TI := ⟨.struct [(0, 142), (1, 152), (2, 152), (3, 138), (4, 138)], 5, 16, .agg #[.int .i32 0, .int .u16 0, .int .u16 0, .int .u32 0, .int .u32 0], false⟩
def ti154 : TI := ⟨.struct [(0, 142), (1, 152), (2, 152), (3, 138), (4, 138)], 5, 16, .agg #[.int .i32 0, .int .u16 0, .int .u16 0, .int .u32 0, .int .u32 0], false⟩
def ti155 : TI := ⟨.slice 158, 1, 24, .slice none 0 0, false⟩
def ti156 : TI := ⟨.int .i32, 1, 4, .int .i32 0, false⟩
def ti157 : TI := ⟨.struct [(0, 142), (1, 143), (2, 156), (3, 156)], 4, 16, .agg #[.int .i32 0, .int .i32 0, .int .i32 0, .int .i32 0], false⟩
def ti158 : TI := ⟨.struct [(0, 142), (1, 143), (2, 156), (3, 156)], 4, 16, .agg #[.int .i32 0, .int .i32 0, .int .i32 0, .int .i32 0], false⟩
def ti159 : TI := ⟨.ptr 23, 1, 8, .pointer none, false⟩
def tiList : List (Option TI) := [none, some ti1, some ti2, some ti3, some ti4, some ti5, some ti6, some ti7, some ti8, some ti9, some ti10, some ti11, some ti12, some ti13, some ti14, some ti15, some ti16, some ti17, some ti18, some ti19, some ti20, some ti21, some ti22, some ti23, none, some ti25, none, some ti27, some ti28, some ti29, some ti30, some ti31, some ti32, none, some ti34, some ti35, none, some ti37, some ti38, some ti39, some ti40, some ti41, some ti42, some ti43, none, some ti45, some ti46, some ti47, some ti48, none, some ti50, some ti51, some ti52, some ti53, some ti54, some ti55, some ti56, some ti57, some ti58, some ti59, some ti60, none, some ti62, some ti63, some ti64, some ti65, some ti66, some ti67, some ti68, some ti69, some ti70, some ti71, some ti72, some ti73, some ti74, some ti75, some ti76, some ti77, some ti78, some ti79, some ti80, some ti81, some ti82, some ti83, some ti84, some ti85, some ti86, some ti87, some ti88, some ti89, some ti90, some ti91, none, some ti93, some ti94, some ti95, some ti96, some ti97, some ti98, some ti99, some ti100, some ti101, none, some ti103, some ti104, some ti105, some ti106, some ti107, some ti108, some ti109, some ti110, none, some ti112, some ti113, some ti114, some ti115, some ti116, some ti117, none, some ti119, some ti120, some ti121, some ti122, some ti123, some ti124, some ti125, some ti126, some ti127, some ti128, some ti129, some ti130, some ti131, some ti132, some ti133, some ti134, some ti135, some ti136, some ti137, some ti138, some ti139, some ti140, some ti141, some ti142, some ti143, some ti144, some ti145, some ti146, some ti147, some ti148, some ti149, some ti150, some ti151, some ti152, some ti153, some ti154, some ti155, some ti156, some ti157, some ti158, some ti159]
def tabS : TypeId → Option TI := listTab tiList
@[simp] theorem tab3 : tabS 3 = some ti3 := rfl
@[simp] theorem tab4 : tabS 4 = some ti4 := rfl
@[simp] theorem tab9 : tabS 9 = some ti9 := rfl
@[simp] theorem tab31 : tabS 31 = some ti31 := rfl
@[simp] theorem tab39 : tabS 39 = some ti39 := rfl
@[simp] theorem tab40 : tabS 40 = some ti40 := rfl
@[simp] theorem tab54 : tabS 54 = some ti54 := rfl
@[simp] theorem tab82 : tabS 82 = some ti82 := rfl
@[simp] theorem tab115 : tabS 115 = some ti115 := rfl
@[simp] theorem ti3_td : ti3.td = .int .i64 := rfl
@[simp] theorem ti9_td : ti9.td = .str := rfl
@[simp] theorem ti31_td : ti31.td = .slice 54 := rfl
@[simp] theorem ti54_td : ti54.td = .struct [(0, 9), (1, 3), (2, 9)] := rfl
@[simp] theorem ti59_td : ti59.td = .map 9 3 := rfl
theorem tabOK : okList Tryd.prog 0 tiList = true := by kernel_rfl
def isBS (t : TypeId) : Bool := false
structure Base where
  w : World
  K0 : KS
noncomputable def cx (w0 : Base) : Ctx := { P := Tryd.prog, w0 := w0.w, K0 := w0.K0, tab := tabS, glob := fun _ => none, lits := ["quote.go:61", "ref.go:42", "myers.go:73"], seals := ["law.go:49", "law.go:59", "myers.go:87"], isB := isBS, u8 := 5 }
theorem cxOK (w0 : Base) : CtxOK (cx w0) := ⟨listTab_ok rfl tabOK, (by kernel_rfl : Tryd.prog.follows .mixedOrders = true), fun t ti hb ht => by
  cases hb⟩
theorem cxG (w0 : Base) : ∀ g a, (cx w0).glob g = some a → AV.under 0 a = true := fun g a h => by cases h
@[reducible] def selvagelaw25_FilediffRenames.id : FuncId := 4
@[reducible] def filediff_Similarity.id : FuncId := 5
@[reducible] def selvageref25_Similarity.id : FuncId := 6
@[reducible] def selvagelaw25_num.id : FuncId := 7
@[reducible] def selvagelaw25_moved.id : FuncId := 8
@[reducible] def filediff_Renames.id : FuncId := 9
@[reducible] def selvageref25_Renames.id : FuncId := 10
@[reducible] def intern_Ids.id : FuncId := 11
@[reducible] def lines_Split.id : FuncId := 12
@[reducible] def myers_Common.id : FuncId := 13
@[reducible] def selvageref01_Split.id : FuncId := 14
@[reducible] def selvageref05_Ids.id : FuncId := 15
@[reducible] def selvageref07_Common.id : FuncId := 16
@[reducible] def errors_As.id : FuncId := 17
@[reducible] def filediff_file.id : FuncId := 18
@[reducible] def selvageref25_file.id : FuncId := 19
@[reducible] def intern_Ids_1.id : FuncId := 20
@[reducible] def intern_Key.id : FuncId := 21
@[reducible] def strings_IndexByte.id : FuncId := 22
@[reducible] def myers_Distance.id : FuncId := 23
@[reducible] def selvageref05_Key.id : FuncId := 24
@[reducible] def lines_Bare.id : FuncId := 29
@[reducible] def intern_without.id : FuncId := 30
@[reducible] def intern_amount.id : FuncId := 31
@[reducible] def strings_TrimRight.id : FuncId := 32
@[reducible] def intern_lower.id : FuncId := 33
@[reducible] def myers_Diff.id : FuncId := 35
@[reducible] def selvageref01_Bare.id : FuncId := 36
@[reducible] def selvageref05_runs.id : FuncId := 37
@[reducible] def selvageref05_tail.id : FuncId := 38
@[reducible] def strings_TrimSuffix.id : FuncId := 42
@[reducible] def myers_mark.id : FuncId := 48
@[reducible] def selvageref01_Whole.id : FuncId := 49
@[reducible] def myers_box_trim.id : FuncId := 55
@[reducible] def myers_snake.id : FuncId := 56
@[reducible] def myers_wrap.id : FuncId := 61
end Go.Sv
