/- What the code of Go functions comes to over abstract stores, piece by piece; each equation by the kernel. Printed by a program of this session. -/
import Derived.Test.YtgdnoobpnhmpjaaGreatDoorSvT
import Derived.KernelRfl
set_option linter.unusedVariables false
set_option maxRecDepth 100000
namespace Go.Sv
attribute [local irreducible] A5 V7 xr
open Go Go.Proofs
namespace stream_reader_now
def lvs:List (List Nat):=[[0,1],[0,1],[0,1],[0,1],[0,1],[0,1,17],[],[],[4,5],[0,1],[0,1],[0,1],[4,5]]
def lv:Nat→List Nat:=J8 lvs
noncomputable def code:Code:=F0 Tryz.f23
noncomputable def fe:FE:=⟨Tryz.f23,code,lv⟩
def A7:List Nat:=[]
abbrev X(w0:B4)(n:Nat):XT:=xr (cx w0) 31 lv n
theorem ok(w0:B4):FOK (cx w0) stream_reader_now.id fe:=⟨Tryz.func23,by kernel_rfl,by kernel_rfl⟩
section
variable (Z:XT)(w0:B4)(n:Nat)(R:RT)(σ:A1)(r:AV)(ahead:Int)
def b0:Prop:=
 A5 (cx w0) 31 lv n A7 Z code 0 (H3 0 [r,(.pv (.int .i64 ahead))]) σ (B9 (cx w0) Tryz.f23 n R)
end
variable {Z:XT}{w0:B4}{n:Nat}{R:RT}{σ τ:A1}{r:AV}{ahead:Int}
theorem b0_eq:b0 Z w0 n R σ r ahead=(
 opt (B2 r) fun t7=>opt (A3 B3 ao.td t7 1) fun t8=>opt (A6 σ ti3 t8) fun t9=>isI .i64 t9 fun t9_1=>opt (B2 r) fun t13=>opt (A3 B3 ao.td t13 0) fun t14=>opt (A6 σ J7 t14) fun t15=>opt (R5 J7.td t15) fun t16=>isI .i64 t16 fun t16_1=>B1 (decide (((IntKind.wrap .i64 (t9_1+ahead)):Int)≥t16_1)) (D9 (cx w0) n (.tup [(.pv (.str [])),(.pv (.bool false))]) σ R) (opt (B2 r) fun t19=>opt (A3 B3 ao.td t19 0) fun t20=>opt (A6 σ J7 t20) fun t21=>opt (B2 r) fun t23=>opt (A3 B3 ao.td t23 1) fun t24=>opt (A6 σ ti3 t24) fun t25=>isI .i64 t25 fun t25_1=>opt (D1 σ B3 J7.td t21 (IntKind.wrap .i64 (t25_1+ahead))) fun t28=>opt (A6 σ ti9 t28) fun t29=>isS t29 fun t29_1=>A2 (cx w0) L6.id [(.pv (.str t29_1))] σ fun r_1 σ'=>isS r_1 fun t30=>D9 (cx w0) n (.tup [(.pv (.str t30)),(.pv (.bool true))]) σ' R)):=by kernel_rfl
theorem calls(h:b0 (X w0 (List.length σ)) w0 (List.length σ) R σ r ahead):A2 (cx w0) stream_reader_now.id [r,(.pv (.int .i64 ahead))] σ R:=
 D0 (I4 w0) (x:=fe) (S:=A7) (stream_reader_now.ok w0) (by kernel_rfl) @h
attribute [irreducible] b0
end stream_reader_now
namespace stream_reader_starts
def lvs:List (List Nat):=[[0,1,2],[0,1,2],[0,1,2],[0,1,2],[2,7,8],[2,7,8],[6]]
def lv:Nat→List Nat:=J8 lvs
noncomputable def code:Code:=F0 Tryz.f56
noncomputable def fe:FE:=⟨Tryz.f56,code,lv⟩
def A7:List Nat:=[6]
abbrev X(w0:B4)(n:Nat):XT:=xr (cx w0) 21 lv n
theorem ok(w0:B4):FOK (cx w0) stream_reader_starts.id fe:=⟨Tryz.func56,by kernel_rfl,by kernel_rfl⟩
section
variable (Z:XT)(w0:B4)(n:Nat)(R:RT)(σ:A1)(t6:Bool)(r:AV)(ahead:Int)(with_:List UInt8)
def n6:Prop:=
 Z (cAt code 6) 6 [(6,(.pv (.bool t6)))] σ (B9 (cx w0) Tryz.f56 n R)
def b6:Prop:=
 A5 (cx w0) 21 lv n A7 Z (cAt code 6) 6 [(6,(.pv (.bool t6)))] σ (B9 (cx w0) Tryz.f56 n R)
def b0:Prop:=
 A5 (cx w0) 21 lv n A7 Z code 0 (H3 0 [r,(.pv (.int .i64 ahead)),(.pv (.str with_))]) σ (B9 (cx w0) Tryz.f56 n R)
end
variable {Z:XT}{w0:B4}{n:Nat}{R:RT}{σ τ:A1}{t6:Bool}{r:AV}{ahead:Int}{with_:List UInt8}
theorem b6_eq:b6 Z w0 n R σ t6=(
 D9 (cx w0) n (.pv (.bool t6)) σ R):=by kernel_rfl
theorem n6_in(h:b6 (X w0 n) w0 n R σ t6):n6 (X w0 n) w0 n R σ t6:=E1 (S:=A7) (by kernel_rfl) @h
theorem b0_eq:b0 Z w0 n R σ r ahead with_=(
 A2 (cx w0) stream_reader_now.id [r,(.pv (.int .i64 ahead))] σ fun r_1 σ'=>isTup r_1 fun vs=>opt ((vs)[0]?) fun t13=>isS t13 fun t13_1=>isTup r_1 fun vs_1=>opt ((vs_1)[1]?) fun t14=>isB t14 fun t14_1=>B1 t14_1 (A2 (cx w0) strings_HasPrefix.id [(.pv (.str t13_1)),(.pv (.str with_))] σ' fun r_2 σ'_1=>isB r_2 fun t19=>n6 Z w0 n R σ'_1 t19) (n6 Z w0 n R σ' false)):=by kernel_rfl
theorem calls(h:b0 (X w0 (List.length σ)) w0 (List.length σ) R σ r ahead with_):A2 (cx w0) stream_reader_starts.id [r,(.pv (.int .i64 ahead)),(.pv (.str with_))] σ R:=
 D0 (I4 w0) (x:=fe) (S:=A7) (stream_reader_starts.ok w0) (by kernel_rfl) @h
attribute [irreducible] n6 b6 b0
end stream_reader_starts
namespace stream_change
def lvs:List (List Nat):=[[0],[0],[0],[0],[3,4],[3,4],[3,4],[3,21],[],[],[2],[3],[3],[3],[3,4],[3,4],[2]]
def lv:Nat→List Nat:=J8 lvs
noncomputable def code:Code:=F0 Tryz.f57
noncomputable def fe:FE:=⟨Tryz.f57,code,lv⟩
def A7:List Nat:=[7,16]
abbrev X(w0:B4)(n:Nat):XT:=xr (cx w0) 33 lv n
theorem ok(w0:B4):FOK (cx w0) stream_change.id fe:=⟨Tryz.func57,by kernel_rfl,by kernel_rfl⟩
section
variable (Z:XT)(w0:B4)(n:Nat)(R:RT)(σ:A1)(H8:List UInt8)(t21 t2:Bool)(s:List UInt8)
def q5:QT:=F2 (fun env σ=>A5 (cx w0) 33 lv n A7 Z (cAt code 12) 12 (prune (lv 12) env) σ (B9 (cx w0) Tryz.f57 n R)) (B9 (cx w0) Tryz.f57 n R)
def n7:Prop:=
 Z (cAt code 7) 7 [(3,(.pv (.str H8))),(21,(.pv (.bool t21)))] σ (q5 Z w0 n R)
def b7:Prop:=
 A5 (cx w0) 33 lv n A7 Z (cAt code 7) 7 [(3,(.pv (.str H8))),(21,(.pv (.bool t21)))] σ (q5 Z w0 n R)
def n16:Prop:=
 Z (cAt code 16) 16 [(2,(.pv (.bool t2)))] σ (B9 (cx w0) Tryz.f57 n R)
def b16:Prop:=
 A5 (cx w0) 33 lv n A7 Z (cAt code 16) 16 [(2,(.pv (.bool t2)))] σ (B9 (cx w0) Tryz.f57 n R)
def b0:Prop:=
 A5 (cx w0) 33 lv n A7 Z code 0 (H3 0 [(.pv (.str s))]) σ (B9 (cx w0) Tryz.f57 n R)
end
variable {Z:XT}{w0:B4}{n:Nat}{R:RT}{σ τ:A1}{H8 s:List UInt8}{t21 t2:Bool}
theorem b7_eq:b7 Z w0 n R σ H8 t21=(
 B1 t21 (D9 (cx w0) n (.pv (.bool false)) σ R) (opt (G7 σ B3 ti9.td (.pv (.str H8)) (some (.pv (.int .i64 1))) none) fun t24=>isS t24 fun t24_1=>A2 (cx w0) stream_numbers.id [(.pv (.str t24_1))] σ fun r σ'=>isTup r fun vs=>opt ((vs)[0]?) fun t26=>isS t26 fun t26_1=>isTup r fun vs_1=>opt ((vs_1)[1]?) fun t27=>isB t27 fun t27_1=>B1 t27_1 (n16 Z w0 n R σ' ((t26_1:List UInt8) == [])) (n16 Z w0 n R σ' false))):=by kernel_rfl
theorem n7_in(h:b7 (X w0 n) w0 n R σ H8 t21):n7 (X w0 n) w0 n R σ H8 t21:=E1 (S:=A7) (by kernel_rfl) @h
theorem b16_eq:b16 Z w0 n R σ t2=(
 D9 (cx w0) n (.pv (.bool t2)) σ R):=by kernel_rfl
theorem n16_in(h:b16 (X w0 n) w0 n R σ t2):n16 (X w0 n) w0 n R σ t2:=E1 (S:=A7) (by kernel_rfl) @h
theorem b0_eq:b0 Z w0 n R σ s=(
 A2 (cx w0) stream_numbers.id [(.pv (.str s))] σ fun r σ'=>isTup r fun vs=>opt ((vs)[0]?) fun t8=>isS t8 fun t8_1=>isTup r fun vs_1=>opt ((vs_1)[1]?) fun t9=>isB t9 fun t9_1=>B1 (!t9_1) (n7 Z w0 n R σ' t8_1 true) (B1 ((t8_1:List UInt8) == []) (n7 Z w0 n R σ' t8_1 true) (opt (G7 σ' B3 ti9.td (.pv (.str t8_1)) none (some (.pv (.int .i64 1)))) fun t18=>isS t18 fun t18_1=>A2 (cx w0) K7.id [(.pv (.str [97,99,100])),(.pv (.str t18_1))] σ' fun r_1 σ'_1=>isB r_1 fun t19=>n7 Z w0 n R σ'_1 t8_1 (!t19)))):=by kernel_rfl
theorem calls(h:b0 (X w0 (List.length σ)) w0 (List.length σ) R σ s):A2 (cx w0) stream_change.id [(.pv (.str s))] σ R:=
 D0 (I4 w0) (x:=fe) (S:=A7) (stream_change.ok w0) (by kernel_rfl) @h
attribute [irreducible] n7 b7 n16 b16 b0
end stream_change
namespace stream_command
def lvs:List (List Nat):=[[0],[0],[0],[0],[0,5,6],[0,5,6],[0,5,6],[0,5,6,14],[0,5,6,14],[0,5,6,14],[0,5,6,14],[0,5,6,14,15],[0,5,6,14,15],[0,5,6,14],[0,5,6,14],[0,5,6,14,15],[0,5,6,14,15],[0,5,6,14],[0,5,6,14,15],[0,5,6],[0,5,6],[2,3,4],[0,5,6,14],[0,5,6,14],[0,5,6,14,26],[0,5,6],[0,5,6],[2,3,4],[0,5,14],[0,5,14],[0,5,14],[0,5,14,35],[0,5,14,35],[0,5,14],[0,5,14,35],[0,5],[0,5],[2,3,4],[0,5,14],[0,5,14],[0,5,41],[0,5],[0,5],[0,5,7,8],[0,5,7,8],[2,3,4],[],[],[],[2,3,4]]
def lv:Nat→List Nat:=J8 lvs
noncomputable def code:Code:=F0 Tryz.f55
noncomputable def fe:FE:=⟨Tryz.f55,code,lv⟩
def A7:List Nat:=[18,21,27,34,45]
abbrev X(w0:B4)(n:Nat):XT:=xr (cx w0) 59 lv n
theorem ok(w0:B4):FOK (cx w0) stream_command.id fe:=⟨Tryz.func55,by kernel_rfl,by kernel_rfl⟩
section
variable (Z:XT)(w0:B4)(n:Nat)(R:RT)(σ:A1)(s H8:List UInt8)(given:Bool)(t14:List UInt8)(t15 is text first t35:Bool)
def q5:QT:=F2 (fun env σ=>A5 (cx w0) 59 lv n A7 Z (cAt code 47) 47 (prune (lv 47) env) σ (B9 (cx w0) Tryz.f55 n R)) (B9 (cx w0) Tryz.f55 n R)
def q8:QT:=I3 0 (q5 Z w0 n R)
def n18:Prop:=
 Z (cAt code 18) 18 [(0,(.pv (.str s))),(5,(.pv (.str H8))),(6,(.pv (.bool given))),(14,(.pv (.str t14))),(15,(.pv (.bool t15)))] σ (q8 Z w0 n R)
def b18:Prop:=
 A5 (cx w0) 59 lv n A7 Z (cAt code 18) 18 [(0,(.pv (.str s))),(5,(.pv (.str H8))),(6,(.pv (.bool given))),(14,(.pv (.str t14))),(15,(.pv (.bool t15)))] σ (q8 Z w0 n R)
def n21:Prop:=
 Z (cAt code 21) 21 [(2,(.pv (.bool is))),(3,(.pv (.bool text))),(4,(.pv (.bool first)))] σ (q8 Z w0 n R)
def b21:Prop:=
 A5 (cx w0) 59 lv n A7 Z (cAt code 21) 21 [(2,(.pv (.bool is))),(3,(.pv (.bool text))),(4,(.pv (.bool first)))] σ (q8 Z w0 n R)
def n27:Prop:=
 Z (cAt code 27) 27 [(2,(.pv (.bool is))),(3,(.pv (.bool text))),(4,(.pv (.bool first)))] σ (q8 Z w0 n R)
def b27:Prop:=
 A5 (cx w0) 59 lv n A7 Z (cAt code 27) 27 [(2,(.pv (.bool is))),(3,(.pv (.bool text))),(4,(.pv (.bool first)))] σ (q8 Z w0 n R)
def n34:Prop:=
 Z (cAt code 34) 34 [(0,(.pv (.str s))),(5,(.pv (.str H8))),(14,(.pv (.str t14))),(35,(.pv (.bool t35)))] σ (q8 Z w0 n R)
def b34:Prop:=
 A5 (cx w0) 59 lv n A7 Z (cAt code 34) 34 [(0,(.pv (.str s))),(5,(.pv (.str H8))),(14,(.pv (.str t14))),(35,(.pv (.bool t35)))] σ (q8 Z w0 n R)
def n45:Prop:=
 Z (cAt code 45) 45 [(2,(.pv (.bool is))),(3,(.pv (.bool text))),(4,(.pv (.bool first)))] σ (q8 Z w0 n R)
def b45:Prop:=
 A5 (cx w0) 59 lv n A7 Z (cAt code 45) 45 [(2,(.pv (.bool is))),(3,(.pv (.bool text))),(4,(.pv (.bool first)))] σ (q8 Z w0 n R)
def b0:Prop:=
 A5 (cx w0) 59 lv n A7 Z code 0 (H3 0 [(.pv (.str s))]) σ (B9 (cx w0) Tryz.f55 n R)
end
variable {Z:XT}{w0:B4}{n:Nat}{R:RT}{σ τ:A1}{s H8 t14:List UInt8}{given t15 is text first t35:Bool}
theorem b18_eq:b18 Z w0 n R σ s H8 given t14 t15=(
 B1 t15 (B1 given (n21 Z w0 n R σ true true given) (n21 Z w0 n R σ ((s:List UInt8)==H8) true given)) (B1 ((t14:List UInt8) == [100]) (B1 given (n27 Z w0 n R σ true false given) (n27 Z w0 n R σ ((s:List UInt8)==H8) false given)) (B1 ((t14:List UInt8) == [119]) (n34 Z w0 n R σ s H8 t14 ((t14:List UInt8) == [119])) (n34 Z w0 n R σ s H8 t14 ((t14:List UInt8) == [113]))))):=by kernel_rfl
theorem n18_in(h:b18 (X w0 n) w0 n R σ s H8 given t14 t15):n18 (X w0 n) w0 n R σ s H8 given t14 t15:=E1 (S:=A7) (by kernel_rfl) @h
theorem b21_eq:b21 Z w0 n R σ is text first=(
 D9 (cx w0) n (.tup [(.pv (.bool is)),(.pv (.bool text)),(.pv (.bool first))]) σ R):=by kernel_rfl
theorem n21_in(h:b21 (X w0 n) w0 n R σ is text first):n21 (X w0 n) w0 n R σ is text first:=E1 (S:=A7) (by kernel_rfl) @h
theorem b27_eq:b27 Z w0 n R σ is text first=(
 D9 (cx w0) n (.tup [(.pv (.bool is)),(.pv (.bool text)),(.pv (.bool first))]) σ R):=by kernel_rfl
theorem n27_in(h:b27 (X w0 n) w0 n R σ is text first):n27 (X w0 n) w0 n R σ is text first:=E1 (S:=A7) (by kernel_rfl) @h
theorem b34_eq:b34 Z w0 n R σ s H8 t14 t35=(
 B1 t35 (D9 (cx w0) n (.tup [(.pv (.bool ((s:List UInt8)==H8))),(.pv (.bool false)),(.pv (.bool false))]) σ R) (B1 ((t14:List UInt8) == [115,47,46,47,47]) (A2 (cx w0) stream_digits.id [(.pv (.str s))] σ fun r σ'=>isTup r fun vs=>opt ((vs)[0]?) fun t46=>isS t46 fun t46_1=>isTup r fun vs_1=>opt ((vs_1)[1]?) fun t47=>isB t47 fun t47_1=>B1 ((s:List UInt8)==H8) (n45 Z w0 n R σ' true false false) (B1 t47_1 (n45 Z w0 n R σ' ((t46_1:List UInt8)==H8) false false) (n45 Z w0 n R σ' false false false))) (D9 (cx w0) n (.tup [(.pv (.bool false)),(.pv (.bool false)),(.pv (.bool false))]) σ R))):=by kernel_rfl
theorem n34_in(h:b34 (X w0 n) w0 n R σ s H8 t14 t35):n34 (X w0 n) w0 n R σ s H8 t14 t35:=E1 (S:=A7) (by kernel_rfl) @h
theorem b45_eq:b45 Z w0 n R σ is text first=(
 D9 (cx w0) n (.tup [(.pv (.bool is)),(.pv (.bool text)),(.pv (.bool first))]) σ R):=by kernel_rfl
theorem n45_in(h:b45 (X w0 n) w0 n R σ is text first):n45 (X w0 n) w0 n R σ is text first:=E1 (S:=A7) (by kernel_rfl) @h
theorem b0_eq:b0 Z w0 n R σ s=(
 A2 (cx w0) stream_numbers.id [(.pv (.str s))] σ fun r σ'=>isTup r fun vs=>opt ((vs)[0]?) fun t12=>isS t12 fun t12_1=>isTup r fun vs_1=>opt ((vs_1)[1]?) fun t13=>isB t13 fun t13_1=>B1 ((t12_1:List UInt8) == [97]) (n18 Z w0 n R σ' s t12_1 t13_1 t12_1 ((t12_1:List UInt8) == [97])) (B1 ((t12_1:List UInt8) == [99]) (n18 Z w0 n R σ' s t12_1 t13_1 t12_1 ((t12_1:List UInt8) == [99])) (n18 Z w0 n R σ' s t12_1 t13_1 t12_1 ((t12_1:List UInt8) == [105])))):=by kernel_rfl
theorem calls(h:b0 (X w0 (List.length σ)) w0 (List.length σ) R σ s):A2 (cx w0) stream_command.id [(.pv (.str s))] σ R:=
 D0 (I4 w0) (x:=fe) (S:=A7) (stream_command.ok w0) (by kernel_rfl) @h
attribute [irreducible] n18 b18 n21 b21 n27 b27 n34 b34 n45 b45 b0
end stream_command
namespace stream_reader_add
def lvs:List (List Nat):=[[0,1,2],[0,1,2],[0,2,4],[0,2,4],[0,2,4],[0,2,4],[0,2,4],[0,2,4],[0,2]]
def lv:Nat→List Nat:=J8 lvs
noncomputable def code:Code:=F0 Tryz.f59
noncomputable def fe:FE:=⟨Tryz.f59,code,lv⟩
def A7:List Nat:=[]
abbrev X(w0:B4)(n:Nat):XT:=xr (cx w0) 38 lv n
theorem ok(w0:B4):FOK (cx w0) stream_reader_add.id fe:=⟨Tryz.func59,by kernel_rfl,by kernel_rfl⟩
section
variable (Z:XT)(w0:B4)(n:Nat)(R:RT)(σ:A1)(r s:AV)(count:Int)
def b0:Prop:=
 A5 (cx w0) 38 lv n A7 Z code 0 (H3 0 [r,s,(.pv (.int .i64 count))]) σ (B9 (cx w0) Tryz.f59 n R)
end
variable {Z:XT}{w0:B4}{n:Nat}{R:RT}{σ τ:A1}{r s:AV}{count:Int}
theorem b0_eq:b0 Z w0 n R σ r s count=(
 ((AV.cells s).all AV.one=true∧(opt (B2 r) fun t7=>opt (A3 B3 ao.td t7 1) fun t8=>opt (A6 (σ ++ [.cells 31 (AV.cells s)]) ti3 t8) fun t9=>isI .i64 t9 fun t9_1=>opt (A3 B3 nq.td (.ptr (List.length σ) 0) 6) fun t11=>opt (C2 (σ ++ [.cells 31 (AV.cells s)]) ti3 t11 (.pv (.int .i64 (IntKind.wrap .i64 (t9_1+1))))) fun σ'=>opt (B2 r) fun t14=>opt (A3 B3 ao.td t14 2) fun t15=>opt (A6 σ' ti9 t15) fun t16=>isS t16 fun t16_1=>opt (A3 B3 nq.td (.ptr (List.length σ) 0) 3) fun t17=>opt (C2 σ' ti9 t17 (.pv (.str t16_1))) fun σ'_1=>opt (B2 r) fun t18=>opt (A3 B3 ao.td t18 2) fun t19=>opt (C2 σ'_1 ti9 t19 (.pv (.str []))) fun σ'_2=>opt (B2 r) fun t22=>opt (A3 B3 ao.td t22 3) fun t23=>opt (A6 σ'_2 ti22 t23) fun t24=>opt (A6 σ'_2 nq (.ptr (List.length σ) 0)) fun t25=>opt2 (H9 σ'_2 nq false 1 [(0,t25)]) fun t26 σ'_3=>((opt (A6 σ'_3 ti22 t23) fun t24_1=>((t24_1:AV)=t24))∧(opt2 (L0 σ'_3 nq t24 t26) fun t27 σ'_4=>opt (B2 r) fun t28=>opt (A3 B3 ao.td t28 3) fun t29=>opt (C2 σ'_4 ti22 t29 t27) fun σ'_5=>opt (B2 r) fun t31=>opt (A3 B3 ao.td t31 1) fun t32=>opt (A6 σ'_5 ti3 t32) fun t33=>isI .i64 t33 fun t33_1=>opt (B2 r) fun t36=>opt (A3 B3 ao.td t36 1) fun t37=>opt (C2 σ'_5 ti3 t37 (.pv (.int .i64 (IntKind.wrap .i64 (t33_1+count))))) fun σ'_6=>D9 (cx w0) n (.tup []) σ'_6 R))))):=by kernel_rfl
theorem calls(h:b0 (X w0 (List.length σ)) w0 (List.length σ) R σ r s count):A2 (cx w0) stream_reader_add.id [r,s,(.pv (.int .i64 count))] σ R:=
 D0 (I4 w0) (x:=fe) (S:=A7) (stream_reader_add.ok w0) (by kernel_rfl) @h
attribute [irreducible] b0
end stream_reader_add
namespace stream_reader_text
def lvs:List (List Nat):=[[0],[0],[0],[0],[2]]
def lv:Nat→List Nat:=J8 lvs
noncomputable def code:Code:=F0 Tryz.f58
noncomputable def fe:FE:=⟨Tryz.f58,code,lv⟩
def A7:List Nat:=[]
abbrev X(w0:B4)(n:Nat):XT:=xr (cx w0) 13 lv n
theorem ok(w0:B4):FOK (cx w0) stream_reader_text.id fe:=⟨Tryz.func58,by kernel_rfl,by kernel_rfl⟩
section
variable (Z:XT)(w0:B4)(n:Nat)(R:RT)(σ:A1)(r:AV)
def b0:Prop:=
 A5 (cx w0) 13 lv n A7 Z code 0 (H3 0 [r]) σ (B9 (cx w0) Tryz.f58 n R)
end
variable {Z:XT}{w0:B4}{n:Nat}{R:RT}{σ τ:A1}{r:AV}
theorem b0_eq:b0 Z w0 n R σ r=(
 opt (B2 r) fun t4=>opt (A3 B3 ao.td t4 0) fun t5=>opt (A6 σ J7 t5) fun t6=>opt (B2 r) fun t8=>opt (A3 B3 ao.td t8 1) fun t9=>opt (A6 σ ti3 t9) fun t10=>isI .i64 t10 fun t10_1=>opt (G7 σ B3 J7.td t6 (some (.pv (.int .i64 t10_1))) none) fun t11=>A2 (cx w0) R6.id [t11] σ fun r_1 σ'=>isS r_1 fun t12=>D9 (cx w0) n (.pv (.str t12)) σ' R):=by kernel_rfl
theorem calls(h:b0 (X w0 (List.length σ)) w0 (List.length σ) R σ r):A2 (cx w0) stream_reader_text.id [r] σ R:=
 D0 (I4 w0) (x:=fe) (S:=A7) (stream_reader_text.ok w0) (by kernel_rfl) @h
attribute [irreducible] b0
end stream_reader_text
namespace stream_reader_taken
def lvs:List (List Nat):=[[0,1],[0,1],[0,1],[0,1],[4]]
def lv:Nat→List Nat:=J8 lvs
noncomputable def code:Code:=F0 Tryz.f60
noncomputable def fe:FE:=⟨Tryz.f60,code,lv⟩
def A7:List Nat:=[]
abbrev X(w0:B4)(n:Nat):XT:=xr (cx w0) 18 lv n
theorem ok(w0:B4):FOK (cx w0) stream_reader_taken.id fe:=⟨Tryz.func60,by kernel_rfl,by kernel_rfl⟩
section
variable (Z:XT)(w0:B4)(n:Nat)(R:RT)(σ:A1)(r:AV)(H8:List UInt8)
def b0:Prop:=
 A5 (cx w0) 18 lv n A7 Z code 0 (H3 0 [r,(.pv (.str H8))]) σ (B9 (cx w0) Tryz.f60 n R)
end
variable {Z:XT}{w0:B4}{n:Nat}{R:RT}{σ τ:A1}{r:AV}{H8:List UInt8}
theorem b0_eq:b0 Z w0 n R σ r H8=(
 opt (B2 r) fun t6=>opt (A3 B3 ao.td t6 0) fun t7=>opt (A6 σ J7 t7) fun t8=>opt (R5 J7.td t8) fun t9=>isI .i64 t9 fun t9_1=>opt (B2 r) fun t11=>opt (A3 B3 ao.td t11 1) fun t12=>opt (A6 σ ti3 t12) fun t13=>isI .i64 t13 fun t13_1=>A2 (cx w0) L9.id [(.pv (.str H8))] σ fun r_1 σ'=>isI .i64 r_1 fun t16=>((opt (A6 σ' J7 t7) fun t8_1=>((t8_1:AV)=t8))∧(((opt (A6 σ' ti3 t12) fun t13_2=>((t13_2:AV)=(.pv (.int .i64 t13_1))))∧(D9 (cx w0) n (.pv (.int .i64 (IntKind.wrap .i64 ((IntKind.wrap .i64 (t9_1-t13_1))-t16)))) σ' R))))):=by kernel_rfl
theorem calls(h:b0 (X w0 (List.length σ)) w0 (List.length σ) R σ r H8):A2 (cx w0) stream_reader_taken.id [r,(.pv (.str H8))] σ R:=
 D0 (I4 w0) (x:=fe) (S:=A7) (stream_reader_taken.ok w0) (by kernel_rfl) @h
attribute [irreducible] b0
end stream_reader_taken
namespace stream_reader_named
def lvs:List (List Nat):=[[0,1,2],[0,1,2],[0,1,2],[0,1,2],[0,1,8,9,10,11,12,13],[0,1,8,9,10,11,12,13],[0,1,8,9,10,11,12,13],[0,1,8,9,10,11,12,13,26],[0,12,13],[0,12,13],[6,7],[0,1,8,9,10,11],[0,1,8,9,10,11],[0,1,8,9,10,11],[],[],[6,7]]
def lv:Nat→List Nat:=J8 lvs
noncomputable def code:Code:=F0 Tryz.f25
noncomputable def fe:FE:=⟨Tryz.f25,code,lv⟩
def A7:List Nat:=[]
abbrev X(w0:B4)(n:Nat):XT:=xr (cx w0) 44 lv n
theorem ok(w0:B4):FOK (cx w0) stream_reader_named.id fe:=⟨Tryz.func25,by kernel_rfl,by kernel_rfl⟩
section
variable (Z:XT)(w0:B4)(n:Nat)(R:RT)(σ:A1)(r:AV)(format:Int)(parse:AV)
def b0:Prop:=
 A5 (cx w0) 44 lv n A7 Z code 0 (H3 0 [r,(.pv (.int .i64 format)),parse]) σ (B9 (cx w0) Tryz.f25 n R)
end
variable {Z:XT}{w0:B4}{n:Nat}{R:RT}{σ τ:A1}{r parse:AV}{format:Int}
theorem b0_eq:b0 Z w0 n R σ r format parse=(
 A2 (cx w0) stream_reader_text.id [r] σ fun r_1 σ'=>isS r_1 fun t17=>opt (eg parse [(.pv (.str t17))]) fun p=>A2 (cx w0) (Prod.fst p) (Prod.snd p) σ' fun r_2 σ'_1=>isTup r_2 fun vs=>opt ((vs)[0]?) fun t19=>isTup r_2 fun vs_1=>opt ((vs_1)[1]?) fun t20=>isTup r_2 fun vs_2=>opt ((vs_2)[2]?) fun t21=>isTup r_2 fun vs_3=>opt ((vs_3)[3]?) fun t22=>isS t22 fun t22_1=>isTup r_2 fun vs_4=>opt ((vs_4)[4]?) fun t23=>isI .i64 t23 fun t23_1=>isTup r_2 fun vs_5=>opt ((vs_5)[5]?) fun t24=>opt (C2 ((σ'_1 ++ [.cells 28 (AV.ofValue F1.zero).cells]) ++ [.cells 28 (AV.ofValue F1.zero).cells]) F1 (.ptr (List.length σ'_1) 0) t19) fun σ'_2=>opt (C2 σ'_2 F1 (.ptr (List.length (σ'_1 ++ [.cells 28 (AV.ofValue F1.zero).cells])) 0) t20) fun σ'_3=>Q9 B3 24 true .neq t24 (.pv (.raw .nilIface)) fun v=>isB v fun b=>B1 b (opt (B2 r) fun t28=>opt (A3 B3 ao.td t28 1) fun t29=>opt (A6 σ'_3 ti3 t29) fun t30=>isI .i64 t30 fun t30_1=>D9 (cx w0) n (.tup [(.pv (.int .i64 (IntKind.wrap .i64 (t30_1+t23_1)))),t24]) σ'_3 R) (opt (A6 σ'_3 F1 (.ptr (List.length σ'_1) 0)) fun t36=>opt (A6 σ'_3 F1 (.ptr (List.length (σ'_1 ++ [.cells 28 (AV.ofValue F1.zero).cells])) 0)) fun t37=>opt (N3 B3 nq [(0,(.pv (.int .i64 format))),(1,t36),(2,t37),(4,t21)]) fun t39=>A2 (cx w0) stream_reader_taken.id [r,(.pv (.str t22_1))] σ'_3 fun r_3 σ'_4=>isI .i64 r_3 fun t42=>((opt (A6 σ'_4 F1 (.ptr (List.length σ'_1) 0)) fun t36_1=>((t36_1:AV)=t36))∧(((opt (A6 σ'_4 F1 (.ptr (List.length (σ'_1 ++ [.cells 28 (AV.ofValue F1.zero).cells])) 0)) fun t37_1=>((t37_1:AV)=t37))∧(A2 (cx w0) stream_reader_add.id [r,t39,(.pv (.int .i64 t42))] σ'_4 fun r_4 σ'_5=>D9 (cx w0) n (.tup [(.pv (.int .i64 0)),(.pv (.raw .nilIface))]) σ'_5 R)))))):=by kernel_rfl
theorem calls(h:b0 (X w0 (List.length σ)) w0 (List.length σ) R σ r format parse):A2 (cx w0) stream_reader_named.id [r,(.pv (.int .i64 format)),parse] σ R:=
 D0 (I4 w0) (x:=fe) (S:=A7) (stream_reader_named.ok w0) (by kernel_rfl) @h
attribute [irreducible] b0
end stream_reader_named
namespace stream_reader_plain
def lvs:List (List Nat):=[[0],[0],[0],[0],[0,4,5,6,7],[0,4,5,6,7],[0,4,5,6,7],[0,4,5,6,7,17],[0,6,7],[0,6,7],[2,3],[0,4,5],[0,4,5],[0,4,5],[],[],[2,3]]
def lv:Nat→List Nat:=J8 lvs
noncomputable def code:Code:=F0 Tryz.f28
noncomputable def fe:FE:=⟨Tryz.f28,code,lv⟩
def A7:List Nat:=[]
abbrev X(w0:B4)(n:Nat):XT:=xr (cx w0) 32 lv n
theorem ok(w0:B4):FOK (cx w0) stream_reader_plain.id fe:=⟨Tryz.func28,by kernel_rfl,by kernel_rfl⟩
section
variable (Z:XT)(w0:B4)(n:Nat)(R:RT)(σ:A1)(r:AV)
def b0:Prop:=
 A5 (cx w0) 32 lv n A7 Z code 0 (H3 0 [r]) σ (B9 (cx w0) Tryz.f28 n R)
end
variable {Z:XT}{w0:B4}{n:Nat}{R:RT}{σ τ:A1}{r:AV}
theorem b0_eq:b0 Z w0 n R σ r=(
 A2 (cx w0) stream_reader_text.id [r] σ fun r_1 σ'=>isS r_1 fun t10=>A2 (cx w0) normal_Parse.id [(.pv (.str t10))] σ' fun r_2 σ'_1=>isTup r_2 fun vs=>opt ((vs)[0]?) fun t12=>isTup r_2 fun vs_1=>opt ((vs_1)[1]?) fun t13=>isS t13 fun t13_1=>isTup r_2 fun vs_2=>opt ((vs_2)[2]?) fun t14=>isI .i64 t14 fun t14_1=>isTup r_2 fun vs_3=>opt ((vs_3)[3]?) fun t15=>Q9 B3 24 true .neq t15 (.pv (.raw .nilIface)) fun v=>isB v fun b=>B1 b (opt (B2 r) fun t19=>opt (A3 B3 ao.td t19 1) fun t20=>opt (A6 σ'_1 ti3 t20) fun t21=>isI .i64 t21 fun t21_1=>D9 (cx w0) n (.tup [(.pv (.int .i64 (IntKind.wrap .i64 (t21_1+t14_1)))),t15]) σ'_1 R) (opt (N3 B3 nq [(0,(.pv (.int .i64 1))),(4,t12)]) fun t27=>A2 (cx w0) stream_reader_taken.id [r,(.pv (.str t13_1))] σ'_1 fun r_3 σ'_2=>isI .i64 r_3 fun t30=>A2 (cx w0) stream_reader_add.id [r,t27,(.pv (.int .i64 t30))] σ'_2 fun r_4 σ'_3=>D9 (cx w0) n (.tup [(.pv (.int .i64 0)),(.pv (.raw .nilIface))]) σ'_3 R)):=by kernel_rfl
theorem calls(h:b0 (X w0 (List.length σ)) w0 (List.length σ) R σ r):A2 (cx w0) stream_reader_plain.id [r] σ R:=
 D0 (I4 w0) (x:=fe) (S:=A7) (stream_reader_plain.ok w0) (by kernel_rfl) @h
attribute [irreducible] b0
end stream_reader_plain
namespace stream_reader_ed
def lvs:List (List Nat):=[[0],[0],[0,2],[0,2],[0,2],[0,2],[0,2],[0,2],[0,2,3,4],[0,2,3,4],[0,2,4,5,6],[0,2,4,5,6],[0,2,4,5,6],[0,2,6,25],[0,2],[0,2,6],[0,2,6],[0,2,6],[0,2,6],[0,2,6],[0,2,6],[0,2,6],[0,2,6],[0,2,28],[0,2],[0,2],[0,2],[0,2],[0,2],[0,2,3,4],[0,2,3,4],[0,2,3,4],[0,2,3,36],[0,2],[0,2,3],[0,2,3],[0,2,3],[0,2,3],[0,2]]
def lv:Nat→List Nat:=J8 lvs
noncomputable def code:Code:=F0 Tryz.f29
noncomputable def fe:FE:=⟨Tryz.f29,code,lv⟩
def A7:List Nat:=[5,13,20,38]
abbrev X(w0:B4)(n:Nat):XT:=xr (cx w0) 61 lv n
theorem ok(w0:B4):FOK (cx w0) stream_reader_ed.id fe:=⟨Tryz.func29,by kernel_rfl,by kernel_rfl⟩
section
variable (Z:XT)(w0:B4)(n:Nat)(R:RT)(σ:A1)(r:AV)(n_:Int)(text t25:Bool)
def q3:QT:=F2 (fun env σ=>Z (cAt code 38) 38 (prune (lv 38) env) σ (B9 (cx w0) Tryz.f29 n R)) (B9 (cx w0) Tryz.f29 n R)
def q4:QT:=I3 0 (q3 Z w0 n R)
def q5:QT:=F2 (fun env σ=>Z (cAt code 4) 4 (prune (lv 4) env) σ (q4 Z w0 n R)) (q4 Z w0 n R)
def q6:QT:=I3 1 (q5 Z w0 n R)
def q11:QT:=F2 (fun env σ=>A5 (cx w0) 61 lv n A7 Z (cAt code 16) 16 (prune (lv 16) env) σ (q6 Z w0 n R)) (q6 Z w0 n R)
def q19:QT:=I3 2 (q6 Z w0 n R)
def q20:QT:=F2 (fun env σ=>Z (cAt code 19) 19 (prune (lv 19) env) σ (q19 Z w0 n R)) (q19 Z w0 n R)
def n4:Prop:=
 Z (cAt code 4) 4 [(0,r),(2,(.pv (.int .i64 n_)))] σ (q4 Z w0 n R)
def b5:Prop:=
 A5 (cx w0) 61 lv n A7 Z (cAt code 5) 5 [(0,r),(2,(.pv (.int .i64 n_)))] σ (q5 Z w0 n R)
def n13:Prop:=
 Z (cAt code 13) 13 [(0,r),(2,(.pv (.int .i64 n_))),(6,(.pv (.bool text))),(25,(.pv (.bool t25)))] σ (q11 Z w0 n R)
def b13:Prop:=
 A5 (cx w0) 61 lv n A7 Z (cAt code 13) 13 [(0,r),(2,(.pv (.int .i64 n_))),(6,(.pv (.bool text))),(25,(.pv (.bool t25)))] σ (q11 Z w0 n R)
def n19:Prop:=
 Z (cAt code 19) 19 [(0,r),(2,(.pv (.int .i64 n_))),(6,(.pv (.bool text)))] σ (q19 Z w0 n R)
def b20:Prop:=
 A5 (cx w0) 61 lv n A7 Z (cAt code 20) 20 [(0,r),(2,(.pv (.int .i64 n_))),(6,(.pv (.bool text)))] σ (q20 Z w0 n R)
def n38:Prop:=
 Z (cAt code 38) 38 [(0,r),(2,(.pv (.int .i64 n_)))] σ (B9 (cx w0) Tryz.f29 n R)
def b38:Prop:=
 A5 (cx w0) 61 lv n A7 Z (cAt code 38) 38 [(0,r),(2,(.pv (.int .i64 n_)))] σ (B9 (cx w0) Tryz.f29 n R)
def b0:Prop:=
 A5 (cx w0) 61 lv n A7 Z code 0 (H3 0 [r]) σ (B9 (cx w0) Tryz.f29 n R)
end
variable {Z:XT}{w0:B4}{n:Nat}{R:RT}{σ τ:A1}{r r':AV}{n_ n_':Int}{text t25 text':Bool}
theorem n4_in(h:b5 (X w0 n) w0 n R σ r n_):n4 (X w0 n) w0 n R σ r n_:=J9 (I4 w0) (S:=A7) (by kernel_rfl:cAt code 4 = .loop (cAt code 5)) @h
theorem b5_eq:b5 Z w0 n R σ r n_=(
 A2 (cx w0) stream_reader_now.id [r,(.pv (.int .i64 n_))] σ fun r_1 σ'=>isTup r_1 fun vs=>opt ((vs)[0]?) fun t12=>isS t12 fun t12_1=>isTup r_1 fun vs_1=>opt ((vs_1)[1]?) fun t13=>isB t13 fun t13_1=>A2 (cx w0) stream_command.id [(.pv (.str t12_1))] σ' fun r_2 σ'_1=>isTup r_2 fun vs_2=>opt ((vs_2)[0]?) fun t17=>isB t17 fun t17_1=>isTup r_2 fun vs_3=>opt ((vs_3)[1]?) fun t18=>isB t18 fun t18_1=>isTup r_2 fun vs_4=>opt ((vs_4)[2]?) fun t19=>isB t19 fun t19_1=>B1 (!t13_1) (n13 Z w0 n R σ'_1 r n_ t18_1 true) (n13 Z w0 n R σ'_1 r n_ t18_1 (!t17_1))):=by kernel_rfl
theorem b13_eq:b13 Z w0 n R σ r n_ text t25=(
 B1 t25 (n38 Z w0 n R σ r n_) (n19 Z w0 n R σ r (IntKind.wrap .i64 (n_+1)) text)):=by kernel_rfl
theorem n13_in(h:b13 (X w0 n) w0 n R σ r n_ text t25):n13 (X w0 n) w0 n R σ r n_ text t25:=E1 (S:=A7) (by kernel_rfl) @h
theorem n19_in(h:b20 (X w0 n) w0 n R σ r n_ text):n19 (X w0 n) w0 n R σ r n_ text:=J9 (I4 w0) (S:=A7) (by kernel_rfl:cAt code 19 = .loop (cAt code 20)) @h
theorem b20_eq:b20 Z w0 n R σ r n_ text=(
 B1 text (A2 (cx w0) stream_reader_now.id [r,(.pv (.int .i64 n_))] σ fun r_1 σ'=>isTup r_1 fun vs=>opt ((vs)[0]?) fun t33=>isS t33 fun t33_1=>isTup r_1 fun vs_1=>opt ((vs_1)[1]?) fun t34=>isB t34 fun t34_1=>B1 (!t34_1) (n4 Z w0 n R σ' r n_) (n19 Z w0 n R σ' r (IntKind.wrap .i64 (n_+1)) (!((t33_1:List UInt8) == [46])))) (n4 Z w0 n R σ r n_)):=by kernel_rfl
theorem b38_eq:b38 Z w0 n R σ r n_=(
 opt (B2 r) fun t43=>opt (A3 B3 ao.td t43 0) fun t44=>opt (A6 σ J7 t44) fun t45=>opt (B2 r) fun t47=>opt (A3 B3 ao.td t47 1) fun t48=>opt (A6 σ ti3 t48) fun t49=>isI .i64 t49 fun t49_1=>opt (B2 r) fun t51=>opt (A3 B3 ao.td t51 1) fun t52=>opt (A6 σ ti3 t52) fun t53=>isI .i64 t53 fun t53_1=>opt (G7 σ B3 J7.td t45 (some (.pv (.int .i64 t49_1))) (some (.pv (.int .i64 (IntKind.wrap .i64 (t53_1+n_)))))) fun t56=>A2 (cx w0) R6.id [t56] σ fun r_1 σ'=>isS r_1 fun t57=>opt (N3 B3 nq [(0,(.pv (.int .i64 4))),(5,(.pv (.str t57)))]) fun t58=>A2 (cx w0) stream_reader_add.id [r,t58,(.pv (.int .i64 n_))] σ' fun r_2 σ'_1=>D9 (cx w0) n (.tup []) σ'_1 R):=by kernel_rfl
theorem n38_in(h:b38 (X w0 n) w0 n R σ r n_):n38 (X w0 n) w0 n R σ r n_:=E1 (S:=A7) (by kernel_rfl) @h
theorem b0_eq:b0 Z w0 n R σ r=(
 n4 Z w0 n R σ r 0):=by kernel_rfl
theorem calls(h:b0 (X w0 (List.length σ)) w0 (List.length σ) R σ r):A2 (cx w0) stream_reader_ed.id [r] σ R:=
 D0 (I4 w0) (x:=fe) (S:=A7) (stream_reader_ed.ok w0) (by kernel_rfl) @h
attribute [irreducible] n4 b5 n13 b13 n19 b20 n38 b38 b0
end stream_reader_ed
namespace stream_reader_note
def lvs:List (List Nat):=[[0,1],[0,1],[0,1],[0,4,5],[0,4,5],[0,4,14],[0,4],[0,4],[0,6,7,8],[0,6,7,8],[0,6,27],[0,6],[0],[0],[0]]
def lv:Nat→List Nat:=J8 lvs
noncomputable def code:Code:=F0 Tryz.f30
noncomputable def fe:FE:=⟨Tryz.f30,code,lv⟩
def A7:List Nat:=[10,14]
abbrev X(w0:B4)(n:Nat):XT:=xr (cx w0) 39 lv n
theorem ok(w0:B4):FOK (cx w0) stream_reader_note.id fe:=⟨Tryz.func30,by kernel_rfl,by kernel_rfl⟩
section
variable (Z:XT)(w0:B4)(n:Nat)(R:RT)(σ:A1)(r:AV)(name:List UInt8)(t27:Bool)(s:List UInt8)
def q1:QT:=F2 (fun env σ=>Z (cAt code 14) 14 (prune (lv 14) env) σ (B9 (cx w0) Tryz.f30 n R)) (B9 (cx w0) Tryz.f30 n R)
def n10:Prop:=
 Z (cAt code 10) 10 [(0,r),(6,(.pv (.str name))),(27,(.pv (.bool t27)))] σ (q1 Z w0 n R)
def b10:Prop:=
 A5 (cx w0) 39 lv n A7 Z (cAt code 10) 10 [(0,r),(6,(.pv (.str name))),(27,(.pv (.bool t27)))] σ (q1 Z w0 n R)
def n14:Prop:=
 Z (cAt code 14) 14 [(0,r)] σ (B9 (cx w0) Tryz.f30 n R)
def b14:Prop:=
 A5 (cx w0) 39 lv n A7 Z (cAt code 14) 14 [(0,r)] σ (B9 (cx w0) Tryz.f30 n R)
def b0:Prop:=
 A5 (cx w0) 39 lv n A7 Z code 0 (H3 0 [r,(.pv (.str s))]) σ (B9 (cx w0) Tryz.f30 n R)
end
variable {Z:XT}{w0:B4}{n:Nat}{R:RT}{σ τ:A1}{r:AV}{name s:List UInt8}{t27:Bool}
theorem b10_eq:b10 Z w0 n R σ r name t27=(
 B1 t27 (opt (B2 r) fun t30=>opt (A3 B3 ao.td t30 2) fun t31=>opt (C2 σ ti9 t31 (.pv (.str name))) fun σ'=>n14 Z w0 n R σ' r) (n14 Z w0 n R σ r)):=by kernel_rfl
theorem n10_in(h:b10 (X w0 n) w0 n R σ r name t27):n10 (X w0 n) w0 n R σ r name t27:=E1 (S:=A7) (by kernel_rfl) @h
theorem b14_eq:b14 Z w0 n R σ r=(
 opt (B2 r) fun t33=>opt (A3 B3 ao.td t33 1) fun t34=>opt (A6 σ ti3 t34) fun t35=>isI .i64 t35 fun t35_1=>opt (B2 r) fun t37=>opt (A3 B3 ao.td t37 1) fun t38=>opt (C2 σ ti3 t38 (.pv (.int .i64 (IntKind.wrap .i64 (t35_1+1))))) fun σ'=>D9 (cx w0) n (.tup []) σ' R):=by kernel_rfl
theorem n14_in(h:b14 (X w0 n) w0 n R σ r):n14 (X w0 n) w0 n R σ r:=E1 (S:=A7) (by kernel_rfl) @h
theorem b0_eq:b0 Z w0 n R σ r s=(
 A2 (cx w0) E8.id [(.pv (.str s)),(.pv (.str [73,110,100,101,120,58]))] σ fun r_1 σ'=>isTup r_1 fun vs=>opt ((vs)[0]?) fun t12=>isS t12 fun t12_1=>isTup r_1 fun vs_1=>opt ((vs_1)[1]?) fun t13=>isB t13 fun t13_1=>B1 t13_1 (A2 (cx w0) F6.id [(.pv (.str t12_1)),(.pv (.str [32]))] σ' fun r_2 σ'_1=>isS r_2 fun t17=>A2 (cx w0) G3.id [(.pv (.str t17))] σ'_1 fun r_3 σ'_2=>isTup r_3 fun vs_2=>opt ((vs_2)[0]?) fun t19=>isS t19 fun t19_1=>isTup r_3 fun vs_3=>opt ((vs_3)[1]?) fun t20=>isS t20 fun t20_1=>isTup r_3 fun vs_4=>opt ((vs_4)[2]?) fun t21=>Q9 B3 24 true .eql t21 (.pv (.raw .nilIface)) fun v=>isB v fun b=>B1 b (n10 Z w0 n R σ'_2 r t19_1 ((t20_1:List UInt8) == [])) (n10 Z w0 n R σ'_2 r t19_1 false)) (n14 Z w0 n R σ' r)):=by kernel_rfl
theorem calls(h:b0 (X w0 (List.length σ)) w0 (List.length σ) R σ r s):A2 (cx w0) stream_reader_note.id [r,(.pv (.str s))] σ R:=
 D0 (I4 w0) (x:=fe) (S:=A7) (stream_reader_note.ok w0) (by kernel_rfl) @h
attribute [irreducible] n10 b10 n14 b14 b0
end stream_reader_note
namespace stream_reader_begins
def lvs:List (List Nat):=[[0,1],[0,1],[0,1],[0,1],[0,1,7],[0,1,7],[0,1,7],[0,1,7],[0,1,7,14],[],[],[4],[0,1,7],[0,1,7],[0,1,7,21],[],[],[4],[0,1,7],[0,1,7],[7,32],[],[],[4],[7],[7],[43],[],[],[4],[],[],[],[4]]
def lv:Nat→List Nat:=J8 lvs
noncomputable def code:Code:=F0 Tryz.f24
noncomputable def fe:FE:=⟨Tryz.f24,code,lv⟩
def A7:List Nat:=[8,14,20]
abbrev X(w0:B4)(n:Nat):XT:=xr (cx w0) 45 lv n
theorem ok(w0:B4):FOK (cx w0) stream_reader_begins.id fe:=⟨Tryz.func24,by kernel_rfl,by kernel_rfl⟩
section
variable (Z:XT)(w0:B4)(n:Nat)(R:RT)(σ:A1)(r:AV)(s:List UInt8)(first t14 t21 t32:Bool)
def q5:QT:=F2 (fun env σ=>A5 (cx w0) 45 lv n A7 Z (cAt code 31) 31 (prune (lv 31) env) σ (B9 (cx w0) Tryz.f24 n R)) (B9 (cx w0) Tryz.f24 n R)
def q6:QT:=I3 0 (q5 Z w0 n R)
def n8:Prop:=
 Z (cAt code 8) 8 [(0,r),(1,(.pv (.str s))),(7,(.pv (.bool first))),(14,(.pv (.bool t14)))] σ (q6 Z w0 n R)
def b8:Prop:=
 A5 (cx w0) 45 lv n A7 Z (cAt code 8) 8 [(0,r),(1,(.pv (.str s))),(7,(.pv (.bool first))),(14,(.pv (.bool t14)))] σ (q6 Z w0 n R)
def n14:Prop:=
 Z (cAt code 14) 14 [(0,r),(1,(.pv (.str s))),(7,(.pv (.bool first))),(21,(.pv (.bool t21)))] σ (q6 Z w0 n R)
def b14:Prop:=
 A5 (cx w0) 45 lv n A7 Z (cAt code 14) 14 [(0,r),(1,(.pv (.str s))),(7,(.pv (.bool first))),(21,(.pv (.bool t21)))] σ (q6 Z w0 n R)
def n20:Prop:=
 Z (cAt code 20) 20 [(7,(.pv (.bool first))),(32,(.pv (.bool t32)))] σ (q6 Z w0 n R)
def b20:Prop:=
 A5 (cx w0) 45 lv n A7 Z (cAt code 20) 20 [(7,(.pv (.bool first))),(32,(.pv (.bool t32)))] σ (q6 Z w0 n R)
def b0:Prop:=
 A5 (cx w0) 45 lv n A7 Z code 0 (H3 0 [r,(.pv (.str s))]) σ (B9 (cx w0) Tryz.f24 n R)
end
variable {Z:XT}{w0:B4}{n:Nat}{R:RT}{σ τ:A1}{r:AV}{s:List UInt8}{first t14 t21 t32:Bool}
theorem b8_eq:b8 Z w0 n R σ r s first t14=(
 B1 t14 (D9 (cx w0) n (.pv (.int .i64 2)) σ R) (A2 (cx w0) stream_reader_starts.id [r,(.pv (.int .i64 0)),(.pv (.str [42,42,42,32]))] σ fun r_1 σ'=>isB r_1 fun t23=>B1 t23 (A2 (cx w0) stream_reader_starts.id [r,(.pv (.int .i64 1)),(.pv (.str [45,45,45,32]))] σ' fun r_2 σ'_1=>isB r_2 fun t26=>B1 t26 (A2 (cx w0) stream_reader_starts.id [r,(.pv (.int .i64 2)),(.pv (.str [42,42,42,42,42,42,42,42,42,42,42,42,42,42,42]))] σ'_1 fun r_3 σ'_2=>isB r_3 fun t30=>n14 Z w0 n R σ'_2 r s first t30) (n14 Z w0 n R σ'_1 r s first false)) (n14 Z w0 n R σ' r s first false))):=by kernel_rfl
theorem n8_in(h:b8 (X w0 n) w0 n R σ r s first t14):n8 (X w0 n) w0 n R σ r s first t14:=E1 (S:=A7) (by kernel_rfl) @h
theorem b14_eq:b14 Z w0 n R σ r s first t21=(
 B1 t21 (D9 (cx w0) n (.pv (.int .i64 3)) σ R) (A2 (cx w0) stream_change.id [(.pv (.str s))] σ fun r_1 σ'=>isB r_1 fun t34=>B1 t34 (A2 (cx w0) stream_reader_starts.id [r,(.pv (.int .i64 1)),(.pv (.str [60,32]))] σ' fun r_2 σ'_1=>isB r_2 fun t37=>B1 t37 (n20 Z w0 n R σ'_1 first true) (A2 (cx w0) stream_reader_starts.id [r,(.pv (.int .i64 1)),(.pv (.str [62,32]))] σ'_1 fun r_3 σ'_2=>isB r_3 fun t40=>n20 Z w0 n R σ'_2 first t40)) (n20 Z w0 n R σ' first false))):=by kernel_rfl
theorem n14_in(h:b14 (X w0 n) w0 n R σ r s first t21):n14 (X w0 n) w0 n R σ r s first t21:=E1 (S:=A7) (by kernel_rfl) @h
theorem b20_eq:b20 Z w0 n R σ first t32=(
 B1 t32 (D9 (cx w0) n (.pv (.int .i64 1)) σ R) (B1 first (D9 (cx w0) n (.pv (.int .i64 4)) σ R) (D9 (cx w0) n (.pv (.int .i64 0)) σ R))):=by kernel_rfl
theorem n20_in(h:b20 (X w0 n) w0 n R σ first t32):n20 (X w0 n) w0 n R σ first t32:=E1 (S:=A7) (by kernel_rfl) @h
theorem b0_eq:b0 Z w0 n R σ r s=(
 A2 (cx w0) stream_command.id [(.pv (.str s))] σ fun r_1 σ'=>isTup r_1 fun vs=>opt ((vs)[0]?) fun t11=>isB t11 fun t11_1=>isTup r_1 fun vs_1=>opt ((vs_1)[1]?) fun t12=>isB t12 fun t12_1=>isTup r_1 fun vs_2=>opt ((vs_2)[2]?) fun t13=>isB t13 fun t13_1=>A2 (cx w0) stream_reader_starts.id [r,(.pv (.int .i64 0)),(.pv (.str [45,45,45,32]))] σ' fun r_2 σ'_1=>isB r_2 fun t16=>B1 t16 (A2 (cx w0) stream_reader_starts.id [r,(.pv (.int .i64 1)),(.pv (.str [43,43,43,32]))] σ'_1 fun r_3 σ'_2=>isB r_3 fun t19=>n8 Z w0 n R σ'_2 r s t13_1 t19) (n8 Z w0 n R σ'_1 r s t13_1 false)):=by kernel_rfl
theorem calls(h:b0 (X w0 (List.length σ)) w0 (List.length σ) R σ r s):A2 (cx w0) stream_reader_begins.id [r,(.pv (.str s))] σ R:=
 D0 (I4 w0) (x:=fe) (S:=A7) (stream_reader_begins.ok w0) (by kernel_rfl) @h
attribute [irreducible] n8 b8 n14 b14 n20 b20 b0
end stream_reader_begins
namespace stream_Parse
def lvs:List (List Nat):=[[0],[0],[0],[0],[0],[0,13],[],[],[2,3,4],[0],[0],[0],[5],[5],[5],[5,6],[5,6],[5,6,37],[5,6],[5],[5],[5],[5],[5],[5],[5,7,8],[5,7,8],[5,7,8],[5,7,54],[5],[5],[2,3,4],[5,7],[5,7],[5,7],[5,7,9,10],[5,7,9,10],[5,7,9,10],[5,7,9,10,61],[5,7,9,10,61],[5,7,9,10,61],[5,7,9,10,61,65],[5],[5,7,9,10,61],[5,7,9,10,61],[5,7,9,10,61,72],[5],[5,7,9,10,61],[5,7,9,10,61],[5,7,9,10,61,79],[5],[5,7,9,10,61],[5,7,9,10,61],[5,7,9,10,86],[5,9,10],[5,7,9,10],[5,9,10],[5,9,10],[5,9,10,91],[5,9,10],[5,9,10],[2,3,4],[5]]
def lv:Nat→List Nat:=J8 lvs
noncomputable def code:Code:=F0 Tryz.f7
noncomputable def fe:FE:=⟨Tryz.f7,code,lv⟩
def A7:List Nat:=[17,20,22,56]
abbrev X(w0:B4)(n:Nat):XT:=xr (cx w0) 98 lv n
theorem ok(w0:B4):FOK (cx w0) stream_Parse.id fe:=⟨Tryz.func7,by kernel_rfl,by kernel_rfl⟩
section
variable (Z:XT)(w0:B4)(n:Nat)(R:RT)(σ:A1)(r:AV)(n_:Int)(t37:Bool)(line:Int)(err:AV)(text:List UInt8)
def q13:QT:=F2 (fun env σ=>Z (cAt code 20) 20 (prune (lv 20) env) σ (B9 (cx w0) Tryz.f7 n R)) (B9 (cx w0) Tryz.f7 n R)
def q21(X:XT)(w0:B4)(n:Nat)(R:RT):QT:=I3 0 (B9 (cx w0) Tryz.f7 n R)
def q22:QT:=F2 (fun env σ=>Z (cAt code 21) 21 (prune (lv 21) env) σ (q21 Z w0 n R)) (q21 Z w0 n R)
def q23:QT:=I3 1 (q22 Z w0 n R)
def n17:Prop:=
 Z (cAt code 17) 17 [(5,r),(6,(.pv (.int .i64 n_))),(37,(.pv (.bool t37)))] σ (q13 Z w0 n R)
def b17:Prop:=
 A5 (cx w0) 98 lv n A7 Z (cAt code 17) 17 [(5,r),(6,(.pv (.int .i64 n_))),(37,(.pv (.bool t37)))] σ (q13 Z w0 n R)
def n20:Prop:=
 Z (cAt code 20) 20 [(5,r)] σ (B9 (cx w0) Tryz.f7 n R)
def b20:Prop:=
 A5 (cx w0) 98 lv n A7 Z (cAt code 20) 20 [(5,r)] σ (B9 (cx w0) Tryz.f7 n R)
def n21:Prop:=
 Z (cAt code 21) 21 [(5,r)] σ (q21 Z w0 n R)
def b22:Prop:=
 A5 (cx w0) 98 lv n A7 Z (cAt code 22) 22 [(5,r)] σ (q22 Z w0 n R)
def n56:Prop:=
 Z (cAt code 56) 56 [(5,r),(9,(.pv (.int .i64 line))),(10,err)] σ (q23 Z w0 n R)
def b56:Prop:=
 A5 (cx w0) 98 lv n A7 Z (cAt code 56) 56 [(5,r),(9,(.pv (.int .i64 line))),(10,err)] σ (q23 Z w0 n R)
def b0:Prop:=
 A5 (cx w0) 98 lv n A7 Z code 0 (H3 0 [(.pv (.str text))]) σ (B9 (cx w0) Tryz.f7 n R)
end
variable {Z:XT}{w0:B4}{n:Nat}{R:RT}{σ τ:A1}{r err r':AV}{n_ line:Int}{t37:Bool}{text:List UInt8}
theorem b17_eq:b17 Z w0 n R σ r n_ t37=(
 B1 t37 (opt (B2 r) fun t39=>opt (A3 B3 ao.td t39 0) fun t40=>opt (A6 σ J7 t40) fun t41=>opt (D1 σ B3 J7.td t41 (IntKind.wrap .i64 (n_-1))) fun t44=>opt (A6 σ ti9 t44) fun t45=>isS t45 fun t45_1=>(List.length (t45_1:List UInt8)+List.length ([10]:List UInt8)≤9223372036854775807∧(opt (D1 σ B3 J7.td t41 (IntKind.wrap .i64 (n_-1))) fun t47=>opt (C2 σ ti9 t47 (.pv (.str (t45_1 ++ [10])))) fun σ'=>n20 Z w0 n R σ' r))) (n20 Z w0 n R σ r)):=by kernel_rfl
theorem n17_in(h:b17 (X w0 n) w0 n R σ r n_ t37):n17 (X w0 n) w0 n R σ r n_ t37:=E1 (S:=A7) (by kernel_rfl) @h
theorem b20_eq:b20 Z w0 n R σ r=(
 n21 Z w0 n R σ r):=by kernel_rfl
theorem n20_in(h:b20 (X w0 n) w0 n R σ r):n20 (X w0 n) w0 n R σ r:=E1 (S:=A7) (by kernel_rfl) @h
theorem n21_in(h:b22 (X w0 n) w0 n R σ r):n21 (X w0 n) w0 n R σ r:=J9 (I4 w0) (S:=A7) (by kernel_rfl:cAt code 21 = .loop (cAt code 22)) @h
theorem n21_weak(e:N2 (cx w0) n [(5,r)] σ [(5,r')] τ)(h:n21 (X w0 n) w0 n R τ r'):n21 (X w0 n) w0 n R σ r:=U3 (L:=lv) (k:=21) (by kernel_rfl:cAt code 21 = .loop (cAt code 22)) @e @h
theorem b22_eq:b22 Z w0 n R σ r=(
 A2 (cx w0) stream_reader_now.id [r,(.pv (.int .i64 0))] σ fun r_1 σ'=>isTup r_1 fun vs=>opt ((vs)[0]?) fun t51=>isS t51 fun t51_1=>isTup r_1 fun vs_1=>opt ((vs_1)[1]?) fun t52=>isB t52 fun t52_1=>B1 (!t52_1) (opt (B2 r) fun t56=>opt (A3 B3 ao.td t56 3) fun t57=>opt (A6 σ' ti22 t57) fun t58=>D9 (cx w0) n (.tup [t58,(.pv (.int .i64 0)),(.pv (.raw .nilIface))]) σ' R) (A2 (cx w0) stream_reader_begins.id [r,(.pv (.str t51_1))] σ' fun r_2 σ'_1=>isI .i64 r_2 fun t61=>B1 ((t61:Int)==2) (A2 (cx w0) stream_reader_named.id [r,(.pv (.int .i64 2)),(.pv (.raw (.func (.func 26) #[] #[])))] σ'_1 fun r_3 σ'_2=>isTup r_3 fun vs_2=>opt ((vs_2)[0]?) fun t70=>isI .i64 t70 fun t70_1=>isTup r_3 fun vs_3=>opt ((vs_3)[1]?) fun t71=>n56 Z w0 n R σ'_2 r t70_1 t71) (B1 ((t61:Int)==3) (A2 (cx w0) stream_reader_named.id [r,(.pv (.int .i64 3)),(.pv (.raw (.func (.func 27) #[] #[])))] σ'_1 fun r_3 σ'_2=>isTup r_3 fun vs_2=>opt ((vs_2)[0]?) fun t77=>isI .i64 t77 fun t77_1=>isTup r_3 fun vs_3=>opt ((vs_3)[1]?) fun t78=>n56 Z w0 n R σ'_2 r t77_1 t78) (B1 ((t61:Int)==1) (A2 (cx w0) stream_reader_plain.id [r] σ'_1 fun r_3 σ'_2=>isTup r_3 fun vs_2=>opt ((vs_2)[0]?) fun t84=>isI .i64 t84 fun t84_1=>isTup r_3 fun vs_3=>opt ((vs_3)[1]?) fun t85=>n56 Z w0 n R σ'_2 r t84_1 t85) (B1 ((t61:Int)==4) (A2 (cx w0) stream_reader_ed.id [r] σ'_1 fun r_3 σ'_2=>n56 Z w0 n R σ'_2 r 0 (.pv (.raw .nilIface))) (A2 (cx w0) stream_reader_note.id [r,(.pv (.str t51_1))] σ'_1 fun r_3 σ'_2=>n56 Z w0 n R σ'_2 r 0 (.pv (.raw .nilIface)))))))):=by kernel_rfl
theorem b56_eq:b56 Z w0 n R σ r line err=(
 Q9 B3 24 true .neq err (.pv (.raw .nilIface)) fun v=>isB v fun b=>B1 b (opt (B2 r) fun t93=>opt (A3 B3 ao.td t93 3) fun t94=>opt (A6 σ ti22 t94) fun t95=>D9 (cx w0) n (.tup [t95,(.pv (.int .i64 line)),err]) σ R) (n21 Z w0 n R σ r)):=by kernel_rfl
theorem n56_in(h:b56 (X w0 n) w0 n R σ r line err):n56 (X w0 n) w0 n R σ r line err:=E1 (S:=A7) (by kernel_rfl) @h
theorem b0_eq:b0 Z w0 n R σ text=(
 B1 (decide (((List.length (text:List UInt8):Int):Int)>4194304)) (opt (G4 61 (.pv (.int .i64 2))) fun t14=>D9 (cx w0) n (.tup [.nilsl,(.pv (.int .i64 0)),t14]) σ R) (A2 (cx w0) C9.id [(.pv (.str text))] σ fun r σ'=>opt (N3 B3 ao [(0,r)]) fun t17=>((AV.cells t17).all AV.one=true∧(opt (B2 (.ptr (List.length σ') 0)) fun t20=>opt (A3 B3 ao.td t20 0) fun t21=>opt (A6 (σ' ++ [.cells 66 (AV.cells t17)]) J7 t21) fun t22=>opt (R5 J7.td t22) fun t23=>isI .i64 t23 fun t23_1=>B1 (decide ((t23_1:Int)>0)) (opt (B2 (.ptr (List.length σ') 0)) fun t28=>opt (A3 B3 ao.td t28 0) fun t29=>opt (A6 (σ' ++ [.cells 66 (AV.cells t17)]) J7 t29) fun t30=>opt (D1 (σ' ++ [.cells 66 (AV.cells t17)]) B3 J7.td t30 (IntKind.wrap .i64 (t23_1-1))) fun t33=>opt (A6 (σ' ++ [.cells 66 (AV.cells t17)]) ti9 t33) fun t34=>isS t34 fun t34_1=>A2 (cx w0) M4.id [(.pv (.str t34_1))] (σ' ++ [.cells 66 (AV.cells t17)]) fun r_1 σ'_1=>isB r_1 fun t35=>n17 Z w0 n R σ'_1 (.ptr (List.length σ') 0) t23_1 (!t35)) (n17 Z w0 n R (σ' ++ [.cells 66 (AV.cells t17)]) (.ptr (List.length σ') 0) t23_1 false))))):=by kernel_rfl
theorem calls(h:b0 (X w0 (List.length σ)) w0 (List.length σ) R σ text):A2 (cx w0) stream_Parse.id [(.pv (.str text))] σ R:=
 D0 (I4 w0) (x:=fe) (S:=A7) (stream_Parse.ok w0) (by kernel_rfl) @h
attribute [irreducible] n17 b17 n20 b20 n21 b22 n56 b56 b0
end stream_Parse
namespace L9
def lvs:List (List Nat):=[[0],[0],[0],[0],[0,3],[0,3],[0,3],[3,12],[3],[3],[3],[3],[2]]
def lv:Nat→List Nat:=J8 lvs
noncomputable def code:Code:=F0 Tryz.f93
noncomputable def fe:FE:=⟨Tryz.f93,code,lv⟩
def A7:List Nat:=[7,10]
abbrev X(w0:B4)(n:Nat):XT:=xr (cx w0) 16 lv n
theorem ok(w0:B4):FOK (cx w0) L9.id fe:=⟨Tryz.func93,by kernel_rfl,by kernel_rfl⟩
section
variable (Z:XT)(w0:B4)(n:Nat)(R:RT)(σ:A1)(n_:Int)(t12:Bool)(s:List UInt8)
def q5:QT:=F2 (fun env σ=>Z (cAt code 10) 10 (prune (lv 10) env) σ (B9 (cx w0) Tryz.f93 n R)) (B9 (cx w0) Tryz.f93 n R)
def n7:Prop:=
 Z (cAt code 7) 7 [(3,(.pv (.int .i64 n_))),(12,(.pv (.bool t12)))] σ (q5 Z w0 n R)
def b7:Prop:=
 A5 (cx w0) 16 lv n A7 Z (cAt code 7) 7 [(3,(.pv (.int .i64 n_))),(12,(.pv (.bool t12)))] σ (q5 Z w0 n R)
def n10:Prop:=
 Z (cAt code 10) 10 [(3,(.pv (.int .i64 n_)))] σ (B9 (cx w0) Tryz.f93 n R)
def b10:Prop:=
 A5 (cx w0) 16 lv n A7 Z (cAt code 10) 10 [(3,(.pv (.int .i64 n_)))] σ (B9 (cx w0) Tryz.f93 n R)
def b0:Prop:=
 A5 (cx w0) 16 lv n A7 Z code 0 (H3 0 [(.pv (.str s))]) σ (B9 (cx w0) Tryz.f93 n R)
end
variable {Z:XT}{w0:B4}{n:Nat}{R:RT}{σ τ:A1}{n_:Int}{t12:Bool}{s:List UInt8}
theorem b7_eq:b7 Z w0 n R σ n_ t12=(
 B1 t12 (n10 Z w0 n R σ (IntKind.wrap .i64 (n_+1))) (n10 Z w0 n R σ n_)):=by kernel_rfl
theorem n7_in(h:b7 (X w0 n) w0 n R σ n_ t12):n7 (X w0 n) w0 n R σ n_ t12:=E1 (S:=A7) (by kernel_rfl) @h
theorem b10_eq:b10 Z w0 n R σ n_=(
 D9 (cx w0) n (.pv (.int .i64 n_)) σ R):=by kernel_rfl
theorem n10_in(h:b10 (X w0 n) w0 n R σ n_):n10 (X w0 n) w0 n R σ n_:=E1 (S:=A7) (by kernel_rfl) @h
theorem b0_eq:b0 Z w0 n R σ s=(
 A2 (cx w0) O8.id [(.pv (.str s)),(.pv (.str [10]))] σ fun r σ'=>isI .i64 r fun t5=>B1 (!((s:List UInt8) == [])) (A2 (cx w0) M4.id [(.pv (.str s))] σ' fun r_1 σ'_1=>isB r_1 fun t10=>n7 Z w0 n R σ'_1 t5 (!t10)) (n7 Z w0 n R σ' t5 false)):=by kernel_rfl
theorem calls(h:b0 (X w0 (List.length σ)) w0 (List.length σ) R σ s):A2 (cx w0) L9.id [(.pv (.str s))] σ R:=
 D0 (I4 w0) (x:=fe) (S:=A7) (L9.ok w0) (by kernel_rfl) @h
attribute [irreducible] n7 b7 n10 b10 b0
end L9
end Go.Sv
