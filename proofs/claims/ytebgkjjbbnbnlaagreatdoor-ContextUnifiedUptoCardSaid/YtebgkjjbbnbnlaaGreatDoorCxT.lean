/- What the code of Go functions comes to over abstract stores, piece by piece; each equation by the kernel. Printed by a program of this session. What the code of Go functions comes to over abstract stores, piece by piece; each equation by the kernel. Printed by a program of this session. The machine's own search for a byte, as a call over stores; computed runs that meet it. The shelf's contracts of strings.TrimLeft, of an index, and of Atoi. -/
import Derived.Test.YtebgkjjbbnbnlaaGreatDoorSvT
import Derived.KernelRfl
import Derived.Test.YtebgkjjbbnbnlaaGreatDoorSvW
import Derived.Lib.Bytealg
import Derived.Laws.Externs
import Derived.Shelf.Strings.Trim
import Derived.Shelf.Strings.Prefix
import Derived.Shelf.Strings.Search2
import Derived.Shelf.Strconv.Atoi
import Derived.Test.YtebgkjjbbnbnlaaGreatDoorProg
set_option linter.unusedVariables false
set_option maxRecDepth 100000
section
namespace Go.Sv
open Go Go.Proofs
namespace O2
def lvs:List (List Nat):=[[0,1],[0,1],[0,1],[0,1],[4,5]]
def lv:Nat→List Nat:=O9 lvs
noncomputable def code:Code:=F3 Tryz.f122
noncomputable def fe:FE:=⟨Tryz.f122,code,lv⟩
def A5:List Nat:=[]
abbrev X(w0:B5)(n:Nat):XT:=xr (cx w0) 11 lv n
theorem ok(w0:B5):FOK (cx w0) O2.id fe:=⟨Tryz.func122,by kernel_rfl,by kernel_rfl⟩
section
variable (Z:XT)(w0:B5)(n:Nat)(R:RT)(σ:A2)(s suffix:List UInt8)
def b0:Prop:=
 A6 (cx w0) 11 lv n A5 Z code 0 (J6 0 [(.pv (.str s)),(.pv (.str suffix))]) σ (B7 (cx w0) Tryz.f122 n R)
end
variable {Z:XT}{w0:B5}{n:Nat}{R:RT}{σ τ:A2}{s suffix:List UInt8}
theorem b0_eq:b0 Z w0 n R σ s suffix=(
 A1 (cx w0) L2.id [(.pv (.str s)),(.pv (.str suffix))] σ fun r σ'=>isTup r fun vs=>opt ((vs)[0]?) fun t9=>isS t9 fun t9_1=>isTup r fun vs_1=>opt ((vs_1)[1]?) fun t10=>isB t10 fun t10_1=>F2 (cx w0) n (.tup [(.pv (.str t9_1)),(.pv (.bool t10_1))]) σ' R):=by kernel_rfl
theorem calls(h:b0 (X w0 (List.length σ)) w0 (List.length σ) R σ s suffix):A1 (cx w0) O2.id [(.pv (.str s)),(.pv (.str suffix))] σ R:=
 D3 (J9 w0) (x:=fe) (S:=A5) (O2.ok w0) (by kernel_rfl) h
end O2
namespace L2
def lvs:List (List Nat):=[[0,1],[0,1],[0,1],[0,1],[0,1],[0,1,9],[0],[0],[4,5],[0,1],[0,1],[0,1],[4,5]]
def lv:Nat→List Nat:=O9 lvs
noncomputable def code:Code:=F3 Tryz.f146
noncomputable def fe:FE:=⟨Tryz.f146,code,lv⟩
def A5:List Nat:=[]
abbrev X(w0:B5)(n:Nat):XT:=xr (cx w0) 18 lv n
theorem ok(w0:B5):FOK (cx w0) L2.id fe:=⟨Tryz.func146,by kernel_rfl,by kernel_rfl⟩
section
variable (Z:XT)(w0:B5)(n:Nat)(R:RT)(σ:A2)(s suffix:List UInt8)
def b0:Prop:=
 A6 (cx w0) 18 lv n A5 Z code 0 (J6 0 [(.pv (.str s)),(.pv (.str suffix))]) σ (B7 (cx w0) Tryz.f146 n R)
end
variable {Z:XT}{w0:B5}{n:Nat}{R:RT}{σ τ:A2}{s suffix:List UInt8}
theorem b0_eq:b0 Z w0 n R σ s suffix=(
 A1 (cx w0) H1.id [(.pv (.str s)),(.pv (.str suffix))] σ fun r σ'=>isB r fun t8=>B1 (!t8) (F2 (cx w0) n (.tup [(.pv (.str s)),(.pv (.bool false))]) σ' R) (opt (K5 σ' B2 ti9.td (.pv (.str s)) none (some (.pv (.int .i64 (IntKind.wrap .i64 ((List.length (s:List UInt8):Int)-(List.length (suffix:List UInt8):Int))))))) fun t17=>isS t17 fun t17_1=>F2 (cx w0) n (.tup [(.pv (.str t17_1)),(.pv (.bool true))]) σ' R)):=by kernel_rfl
theorem calls(h:b0 (X w0 (List.length σ)) w0 (List.length σ) R σ s suffix):A1 (cx w0) L2.id [(.pv (.str s)),(.pv (.str suffix))] σ R:=
 D3 (J9 w0) (x:=fe) (S:=A5) (L2.ok w0) (by kernel_rfl) h
end L2
namespace H1
def lvs:List (List Nat):=[[0,1],[0,1],[0,1],[0,1],[4]]
def lv:Nat→List Nat:=O9 lvs
noncomputable def code:Code:=F3 Tryz.f115
noncomputable def fe:FE:=⟨Tryz.f115,code,lv⟩
def A5:List Nat:=[4]
abbrev X(w0:B5)(n:Nat):XT:=xr (cx w0) 21 lv n
theorem ok(w0:B5):FOK (cx w0) H1.id fe:=⟨Tryz.func115,by kernel_rfl,by kernel_rfl⟩
section
variable (Z:XT)(w0:B5)(n:Nat)(R:RT)(σ:A2)(t4:Bool)(s suffix:List UInt8)
def n4:Prop:=
 Z (cAt code 4) 4 [(4,(.pv (.bool t4)))] σ (B7 (cx w0) Tryz.f115 n R)
def b4:Prop:=
 A6 (cx w0) 21 lv n A5 Z (cAt code 4) 4 [(4,(.pv (.bool t4)))] σ (B7 (cx w0) Tryz.f115 n R)
def b0:Prop:=
 A6 (cx w0) 21 lv n A5 Z code 0 (J6 0 [(.pv (.str s)),(.pv (.str suffix))]) σ (B7 (cx w0) Tryz.f115 n R)
end
variable {Z:XT}{w0:B5}{n:Nat}{R:RT}{σ τ:A2}{t4:Bool}{s suffix:List UInt8}
theorem b4_eq:b4 Z w0 n R σ t4=(
 F2 (cx w0) n (.pv (.bool t4)) σ R):=by kernel_rfl
theorem n4_in(h:b4 (X w0 n) w0 n R σ t4):n4 (X w0 n) w0 n R σ t4:=E0 (S:=A5) (by kernel_rfl) h
theorem b0_eq:b0 Z w0 n R σ s suffix=(
 B1 (decide (((List.length (s:List UInt8):Int):Int)≥(List.length (suffix:List UInt8):Int))) (opt (K5 σ B2 ti9.td (.pv (.str s)) (some (.pv (.int .i64 (IntKind.wrap .i64 ((List.length (s:List UInt8):Int)-(List.length (suffix:List UInt8):Int)))))) none) fun t17=>isS t17 fun t17_1=>n4 Z w0 n R σ ((t17_1:List UInt8)==suffix)) (n4 Z w0 n R σ false)):=by kernel_rfl
theorem calls(h:b0 (X w0 (List.length σ)) w0 (List.length σ) R σ s suffix):A1 (cx w0) H1.id [(.pv (.str s)),(.pv (.str suffix))] σ R:=
 D3 (J9 w0) (x:=fe) (S:=A5) (H1.ok w0) (by kernel_rfl) h
end H1
namespace W1
def lvs:List (List Nat):=[[0,1],[0,1],[0,1],[0,1],[4,5,6]]
def lv:Nat→List Nat:=O9 lvs
noncomputable def code:Code:=F3 Tryz.f123
noncomputable def fe:FE:=⟨Tryz.f123,code,lv⟩
def A5:List Nat:=[]
abbrev X(w0:B5)(n:Nat):XT:=xr (cx w0) 13 lv n
theorem ok(w0:B5):FOK (cx w0) W1.id fe:=⟨Tryz.func123,by kernel_rfl,by kernel_rfl⟩
section
variable (Z:XT)(w0:B5)(n:Nat)(R:RT)(σ:A2)(s sep:List UInt8)
def b0:Prop:=
 A6 (cx w0) 13 lv n A5 Z code 0 (J6 0 [(.pv (.str s)),(.pv (.str sep))]) σ (B7 (cx w0) Tryz.f123 n R)
end
variable {Z:XT}{w0:B5}{n:Nat}{R:RT}{σ τ:A2}{s sep:List UInt8}
theorem b0_eq:b0 Z w0 n R σ s sep=(
 A1 (cx w0) P6.id [(.pv (.str s)),(.pv (.str sep))] σ fun r σ'=>isTup r fun vs=>opt ((vs)[0]?) fun t10=>isS t10 fun t10_1=>isTup r fun vs_1=>opt ((vs_1)[1]?) fun t11=>isS t11 fun t11_1=>isTup r fun vs_2=>opt ((vs_2)[2]?) fun t12=>isB t12 fun t12_1=>F2 (cx w0) n (.tup [(.pv (.str t10_1)),(.pv (.str t11_1)),(.pv (.bool t12_1))]) σ' R):=by kernel_rfl
theorem calls(h:b0 (X w0 (List.length σ)) w0 (List.length σ) R σ s sep):A1 (cx w0) W1.id [(.pv (.str s)),(.pv (.str sep))] σ R:=
 D3 (J9 w0) (x:=fe) (S:=A5) (W1.ok w0) (by kernel_rfl) h
end W1
namespace P6
def lvs:List (List Nat):=[[0,1],[0,1],[0,1],[0,1],[0,1],[0,1,7],[0,1,7],[0,1,7,12],[0,1,7],[0,1,7],[4,5,6],[0],[0],[0],[4,5,6]]
def lv:Nat→List Nat:=O9 lvs
noncomputable def code:Code:=F3 Tryz.f147
noncomputable def fe:FE:=⟨Tryz.f147,code,lv⟩
def A5:List Nat:=[]
abbrev X(w0:B5)(n:Nat):XT:=xr (cx w0) 23 lv n
theorem ok(w0:B5):FOK (cx w0) P6.id fe:=⟨Tryz.func147,by kernel_rfl,by kernel_rfl⟩
section
variable (Z:XT)(w0:B5)(n:Nat)(R:RT)(σ:A2)(s sep:List UInt8)
def b0:Prop:=
 A6 (cx w0) 23 lv n A5 Z code 0 (J6 0 [(.pv (.str s)),(.pv (.str sep))]) σ (B7 (cx w0) Tryz.f147 n R)
end
variable {Z:XT}{w0:B5}{n:Nat}{R:RT}{σ τ:A2}{s sep:List UInt8}
theorem b0_eq:b0 Z w0 n R σ s sep=(
 A1 (cx w0) T4.id [(.pv (.str s)),(.pv (.str sep))] σ fun r σ'=>isI .i64 r fun t10=>B1 (decide ((t10:Int)≥0)) (opt (K5 σ' B2 ti9.td (.pv (.str s)) none (some (.pv (.int .i64 t10)))) fun t15=>isS t15 fun t15_1=>opt (K5 σ' B2 ti9.td (.pv (.str s)) (some (.pv (.int .i64 (IntKind.wrap .i64 (t10+(List.length (sep:List UInt8):Int)))))) none) fun t21=>isS t21 fun t21_1=>((opt (K5 σ' B2 ti9.td (.pv (.str s)) (some (.pv (.int .i64 (IntKind.wrap .i64 (t10+(List.length (sep:List UInt8):Int)))))) none) fun t21_2=>((t21_2:AV)=(.pv (.str t21_1))))∧(F2 (cx w0) n (.tup [(.pv (.str t15_1)),(.pv (.str t21_1)),(.pv (.bool true))]) σ' R))) (F2 (cx w0) n (.tup [(.pv (.str s)),(.pv (.str [])),(.pv (.bool false))]) σ' R)):=by kernel_rfl
theorem calls(h:b0 (X w0 (List.length σ)) w0 (List.length σ) R σ s sep):A1 (cx w0) P6.id [(.pv (.str s)),(.pv (.str sep))] σ R:=
 D3 (J9 w0) (x:=fe) (S:=A5) (P6.ok w0) (by kernel_rfl) h
end P6
namespace M9
def lvs:List (List Nat):=[[0,1],[0,1],[0,1],[0,1],[0,1],[0,1,12],[0],[0],[4],[0,1],[0,1],[0,1],[0,1],[0,1,21],[0,1],[0,1],[4],[0,1],[0,1],[0,1],[0,1],[0,1,5,6],[0,1,5,6],[0,1,5,34],[0,5],[0,5],[4],[0,1],[0,1],[0,1],[4]]
def lv:Nat→List Nat:=O9 lvs
noncomputable def code:Code:=F3 Tryz.f148
noncomputable def fe:FE:=⟨Tryz.f148,code,lv⟩
def A5:List Nat:=[5,13]
abbrev X(w0:B5)(n:Nat):XT:=xr (cx w0) 43 lv n
theorem ok(w0:B5):FOK (cx w0) M9.id fe:=⟨Tryz.func148,by kernel_rfl,by kernel_rfl⟩
section
variable (Z:XT)(w0:B5)(n:Nat)(R:RT)(σ:A2)(s cutset:List UInt8)(t12 t21:Bool)
def q3:QT:=D6 (fun env σ=>A6 (cx w0) 43 lv n A5 Z (cAt code 10) 10 (prune (lv 10) env) σ (B7 (cx w0) Tryz.f148 n R)) (B7 (cx w0) Tryz.f148 n R)
def q11:QT:=D6 (fun env σ=>A6 (cx w0) 43 lv n A5 Z (cAt code 18) 18 (prune (lv 18) env) σ (B7 (cx w0) Tryz.f148 n R)) (B7 (cx w0) Tryz.f148 n R)
def n5:Prop:=
 Z (cAt code 5) 5 [(0,(.pv (.str s))),(1,(.pv (.str cutset))),(12,(.pv (.bool t12)))] σ (q3 Z w0 n R)
def b5:Prop:=
 A6 (cx w0) 43 lv n A5 Z (cAt code 5) 5 [(0,(.pv (.str s))),(1,(.pv (.str cutset))),(12,(.pv (.bool t12)))] σ (q3 Z w0 n R)
def n13:Prop:=
 Z (cAt code 13) 13 [(0,(.pv (.str s))),(1,(.pv (.str cutset))),(21,(.pv (.bool t21)))] σ (q11 Z w0 n R)
def b13:Prop:=
 A6 (cx w0) 43 lv n A5 Z (cAt code 13) 13 [(0,(.pv (.str s))),(1,(.pv (.str cutset))),(21,(.pv (.bool t21)))] σ (q11 Z w0 n R)
def b0:Prop:=
 A6 (cx w0) 43 lv n A5 Z code 0 (J6 0 [(.pv (.str s)),(.pv (.str cutset))]) σ (B7 (cx w0) Tryz.f148 n R)
end
variable {Z:XT}{w0:B5}{n:Nat}{R:RT}{σ τ:A2}{s cutset:List UInt8}{t12 t21:Bool}
theorem b5_eq:b5 Z w0 n R σ s cutset t12=(
 B1 t12 (F2 (cx w0) n (.pv (.str s)) σ R) (B1 (((List.length (cutset:List UInt8):Int):Int)==1) (opt (Q8 B2 ti9.td (.pv (.str cutset)) 0) fun t19=>isI .u8 t19 fun t19_1=>n13 Z w0 n R σ s cutset (decide ((t19_1:Int)<128))) (n13 Z w0 n R σ s cutset false))):=by kernel_rfl
theorem n5_in(h:b5 (X w0 n) w0 n R σ s cutset t12):n5 (X w0 n) w0 n R σ s cutset t12:=E0 (S:=A5) (by kernel_rfl) h
theorem b13_eq:b13 Z w0 n R σ s cutset t21=(
 B1 t21 (opt (Q8 B2 ti9.td (.pv (.str cutset)) 0) fun t24=>isI .u8 t24 fun t24_1=>opt (Q8 B2 ti9.td (.pv (.str cutset)) 0) fun t27=>isI .u8 t27 fun t27_1=>A1 (cx w0) R0.id [(.pv (.str s)),(.pv (.int .u8 t24_1))] σ fun r σ'=>isS r fun t25=>A1 (cx w0) R6.id [(.pv (.str t25)),(.pv (.int .u8 t27_1))] σ' fun r_1 σ'_1=>isS r_1 fun t28=>F2 (cx w0) n (.pv (.str t28)) σ'_1 R) (A1 (cx w0) M4.id [(.pv (.str cutset))] σ fun r σ'=>isTup r fun vs=>opt ((vs)[0]?) fun t32=>isTup r fun vs_1=>opt ((vs_1)[1]?) fun t33=>isB t33 fun t33_1=>opt (C3 (σ' ++ [.cells 207 (AV.ofValue Wz.zero).cells]) Wz (.ptr (List.length σ') 0) t32) fun σ'_1=>B1 t33_1 (A1 (cx w0) E2.id [(.pv (.str s)),(.ptr (List.length σ') 0)] σ'_1 fun r_1 σ'_2=>isS r_1 fun t36=>A1 (cx w0) E6.id [(.pv (.str t36)),(.ptr (List.length σ') 0)] σ'_2 fun r_2 σ'_3=>isS r_2 fun t37=>F2 (cx w0) n (.pv (.str t37)) σ'_3 R) (A1 (cx w0) strings_trimRightUnicode.id [(.pv (.str s)),(.pv (.str cutset))] σ'_1 fun r_1 σ'_2=>isS r_1 fun t40=>A1 (cx w0) strings_trimLeftUnicode.id [(.pv (.str t40)),(.pv (.str cutset))] σ'_2 fun r_2 σ'_3=>isS r_2 fun t42=>F2 (cx w0) n (.pv (.str t42)) σ'_3 R))):=by kernel_rfl
theorem n13_in(h:b13 (X w0 n) w0 n R σ s cutset t21):n13 (X w0 n) w0 n R σ s cutset t21:=E0 (S:=A5) (by kernel_rfl) h
theorem b0_eq:b0 Z w0 n R σ s cutset=(
 B1 ((s:List UInt8) == []) (n5 Z w0 n R σ s cutset true) (n5 Z w0 n R σ s cutset ((cutset:List UInt8) == []))):=by kernel_rfl
theorem calls(h:b0 (X w0 (List.length σ)) w0 (List.length σ) R σ s cutset):A1 (cx w0) M9.id [(.pv (.str s)),(.pv (.str cutset))] σ R:=
 D3 (J9 w0) (x:=fe) (S:=A5) (M9.ok w0) (by kernel_rfl) h
end M9
namespace E6
def lvs:List (List Nat):=[[0,1],[0,1],[0,1],[0,1],[0,1],[0,1],[0,1],[0,1],[0,1,7],[0,1],[0],[0,1],[0,1],[0,1],[0,1],[0,1,12],[0],[0,1],[0,1],[0],[0],[4]]
def lv:Nat→List Nat:=O9 lvs
noncomputable def code:Code:=F3 Tryz.f163
noncomputable def fe:FE:=⟨Tryz.f163,code,lv⟩
def A5:List Nat:=[5,19]
abbrev X(w0:B5)(n:Nat):XT:=xr (cx w0) 16 lv n
theorem ok(w0:B5):FOK (cx w0) E6.id fe:=⟨Tryz.func163,by kernel_rfl,by kernel_rfl⟩
section
variable (Z:XT)(w0:B5)(n:Nat)(R:RT)(σ:A2)(s:List UInt8)(as_:AV)
def q3:QT:=D6 (fun env σ=>Z (cAt code 19) 19 (prune (lv 19) env) σ (B7 (cx w0) Tryz.f163 n R)) (B7 (cx w0) Tryz.f163 n R)
def q4:QT:=H7 0 (q3 Z w0 n R)
def q5:QT:=D6 (fun env σ=>Z (cAt code 4) 4 (prune (lv 4) env) σ (q4 Z w0 n R)) (q4 Z w0 n R)
def n4:Prop:=
 Z (cAt code 4) 4 [(0,(.pv (.str s))),(1,as_)] σ (q4 Z w0 n R)
def b5:Prop:=
 A6 (cx w0) 16 lv n A5 Z (cAt code 5) 5 [(0,(.pv (.str s))),(1,as_)] σ (q5 Z w0 n R)
def n19:Prop:=
 Z (cAt code 19) 19 [(0,(.pv (.str s)))] σ (B7 (cx w0) Tryz.f163 n R)
def b19:Prop:=
 A6 (cx w0) 16 lv n A5 Z (cAt code 19) 19 [(0,(.pv (.str s)))] σ (B7 (cx w0) Tryz.f163 n R)
def b0:Prop:=
 A6 (cx w0) 16 lv n A5 Z code 0 (J6 0 [(.pv (.str s)),as_]) σ (B7 (cx w0) Tryz.f163 n R)
end
variable {Z:XT}{w0:B5}{n:Nat}{R:RT}{σ τ:A2}{s s':List UInt8}{as_ as_':AV}
theorem n4_in(h:b5 (X w0 n) w0 n R σ s as_):n4 (X w0 n) w0 n R σ s as_:=I5 (J9 w0) (S:=A5) (by kernel_rfl:cAt code 4 = .loop (cAt code 5)) h
theorem b5_eq:b5 Z w0 n R σ s as_=(
 B1 (decide (((List.length (s:List UInt8):Int):Int)>0)) (opt (Q8 B2 ti9.td (.pv (.str s)) 0) fun t10=>isI .u8 t10 fun t10_1=>A1 (cx w0) H2.id [as_,(.pv (.int .u8 t10_1))] σ fun r σ'=>isB r fun t11=>B1 (!t11) (n19 Z w0 n R σ' s) (opt (K5 σ' B2 ti9.td (.pv (.str s)) (some (.pv (.int .i64 1))) none) fun t14=>isS t14 fun t14_1=>n4 Z w0 n R σ' t14_1 as_)) (n19 Z w0 n R σ s)):=by kernel_rfl
theorem b19_eq:b19 Z w0 n R σ s=(
 F2 (cx w0) n (.pv (.str s)) σ R):=by kernel_rfl
theorem n19_in(h:b19 (X w0 n) w0 n R σ s):n19 (X w0 n) w0 n R σ s:=E0 (S:=A5) (by kernel_rfl) h
theorem b0_eq:b0 Z w0 n R σ s as_=(
 n4 Z w0 n R σ s as_):=by kernel_rfl
theorem calls(h:b0 (X w0 (List.length σ)) w0 (List.length σ) R σ s as_):A1 (cx w0) E6.id [(.pv (.str s)),as_] σ R:=
 D3 (J9 w0) (x:=fe) (S:=A5) (E6.ok w0) (by kernel_rfl) h
end E6
namespace E2
def lvs:List (List Nat):=[[0,1],[0,1],[0,1],[0,1],[0,1],[0,1],[0,1],[0,1],[0,1,7],[0,1],[0],[0,1],[0,1],[0,1],[0,1],[0,1,15],[0],[0,1],[0,1],[0],[0],[4]]
def lv:Nat→List Nat:=O9 lvs
noncomputable def code:Code:=F3 Tryz.f164
noncomputable def fe:FE:=⟨Tryz.f164,code,lv⟩
def A5:List Nat:=[5,19]
abbrev X(w0:B5)(n:Nat):XT:=xr (cx w0) 22 lv n
theorem ok(w0:B5):FOK (cx w0) E2.id fe:=⟨Tryz.func164,by kernel_rfl,by kernel_rfl⟩
section
variable (Z:XT)(w0:B5)(n:Nat)(R:RT)(σ:A2)(s:List UInt8)(as_:AV)
def q3:QT:=D6 (fun env σ=>Z (cAt code 19) 19 (prune (lv 19) env) σ (B7 (cx w0) Tryz.f164 n R)) (B7 (cx w0) Tryz.f164 n R)
def q4:QT:=H7 0 (q3 Z w0 n R)
def q5:QT:=D6 (fun env σ=>Z (cAt code 4) 4 (prune (lv 4) env) σ (q4 Z w0 n R)) (q4 Z w0 n R)
def n4:Prop:=
 Z (cAt code 4) 4 [(0,(.pv (.str s))),(1,as_)] σ (q4 Z w0 n R)
def b5:Prop:=
 A6 (cx w0) 22 lv n A5 Z (cAt code 5) 5 [(0,(.pv (.str s))),(1,as_)] σ (q5 Z w0 n R)
def n19:Prop:=
 Z (cAt code 19) 19 [(0,(.pv (.str s)))] σ (B7 (cx w0) Tryz.f164 n R)
def b19:Prop:=
 A6 (cx w0) 22 lv n A5 Z (cAt code 19) 19 [(0,(.pv (.str s)))] σ (B7 (cx w0) Tryz.f164 n R)
def b0:Prop:=
 A6 (cx w0) 22 lv n A5 Z code 0 (J6 0 [(.pv (.str s)),as_]) σ (B7 (cx w0) Tryz.f164 n R)
end
variable {Z:XT}{w0:B5}{n:Nat}{R:RT}{σ τ:A2}{s s':List UInt8}{as_ as_':AV}
theorem n4_in(h:b5 (X w0 n) w0 n R σ s as_):n4 (X w0 n) w0 n R σ s as_:=I5 (J9 w0) (S:=A5) (by kernel_rfl:cAt code 4 = .loop (cAt code 5)) h
theorem b5_eq:b5 Z w0 n R σ s as_=(
 B1 (decide (((List.length (s:List UInt8):Int):Int)>0)) (opt (Q8 B2 ti9.td (.pv (.str s)) (IntKind.wrap .i64 ((List.length (s:List UInt8):Int)-1))) fun t13=>isI .u8 t13 fun t13_1=>A1 (cx w0) H2.id [as_,(.pv (.int .u8 t13_1))] σ fun r σ'=>isB r fun t14=>B1 (!t14) (n19 Z w0 n R σ' s) (opt (K5 σ' B2 ti9.td (.pv (.str s)) none (some (.pv (.int .i64 (IntKind.wrap .i64 ((List.length (s:List UInt8):Int)-1)))))) fun t20=>isS t20 fun t20_1=>n4 Z w0 n R σ' t20_1 as_)) (n19 Z w0 n R σ s)):=by kernel_rfl
theorem b19_eq:b19 Z w0 n R σ s=(
 F2 (cx w0) n (.pv (.str s)) σ R):=by kernel_rfl
theorem n19_in(h:b19 (X w0 n) w0 n R σ s):n19 (X w0 n) w0 n R σ s:=E0 (S:=A5) (by kernel_rfl) h
theorem b0_eq:b0 Z w0 n R σ s as_=(
 n4 Z w0 n R σ s as_):=by kernel_rfl
theorem calls(h:b0 (X w0 (List.length σ)) w0 (List.length σ) R σ s as_):A1 (cx w0) E2.id [(.pv (.str s)),as_] σ R:=
 D3 (J9 w0) (x:=fe) (S:=A5) (E2.ok w0) (by kernel_rfl) h
end E2
end Go.Sv
end
section
namespace Go.Sv
open Go Go.Proofs
namespace M4
def lvs:List (List Nat):=[[0],[0],[0,2],[0,2],[0,2],[0,2,4],[0,2,4],[0,2,4],[0,2,4],[0,2,4],[0,2,4,9],[0,2,4],[2],[0,2,4],[0,2,4],[0,2,4],[0,2,4],[0,2,4,5],[0,2,4,5],[0,2,4,5],[0,2,4,5,16],[2],[2],[2,3],[0,2,4,5],[0,2,4,5],[0,2,4],[2],[2],[2,3]]
def lv:Nat→List Nat:=O9 lvs
noncomputable def code:Code:=F3 Tryz.f143
noncomputable def fe:FE:=⟨Tryz.f143,code,lv⟩
theorem ok(w0:B5):FOK (cx w0) M4.id fe:=⟨Tryz.func143,by kernel_rfl,by kernel_rfl⟩
end M4
namespace H2
def lvs:List (List Nat):=[[0,1],[0,1],[0,1],[0,1],[4]]
def lv:Nat→List Nat:=O9 lvs
noncomputable def code:Code:=F3 Tryz.f144
noncomputable def fe:FE:=⟨Tryz.f144,code,lv⟩
theorem ok(w0:B5):FOK (cx w0) H2.id fe:=⟨Tryz.func144,by kernel_rfl,by kernel_rfl⟩
end H2
namespace P7
def lvs:List (List Nat):=[[0,1],[0,1],[0,1,4,5],[0,1,4,5],[4,5,6,7,8,9]]
def lv:Nat→List Nat:=O9 lvs
noncomputable def code:Code:=F3 Tryz.f36
noncomputable def fe:FE:=⟨Tryz.f36,code,lv⟩
theorem ok(w0:B5):FOK (cx w0) P7.id fe:=⟨Tryz.func36,by kernel_rfl,by kernel_rfl⟩
end P7
end Go.Sv
end
section
namespace Go.Sv
open Go Go.RowKit Go.Shelf Go.Proofs
theorem ze{w0:B5}{σ:A2}{R:AV→A2→Prop}{s:List UInt8}{c:UInt8}(hR:R (.pv (.int .i64 (Lib.indexByte s c))) σ):A1 (cx w0) bytealg_IndexByteString.id [.pv (.str s),.pv (.int .u8 c.toNat)] σ R:=
 A1.prim fun m K w vs hB hv=>by
  obtain ⟨x,y,rfl,hx,hy⟩:=hv.two
  obtain rfl:=hx.str_inv
  obtain rfl:=hy.int_inv
  have h1:=run_callFunc_extern (e:=Extern.BytealgIndexByte.indexByte) Tryz.func138 (by kernel_rfl) (by kernel_rfl) (by kernel_rfl) (by kernel_rfl) #[.string ⟨s.toArray⟩,.int .u8 (c.toNat:Int)] w
  rw[Lib.run_indexByteString,show ((c.toNat:Int)).toNat.toUInt8=c by simp] at h1
  exact ⟨_,_,w,h1,Below.refl _ _,.pv _ _ (.int _ _),hR⟩
theorem Db{w0:B5}:POK (cx w0) bytealg_IndexByteString.id fb:=by
 intro args σ r σ' h R hR
 unfold fb at h
 split at h
 ·rename_i s n
  split at h
  ·rename_i hc
   simp only[Bool.and_eq_true,decide_eq_true_eq] at hc
   cases h
   have e:((UInt8.ofNat n.toNat).toNat:Int)=n:=by rw[UInt8.toNat_ofNat'];omega
   have:=ze (w0:=w0) (s:=s) (c:=UInt8.ofNat n.toNat) hR
   rw[e] at this
   exact this
  ·cases h
 ·cases h
def sy:List (FuncId×(List AV→A2→Option (AV×A2))):=(bytealg_IndexByteString.id,fb)::Fz
theorem Sl{w0:B5}(L:Laid w0.w):Yc (cx w0) sy:=⟨Db,My L⟩
theorem mu{w0:B5}(L:Laid w0.w){T:List (FuncId×FE)}(hT:ut (cx w0) T){depth fuel:Nat}{f:FuncId}{args:List AV}{σ:A2}{r:AV}{σ':A2}(h:pb (cx w0) (ox T) (iu sy) depth fuel f args σ=some (r,σ')){R:AV→A2→Prop}(hR:R r σ'):A1 (cx w0) f args σ R:=
 Bu (J9 w0) (cxG w0) (Dh T hT) (wq sy (Sl L)) fuel f args σ r σ' h R hR
end Go.Sv
end
section
namespace Go.Proofs
open Go.Shelf
def Tryz.lays161_ren:Go.Shelf.Ren:=⟨fun|161=>149|231=>161|227=>143|233=>163|235=>165|228=>144|197=>176|151=>177|260=>186|152=>141|137=>54|119=>160|224=>154|225=>153|217=>101|266=>138|n=>n,fun|9=>9|4=>4|3=>3|5=>5|117=>208|116=>207|0=>0|124=>223|105=>234|21=>21|119=>251|46=>198|139=>254|138=>253|n=>n,fun|3=>7|4=>8|n=>n⟩
theorem Tryz.lays161:Go.Proofs.Lays.n161 Tryz.prog Tryz.lays161_ren:={
 mixed:=by kernel_rfl
 f119:=Tryz.func160.trans (congrArg some (by kernel_rfl))
 f137:=Tryz.func54.trans (congrArg some (by kernel_rfl))
 f151:=Tryz.func177.trans (congrArg some (by kernel_rfl))
 f152:=Tryz.func141.trans (congrArg some (by kernel_rfl))
 f161:=Tryz.func149.trans (congrArg some (by kernel_rfl))
 f197:=Tryz.func176.trans (congrArg some (by kernel_rfl))
 f217:=Tryz.func101.trans (congrArg some (by kernel_rfl))
 f224:=Tryz.func154.trans (congrArg some (by kernel_rfl))
 f225:=Tryz.func153.trans (congrArg some (by kernel_rfl))
 f227:=Tryz.func143.trans (congrArg some (by kernel_rfl))
 f228:=Tryz.func144.trans (congrArg some (by kernel_rfl))
 f231:=Tryz.func161.trans (congrArg some (by kernel_rfl))
 f233:=Tryz.func163.trans (congrArg some (by kernel_rfl))
 f235:=Tryz.func165.trans (congrArg some (by kernel_rfl))
 f260:=Tryz.func186.trans (congrArg some (by kernel_rfl))
 f266:=Tryz.func138.trans (congrArg some (by kernel_rfl))
 t0:=Tryz.underlying0
 a0:=Tryz.isAgg0
 z0:=Tryz.sizeOf0
 v0:=Tryz.zeroValue0
 t3:=Tryz.underlying3
 a3:=Tryz.isAgg3
 z3:=Tryz.sizeOf3
 v3:=Tryz.zeroValue3
 t4:=Tryz.underlying4
 a4:=Tryz.isAgg4
 z4:=Tryz.sizeOf4
 v4:=Tryz.zeroValue4
 t5:=Tryz.underlying5
 a5:=Tryz.isAgg5
 z5:=Tryz.sizeOf5
 v5:=Tryz.zeroValue5
 t9:=Tryz.underlying9
 a9:=Tryz.isAgg9
 z9:=Tryz.sizeOf9
 v9:=Tryz.zeroValue9
 t21:=Tryz.underlying21
 a21:=Tryz.isAgg21
 z21:=Tryz.sizeOf21
 v21:=Tryz.zeroValue21
 t46:=Tryz.underlying198
 a46:=Tryz.isAgg198
 z46:=Tryz.sizeOf198
 v46:=Tryz.zeroValue198
 t105:=Tryz.underlying234
 a105:=Tryz.isAgg234
 z105:=Tryz.sizeOf234
 v105:=Tryz.zeroValue234
 t116:=Tryz.underlying207
 a116:=Tryz.isAgg207
 z116:=Tryz.sizeOf207
 t117:=Tryz.underlying208
 a117:=Tryz.isAgg208
 z117:=Tryz.sizeOf208
 v117:=Tryz.zeroValue208
 t119:=Tryz.underlying251
 a119:=Tryz.isAgg251
 z119:=Tryz.sizeOf251
 t124:=Tryz.underlying223
 a124:=Tryz.isAgg223
 z124:=Tryz.sizeOf223
 v124:=Tryz.zeroValue223
 t138:=Tryz.underlying253
 a138:=Tryz.isAgg253
 z138:=Tryz.sizeOf253
 v138:=Tryz.zeroValue253
 t139:=Tryz.underlying254
 a139:=Tryz.isAgg254
 z139:=Tryz.sizeOf254
 v139:=Tryz.zeroValue254
 g3:=by kernel_rfl
 g4:=by kernel_rfl }
open Go.RowKit in
theorem Tryz.strings_TrimLeft_one(s:ByteArray)(c:UInt8)(hc:c.toNat<128)(w:World):
  Calls Tryz.prog 149 #[.string s,.string ⟨#[c]⟩] w fun e w'=>e = .returned (.string ⟨(Lib.trimLeftB s.data.toList c).toArray⟩)∧w'=w:=Any.strings_TrimLeft_one Tryz.lays161 s c hc w
def Tryz.lays219_ren:Go.Shelf.Ren:=⟨fun|219=>139|217=>101|225=>153|224=>154|267=>155|266=>138|314=>170|n=>n,fun|9=>9|3=>3|4=>4|5=>5|46=>198|146=>228|51=>227|n=>n,fun|1=>1|n=>n⟩
theorem Tryz.lays219:Go.Proofs.Lays.n219 Tryz.prog Tryz.lays219_ren:={
 mixed:=by kernel_rfl
 f217:=Tryz.func101.trans (congrArg some (by kernel_rfl))
 f219:=Tryz.func139.trans (congrArg some (by kernel_rfl))
 f224:=Tryz.func154.trans (congrArg some (by kernel_rfl))
 f225:=Tryz.func153.trans (congrArg some (by kernel_rfl))
 f266:=Tryz.func138.trans (congrArg some (by kernel_rfl))
 f267:=Tryz.func155.trans (congrArg some (by kernel_rfl))
 f314:=Tryz.func170.trans (congrArg some (by kernel_rfl))
 t3:=Tryz.underlying3
 a3:=Tryz.isAgg3
 z3:=Tryz.sizeOf3
 v3:=Tryz.zeroValue3
 t4:=Tryz.underlying4
 a4:=Tryz.isAgg4
 z4:=Tryz.sizeOf4
 v4:=Tryz.zeroValue4
 t5:=Tryz.underlying5
 a5:=Tryz.isAgg5
 z5:=Tryz.sizeOf5
 v5:=Tryz.zeroValue5
 t9:=Tryz.underlying9
 a9:=Tryz.isAgg9
 z9:=Tryz.sizeOf9
 v9:=Tryz.zeroValue9
 t46:=Tryz.underlying198
 a46:=Tryz.isAgg198
 z46:=Tryz.sizeOf198
 v46:=Tryz.zeroValue198
 t51:=Tryz.underlying227
 a51:=Tryz.isAgg227
 z51:=Tryz.sizeOf227
 v51:=Tryz.zeroValue227
 t146:=Tryz.underlying228
 a146:=Tryz.isAgg228
 z146:=Tryz.sizeOf228
 v146:=Tryz.zeroValue228
 g1:=by kernel_rfl }
open Go.RowKit Go.Lib in
theorem Tryz.stringslite_Index_one(s:ByteArray)(c:UInt8)(w:World):
  Calls Tryz.prog 139 #[.string s,.string ⟨#[c]⟩] w fun e w'=>e = .returned (.int .i64 (Lib.indexByte s.data.toList c))∧w'=w:=Any.stringslite_Index_one Tryz.lays219 s c w
def Tryz.lays172_ren:Go.Shelf.Ren:=⟨fun|172=>150|244=>167|245=>168|247=>179|279=>180|280=>181|281=>182|282=>183|287=>188|316=>189|171=>65|205=>190|321=>191|322=>192|243=>111|246=>140|283=>156|284=>157|285=>158|286=>159|129=>172|317=>171|318=>173|319=>174|320=>175|337=>184|338=>185|n=>n,fun|9=>9|3=>3|75=>29|76=>59|4=>4|5=>5|167=>237|37=>56|0=>0|85=>238|2=>2|168=>240|53=>217|175=>244|46=>198|210=>247|127=>101|145=>258|143=>256|21=>21|171=>216|173=>220|212=>231|51=>227|20=>20|213=>232|232=>249|233=>250|80=>61|n=>n,fun|15=>3|16=>4|17=>2|18=>5|19=>6|n=>n⟩
theorem Tryz.lays172:Go.Proofs.Lays.n172 Tryz.prog Tryz.lays172_ren:={
 mixed:=by kernel_rfl
 f129:=Tryz.func172.trans (congrArg some (by kernel_rfl))
 f171:=Tryz.func65.trans (congrArg some (by kernel_rfl))
 f172:=Tryz.func150.trans (congrArg some (by kernel_rfl))
 f205:=Tryz.func190.trans (congrArg some (by kernel_rfl))
 f243:=Tryz.func111.trans (congrArg some (by kernel_rfl))
 f244:=Tryz.func167.trans (congrArg some (by kernel_rfl))
 f245:=Tryz.func168.trans (congrArg some (by kernel_rfl))
 f246:=Tryz.func140.trans (congrArg some (by kernel_rfl))
 f247:=Tryz.func179.trans (congrArg some (by kernel_rfl))
 f279:=Tryz.func180.trans (congrArg some (by kernel_rfl))
 f280:=Tryz.func181.trans (congrArg some (by kernel_rfl))
 f281:=Tryz.func182.trans (congrArg some (by kernel_rfl))
 f282:=Tryz.func183.trans (congrArg some (by kernel_rfl))
 f283:=Tryz.func156.trans (congrArg some (by kernel_rfl))
 f284:=Tryz.func157.trans (congrArg some (by kernel_rfl))
 f285:=Tryz.func158.trans (congrArg some (by kernel_rfl))
 f286:=Tryz.func159.trans (congrArg some (by kernel_rfl))
 f287:=Tryz.func188.trans (congrArg some (by kernel_rfl))
 f316:=Tryz.func189.trans (congrArg some (by kernel_rfl))
 f317:=Tryz.func171.trans (congrArg some (by kernel_rfl))
 f318:=Tryz.func173.trans (congrArg some (by kernel_rfl))
 f319:=Tryz.func174.trans (congrArg some (by kernel_rfl))
 f320:=Tryz.func175.trans (congrArg some (by kernel_rfl))
 f321:=Tryz.func191.trans (congrArg some (by kernel_rfl))
 f322:=Tryz.func192.trans (congrArg some (by kernel_rfl))
 f337:=Tryz.func184.trans (congrArg some (by kernel_rfl))
 f338:=Tryz.func185.trans (congrArg some (by kernel_rfl))
 t0:=Tryz.underlying0
 a0:=Tryz.isAgg0
 z0:=Tryz.sizeOf0
 v0:=Tryz.zeroValue0
 t2:=Tryz.underlying2
 a2:=Tryz.isAgg2
 z2:=Tryz.sizeOf2
 v2:=Tryz.zeroValue2
 t3:=Tryz.underlying3
 a3:=Tryz.isAgg3
 z3:=Tryz.sizeOf3
 v3:=Tryz.zeroValue3
 t4:=Tryz.underlying4
 a4:=Tryz.isAgg4
 z4:=Tryz.sizeOf4
 v4:=Tryz.zeroValue4
 t5:=Tryz.underlying5
 a5:=Tryz.isAgg5
 z5:=Tryz.sizeOf5
 v5:=Tryz.zeroValue5
 t9:=Tryz.underlying9
 a9:=Tryz.isAgg9
 z9:=Tryz.sizeOf9
 v9:=Tryz.zeroValue9
 t20:=Tryz.underlying20
 a20:=Tryz.isAgg20
 z20:=Tryz.sizeOf20
 v20:=Tryz.zeroValue20
 t21:=Tryz.underlying21
 a21:=Tryz.isAgg21
 z21:=Tryz.sizeOf21
 v21:=Tryz.zeroValue21
 t37:=Tryz.underlying56
 a37:=Tryz.isAgg56
 z37:=Tryz.sizeOf56
 v37:=Tryz.zeroValue56
 t46:=Tryz.underlying198
 a46:=Tryz.isAgg198
 z46:=Tryz.sizeOf198
 v46:=Tryz.zeroValue198
 t51:=Tryz.underlying227
 a51:=Tryz.isAgg227
 z51:=Tryz.sizeOf227
 v51:=Tryz.zeroValue227
 t53:=Tryz.underlying217
 a53:=Tryz.isAgg217
 z53:=Tryz.sizeOf217
 v53:=Tryz.zeroValue217
 t75:=Tryz.underlying29
 a75:=Tryz.isAgg29
 z75:=Tryz.sizeOf29
 v75:=Tryz.zeroValue29
 t76:=Tryz.underlying59
 a76:=Tryz.isAgg59
 z76:=Tryz.sizeOf59
 v76:=Tryz.zeroValue59
 t85:=Tryz.underlying238
 a85:=Tryz.isAgg238
 z85:=Tryz.sizeOf238
 v85:=Tryz.zeroValue238
 t127:=Tryz.underlying101
 a127:=Tryz.isAgg101
 z127:=Tryz.sizeOf101
 v127:=Tryz.zeroValue101
 t143:=Tryz.underlying256
 a143:=Tryz.isAgg256
 z143:=Tryz.sizeOf256
 v143:=Tryz.zeroValue256
 t145:=Tryz.underlying258
 a145:=Tryz.isAgg258
 z145:=Tryz.sizeOf258
 v145:=Tryz.zeroValue258
 t167:=Tryz.underlying237
 a167:=Tryz.isAgg237
 z167:=Tryz.sizeOf237
 v167:=Tryz.zeroValue237
 t168:=Tryz.underlying240
 a168:=Tryz.isAgg240
 z168:=Tryz.sizeOf240
 v168:=Tryz.zeroValue240
 t171:=Tryz.underlying216
 a171:=Tryz.isAgg216
 z171:=Tryz.sizeOf216
 v171:=Tryz.zeroValue216
 t173:=Tryz.underlying220
 a173:=Tryz.isAgg220
 z173:=Tryz.sizeOf220
 v173:=Tryz.zeroValue220
 t175:=Tryz.underlying244
 a175:=Tryz.isAgg244
 z175:=Tryz.sizeOf244
 v175:=Tryz.zeroValue244
 t210:=Tryz.underlying247
 a210:=Tryz.isAgg247
 z210:=Tryz.sizeOf247
 v210:=Tryz.zeroValue247
 t212:=Tryz.underlying231
 a212:=Tryz.isAgg231
 z212:=Tryz.sizeOf231
 v212:=Tryz.zeroValue231
 t213:=Tryz.underlying232
 a213:=Tryz.isAgg232
 z213:=Tryz.sizeOf232
 t232:=Tryz.underlying249
 a232:=Tryz.isAgg249
 z232:=Tryz.sizeOf249
 v232:=Tryz.zeroValue249
 t233:=Tryz.underlying250
 a233:=Tryz.isAgg250
 z233:=Tryz.sizeOf250
 v233:=Tryz.zeroValue250
 g15:=by kernel_rfl
 g16:=by kernel_rfl
 g17:=by kernel_rfl
 g18:=by kernel_rfl
 g19:=by kernel_rfl }
open Go.RowKit in
theorem Tryz.strconv_Atoi(s:ByteArray)(n:Int)(hl:s.size≤18)(h:Lib.atoi s.data.toList=some n)(w:World):
  Calls Tryz.prog 150 #[.string s] w fun e w'=>e = .returned (.tuple #[.int .i64 n,.nilIface]) ∧ ∃t,w'=Lib.bytesWorld w 5 t:=Any.strconv_Atoi Tryz.lays172 s n hl h w
end Go.Proofs
end
