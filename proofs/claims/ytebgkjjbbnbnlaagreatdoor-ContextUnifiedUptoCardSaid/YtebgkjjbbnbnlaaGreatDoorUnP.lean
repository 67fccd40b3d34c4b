/- What the code of Go functions comes to over abstract stores, piece by piece; each equation by the kernel. Printed by a program of this session. What the code of reading answers: lines, names in quotes, numbers, a hunk's first line. What the code of reading answers: octal digits, names in quotes, numbers, a hunk's first line. -/
import Derived.Test.YtebgkjjbbnbnlaaGreatDoorSvT
import Derived.KernelRfl
import Derived.Test.YtebgkjjbbnbnlaaGreatDoorUnL
import Derived.Test.YtebgkjjbbnbnlaaGreatDoorSvBk
set_option linter.unusedVariables false
set_option maxRecDepth 100000
set_option linter.unusedSimpArgs false
section
namespace Go.Sv
open Go Go.Proofs
namespace F4
def lvs:List (List Nat):=[[0],[0],[0],[0],[0,3],[0,3],[0,3],[0,3],[0,3],[0,3],[0,3,6],[0,3],[3],[0,3],[0,3],[0,3],[0,3,4],[0,3,4],[0,3,4],[0,3,4,11],[0,3],[0,3,4],[0,3,4],[0,3,4],[0,3,4],[3],[3],[2]]
def lv:Nat→List Nat:=O9 lvs
noncomputable def code:Code:=F3 Tryz.f23
noncomputable def fe:FE:=⟨Tryz.f23,code,lv⟩
def A5:List Nat:=[7,22,25]
abbrev X(w0:B5)(n:Nat):XT:=xr (cx w0) 24 lv n
theorem ok(w0:B5):FOK (cx w0) F4.id fe:=⟨Tryz.func23,by kernel_rfl,by kernel_rfl⟩
section
variable (Z:XT)(w0:B5)(n:Nat)(R:RT)(σ:A2)(s:List UInt8)(out:AV)(at_:Int)
def q5:QT:=D6 (fun env σ=>Z (cAt code 25) 25 (prune (lv 25) env) σ (B7 (cx w0) Tryz.f23 n R)) (B7 (cx w0) Tryz.f23 n R)
def q6:QT:=H7 0 (q5 Z w0 n R)
def q7:QT:=D6 (fun env σ=>Z (cAt code 6) 6 (prune (lv 6) env) σ (q6 Z w0 n R)) (q6 Z w0 n R)
def q14:QT:=H7 1 (q7 Z w0 n R)
def n6:Prop:=
 Z (cAt code 6) 6 [(0,(.pv (.str s))),(3,out)] σ (q6 Z w0 n R)
def b7:Prop:=
 A6 (cx w0) 24 lv n A5 Z (cAt code 7) 7 [(0,(.pv (.str s))),(3,out)] σ (q7 Z w0 n R)
def n22:Prop:=
 Z (cAt code 22) 22 [(0,(.pv (.str s))),(3,out),(4,(.pv (.int .i64 at_)))] σ (q14 Z w0 n R)
def b22:Prop:=
 A6 (cx w0) 24 lv n A5 Z (cAt code 22) 22 [(0,(.pv (.str s))),(3,out),(4,(.pv (.int .i64 at_)))] σ (q14 Z w0 n R)
def n25:Prop:=
 Z (cAt code 25) 25 [(3,out)] σ (B7 (cx w0) Tryz.f23 n R)
def b25:Prop:=
 A6 (cx w0) 24 lv n A5 Z (cAt code 25) 25 [(3,out)] σ (B7 (cx w0) Tryz.f23 n R)
def b0:Prop:=
 A6 (cx w0) 24 lv n A5 Z code 0 (J6 0 [(.pv (.str s))]) σ (B7 (cx w0) Tryz.f23 n R)
end
variable {Z:XT}{w0:B5}{n:Nat}{R:RT}{σ τ:A2}{s s':List UInt8}{out out':AV}{at_:Int}
theorem n6_in(h:b7 (X w0 n) w0 n R σ s out):n6 (X w0 n) w0 n R σ s out:=I5 (J9 w0) (S:=A5) (by kernel_rfl:cAt code 6 = .loop (cAt code 7)) h
theorem n6_weak(e:M5 (cx w0) n [(0,(.pv (.str s))),(3,out)] σ [(0,(.pv (.str s'))),(3,out')] τ)(h:n6 (X w0 n) w0 n R τ s' out'):n6 (X w0 n) w0 n R σ s out:=T5 (L:=lv) (k:=6) (by kernel_rfl:cAt code 6 = .loop (cAt code 7)) e h
theorem b7_eq:b7 Z w0 n R σ s out=(
 B1 (!((s:List UInt8) == [])) (A1 (cx w0) strings_IndexByte.id [(.pv (.str s)),(.pv (.int .u8 10))] σ fun r σ'=>isI .i64 r fun t8=>B1 (((IntKind.wrap .i64 (t8+1)):Int)==0) (n22 Z w0 n R σ' s out (List.length (s:List UInt8):Int)) (n22 Z w0 n R σ' s out (IntKind.wrap .i64 (t8+1)))) (n25 Z w0 n R σ out)):=by kernel_rfl
theorem b22_eq:b22 Z w0 n R σ s out at_=(
 opt (K5 σ B2 ti9.td (.pv (.str s)) none (some (.pv (.int .i64 at_)))) fun t17=>isS t17 fun t17_1=>opt2 (J1 σ ti9 false 1 [(0,(.pv (.str t17_1)))]) fun t18 σ'=>opt2 (N8 σ' ti9 out t18) fun t19 σ'_1=>opt (K5 σ'_1 B2 ti9.td (.pv (.str s)) (some (.pv (.int .i64 at_))) none) fun t22=>isS t22 fun t22_1=>n6 Z w0 n R σ'_1 t22_1 t19):=by kernel_rfl
theorem n22_in(h:b22 (X w0 n) w0 n R σ s out at_):n22 (X w0 n) w0 n R σ s out at_:=E0 (S:=A5) (by kernel_rfl) h
theorem b25_eq:b25 Z w0 n R σ out=(
 F2 (cx w0) n out σ R):=by kernel_rfl
theorem n25_in(h:b25 (X w0 n) w0 n R σ out):n25 (X w0 n) w0 n R σ out:=E0 (S:=A5) (by kernel_rfl) h
theorem b0_eq:b0 Z w0 n R σ s=(
 n6 Z w0 n R σ s .nilsl):=by kernel_rfl
theorem calls(h:b0 (X w0 (List.length σ)) w0 (List.length σ) R σ s):A1 (cx w0) F4.id [(.pv (.str s))] σ R:=
 D3 (J9 w0) (x:=fe) (S:=A5) (F4.ok w0) (by kernel_rfl) h
end F4
namespace W2
def lvs:List (List Nat):=[[0],[0],[0],[0],[0],[0,4],[0,4],[0,4],[0,4],[0,4],[0,4,6],[0,4],[],[0,4],[0,4],[0,4],[0,4],[0,4,13],[4],[4],[2,3],[0,4],[0,4],[],[],[2,3]]
def lv:Nat→List Nat:=O9 lvs
noncomputable def code:Code:=F3 Tryz.f117
noncomputable def fe:FE:=⟨Tryz.f117,code,lv⟩
theorem ok(w0:B5):FOK (cx w0) W2.id fe:=⟨Tryz.func117,by kernel_rfl,by kernel_rfl⟩
variable {Z:XT}{w0:B5}{n:Nat}{R:RT}{σ τ:A2}{l_ i l_' i':Int}
end W2
namespace H5
def lvs:List (List Nat):=[[0],[0],[0],[0],[0],[0,13],[],[],[2,3],[0],[0],[0],[0,4],[0,4],[0,4],[0,4,14],[0,4,14],[0,4,14],[0,4,14],[0,4,14,15],[0,4,14,15],[0,4,14],[4],[0,4,14],[0,4,14],[0,4,14],[0,4,14],[0,4,5,14],[0,4,5,14],[0,4,5,14],[0,4,5,14,26],[],[],[2,3],[0,4,5,14],[0,4,5,14],[0,4,14],[4],[4],[2,3]]
def lv:Nat→List Nat:=O9 lvs
noncomputable def code:Code:=F3 Tryz.f118
noncomputable def fe:FE:=⟨Tryz.f118,code,lv⟩
def A5:List Nat:=[5,17,30,37]
abbrev X(w0:B5)(n:Nat):XT:=xr (cx w0) 38 lv n
theorem ok(w0:B5):FOK (cx w0) H5.id fe:=⟨Tryz.func118,by kernel_rfl,by kernel_rfl⟩
section
variable (Z:XT)(w0:B5)(n:Nat)(R:RT)(σ:A2)(s:List UInt8)(t13:Bool)(n_ i t14:Int)(t26:Bool)
def q3:QT:=D6 (fun env σ=>A6 (cx w0) 38 lv n A5 Z (cAt code 10) 10 (prune (lv 10) env) σ (B7 (cx w0) Tryz.f118 n R)) (B7 (cx w0) Tryz.f118 n R)
def q13:QT:=D6 (fun env σ=>Z (cAt code 37) 37 (prune (lv 37) env) σ (B7 (cx w0) Tryz.f118 n R)) (B7 (cx w0) Tryz.f118 n R)
def q16:QT:=H7 0 (q13 Z w0 n R)
def q17:QT:=D6 (fun env σ=>Z (cAt code 16) 16 (prune (lv 16) env) σ (q16 Z w0 n R)) (q16 Z w0 n R)
def q24:QT:=D6 (fun env σ=>A6 (cx w0) 38 lv n A5 Z (cAt code 36) 36 (prune (lv 36) env) σ (q17 Z w0 n R)) (q17 Z w0 n R)
def q25:QT:=H7 1 (q24 Z w0 n R)
def q28:QT:=D6 (fun env σ=>A6 (cx w0) 38 lv n A5 Z (cAt code 35) 35 (prune (lv 35) env) σ (q25 Z w0 n R)) (q25 Z w0 n R)
def n5:Prop:=
 Z (cAt code 5) 5 [(0,(.pv (.str s))),(13,(.pv (.bool t13)))] σ (q3 Z w0 n R)
def b5:Prop:=
 A6 (cx w0) 38 lv n A5 Z (cAt code 5) 5 [(0,(.pv (.str s))),(13,(.pv (.bool t13)))] σ (q3 Z w0 n R)
def n16:Prop:=
 Z (cAt code 16) 16 [(0,(.pv (.str s))),(4,(.pv (.int .i64 n_))),(14,(.pv (.int .i64 t14)))] σ (q16 Z w0 n R)
def b17:Prop:=
 A6 (cx w0) 38 lv n A5 Z (cAt code 17) 17 [(0,(.pv (.str s))),(4,(.pv (.int .i64 n_))),(14,(.pv (.int .i64 t14)))] σ (q17 Z w0 n R)
def n30:Prop:=
 Z (cAt code 30) 30 [(0,(.pv (.str s))),(4,(.pv (.int .i64 n_))),(5,(.pv (.int .i64 i))),(14,(.pv (.int .i64 t14))),(26,(.pv (.bool t26)))] σ (q28 Z w0 n R)
def b30:Prop:=
 A6 (cx w0) 38 lv n A5 Z (cAt code 30) 30 [(0,(.pv (.str s))),(4,(.pv (.int .i64 n_))),(5,(.pv (.int .i64 i))),(14,(.pv (.int .i64 t14))),(26,(.pv (.bool t26)))] σ (q28 Z w0 n R)
def n37:Prop:=
 Z (cAt code 37) 37 [(4,(.pv (.int .i64 n_)))] σ (B7 (cx w0) Tryz.f118 n R)
def b37:Prop:=
 A6 (cx w0) 38 lv n A5 Z (cAt code 37) 37 [(4,(.pv (.int .i64 n_)))] σ (B7 (cx w0) Tryz.f118 n R)
def b0:Prop:=
 A6 (cx w0) 38 lv n A5 Z code 0 (J6 0 [(.pv (.str s))]) σ (B7 (cx w0) Tryz.f118 n R)
end
variable {Z:XT}{w0:B5}{n:Nat}{R:RT}{σ τ:A2}{s s':List UInt8}{t13 t26:Bool}{n_ t14 i n_' t14':Int}
theorem b5_eq:b5 Z w0 n R σ s t13=(
 B1 t13 (F2 (cx w0) n (.tup [(.pv (.int .u8 0)),(.pv (.bool false))]) σ R) (n16 Z w0 n R σ s 0 0)):=by kernel_rfl
theorem n5_in(h:b5 (X w0 n) w0 n R σ s t13):n5 (X w0 n) w0 n R σ s t13:=E0 (S:=A5) (by kernel_rfl) h
theorem n16_in(h:b17 (X w0 n) w0 n R σ s n_ t14):n16 (X w0 n) w0 n R σ s n_ t14:=I5 (J9 w0) (S:=A5) (by kernel_rfl:cAt code 16 = .loop (cAt code 17)) h
theorem b17_eq:b17 Z w0 n R σ s n_ t14=(
 B1 (decide ((t14:Int)<3)) (opt (Q8 B2 ti9.td (.pv (.str s)) t14) fun t19=>isI .u8 t19 fun t19_1=>B1 (decide ((t19_1:Int)<48)) (n30 Z w0 n R σ s n_ t14 t14 true) (opt (Q8 B2 ti9.td (.pv (.str s)) t14) fun t24=>isI .u8 t24 fun t24_1=>n30 Z w0 n R σ s n_ t14 t14 (decide ((t24_1:Int)>55)))) (n37 Z w0 n R σ n_)):=by kernel_rfl
theorem b30_eq:b30 Z w0 n R σ s n_ i t14 t26=(
 B1 t26 (F2 (cx w0) n (.tup [(.pv (.int .u8 0)),(.pv (.bool false))]) σ R) (opt (Q8 B2 ti9.td (.pv (.str s)) i) fun t31=>isI .u8 t31 fun t31_1=>n16 Z w0 n R σ s (IntKind.wrap .i64 ((IntKind.wrap .i64 (n_*8))+(IntKind.wrap .i64 (IntKind.wrap .u8 (t31_1-48))))) (IntKind.wrap .i64 (t14+1)))):=by kernel_rfl
theorem n30_in(h:b30 (X w0 n) w0 n R σ s n_ i t14 t26):n30 (X w0 n) w0 n R σ s n_ i t14 t26:=E0 (S:=A5) (by kernel_rfl) h
theorem b37_eq:b37 Z w0 n R σ n_=(
 F2 (cx w0) n (.tup [(.pv (.int .u8 (IntKind.wrap .u8 n_))),(.pv (.bool true))]) σ R):=by kernel_rfl
theorem n37_in(h:b37 (X w0 n) w0 n R σ n_):n37 (X w0 n) w0 n R σ n_:=E0 (S:=A5) (by kernel_rfl) h
theorem b0_eq:b0 Z w0 n R σ s=(
 B1 (decide (((List.length (s:List UInt8):Int):Int)<3)) (n5 Z w0 n R σ s true) (opt (Q8 B2 ti9.td (.pv (.str s)) 0) fun t11=>isI .u8 t11 fun t11_1=>n5 Z w0 n R σ s (decide ((t11_1:Int)>51)))):=by kernel_rfl
theorem calls(h:b0 (X w0 (List.length σ)) w0 (List.length σ) R σ s):A1 (cx w0) H5.id [(.pv (.str s))] σ R:=
 D3 (J9 w0) (x:=fe) (S:=A5) (H5.ok w0) (by kernel_rfl) h
end H5
namespace H4
def lvs:List (List Nat):=[[0],[0],[0],[0],[0],[0,16],[0],[0],[0,5],[0,5],[0,5],[0,5,20],[0],[0,5],[0,5],[0,5],[2,3,4],[0],[0],[0],[0,6],[0,6],[0,6],[0,6,7],[0,6,7],[0,6,7],[0,6,7],[0,6,7],[0,6,7,32],[0,6,7],[],[0,6,7],[0,6,7],[0,6,7],[0,6,7],[0,6,7,8],[0,6,7,8],[0,6,7,8],[0,6,7,8,36],[0,6,7],[0,6,7],[2,3,4],[0,6,7,8],[0,6,7,8],[0,6,7,8,45],[],[],[2,3,4],[0,6,7,8],[0,6,7,8],[0,6,7,8,49],[0,6,7,8],[0,6,7,8],[0,6,7],[0,6,7],[0,6,7],[0,6,7],[0,6,7],[0,6,7],[0,6,7,9],[0,6,7,9],[0,6,7,9],[0,6,7,9,63],[],[0,6,7,9],[0,6,7,9],[0,6,7,9],[0,6,7,9],[0,6,7,9,10,11],[0,6,7,9,10,11],[0,6,7,9,10,70],[0,6,7,10],[0,6,7,10],[0,6,7],[0,6,7],[0,6,7],[0,6,7,9],[0,6,7,9],[0,6,7,9],[0,6,7,12,13],[0,6,7,12,13],[0,6,7,12,13],[0,6,7,12,83],[],[],[2,3,4],[0,6,7,12],[0,6,7,12],[0,6,7,12],[0,6,7],[],[],[2,3,4]]
def lv:Nat→List Nat:=O9 lvs
noncomputable def code:Code:=F3 Tryz.f74
noncomputable def fe:FE:=⟨Tryz.f74,code,lv⟩
def A5:List Nat:=[14,25,90]
abbrev X(w0:B5)(n:Nat):XT:=xr (cx w0) 92 lv n
theorem ok(w0:B5):FOK (cx w0) H4.id fe:=⟨Tryz.func74,by kernel_rfl,by kernel_rfl⟩
section
variable (Z:XT)(w0:B5)(n:Nat)(R:RT)(σ:A2)(text:List UInt8)(n_:Int)(b:AV)(i:Int)
def q3:QT:=D6 (fun env σ=>A6 (cx w0) 92 lv n A5 Z (cAt code 18) 18 (prune (lv 18) env) σ (B7 (cx w0) Tryz.f74 n R)) (B7 (cx w0) Tryz.f74 n R)
def q21:QT:=D6 (fun env σ=>Z (cAt code 90) 90 (prune (lv 90) env) σ (B7 (cx w0) Tryz.f74 n R)) (B7 (cx w0) Tryz.f74 n R)
def q24:QT:=H7 0 (q21 Z w0 n R)
def q25:QT:=D6 (fun env σ=>Z (cAt code 24) 24 (prune (lv 24) env) σ (q24 Z w0 n R)) (q24 Z w0 n R)
def n14:Prop:=
 Z (cAt code 14) 14 [(0,(.pv (.str text))),(5,(.pv (.int .i64 n_)))] σ (q3 Z w0 n R)
def b14:Prop:=
 A6 (cx w0) 92 lv n A5 Z (cAt code 14) 14 [(0,(.pv (.str text))),(5,(.pv (.int .i64 n_)))] σ (q3 Z w0 n R)
def n24:Prop:=
 Z (cAt code 24) 24 [(0,(.pv (.str text))),(6,b),(7,(.pv (.int .i64 i)))] σ (q24 Z w0 n R)
def b25:Prop:=
 A6 (cx w0) 92 lv n A5 Z (cAt code 25) 25 [(0,(.pv (.str text))),(6,b),(7,(.pv (.int .i64 i)))] σ (q25 Z w0 n R)
def n90:Prop:=
 Z (cAt code 90) 90 [] σ (B7 (cx w0) Tryz.f74 n R)
def b90:Prop:=
 A6 (cx w0) 92 lv n A5 Z (cAt code 90) 90 [] σ (B7 (cx w0) Tryz.f74 n R)
def b0:Prop:=
 A6 (cx w0) 92 lv n A5 Z code 0 (J6 0 [(.pv (.str text))]) σ (B7 (cx w0) Tryz.f74 n R)
end
variable {Z:XT}{w0:B5}{n:Nat}{R:RT}{σ τ:A2}{text text':List UInt8}{n_ i i':Int}{b b':AV}
theorem b14_eq:b14 Z w0 n R σ text n_=(
 opt (K5 σ B2 ti9.td (.pv (.str text)) none (some (.pv (.int .i64 n_)))) fun t25=>isS t25 fun t25_1=>opt (K5 σ B2 ti9.td (.pv (.str text)) (some (.pv (.int .i64 n_))) none) fun t28=>isS t28 fun t28_1=>((opt (K5 σ B2 ti9.td (.pv (.str text)) (some (.pv (.int .i64 n_))) none) fun t28_2=>((t28_2:AV)=(.pv (.str t28_1))))∧(F2 (cx w0) n (.tup [(.pv (.str t25_1)),(.pv (.str t28_1)),(.pv (.raw .nilIface))]) σ R))):=by kernel_rfl
theorem n14_in(h:b14 (X w0 n) w0 n R σ text n_):n14 (X w0 n) w0 n R σ text n_:=E0 (S:=A5) (by kernel_rfl) h
theorem n24_in(h:b25 (X w0 n) w0 n R σ text b i):n24 (X w0 n) w0 n R σ text b i:=I5 (J9 w0) (S:=A5) (by kernel_rfl:cAt code 24 = .loop (cAt code 25)) h
theorem n24_weak(e:M5 (cx w0) n [(0,(.pv (.str text))),(6,b),(7,(.pv (.int .i64 i)))] σ [(0,(.pv (.str text'))),(6,b'),(7,(.pv (.int .i64 i')))] τ)(h:n24 (X w0 n) w0 n R τ text' b' i'):n24 (X w0 n) w0 n R σ text b i:=T5 (L:=lv) (k:=24) (by kernel_rfl:cAt code 24 = .loop (cAt code 25)) e h
theorem b25_eq:b25 Z w0 n R σ text b i=(
 B1 (decide ((i:Int)<(List.length (text:List UInt8):Int))) (opt (Q8 B2 ti9.td (.pv (.str text)) i) fun t35=>isI .u8 t35 fun t35_1=>B1 ((t35_1:Int)==34) (opt2 (al σ B2 Mj.td ti9.td b) fun t40 σ'=>isS t40 fun t40_1=>opt (K5 σ B2 ti9.td (.pv (.str text)) (some (.pv (.int .i64 (IntKind.wrap .i64 (i+1))))) none) fun t44=>isS t44 fun t44_1=>((opt (K5 σ B2 ti9.td (.pv (.str text)) (some (.pv (.int .i64 (IntKind.wrap .i64 (i+1))))) none) fun t44_2=>((t44_2:AV)=(.pv (.str t44_1))))∧(F2 (cx w0) n (.tup [(.pv (.str t40_1)),(.pv (.str t44_1)),(.pv (.raw .nilIface))]) σ R))) (B1 ((t35_1:Int)==10) (opt (I2 63 (.pv (.int .i64 20))) fun t48=>F2 (cx w0) n (.tup [(.pv (.str [])),(.pv (.str [])),t48]) σ R) (B1 ((t35_1:Int) != 92) (opt2 (J1 σ ti5 false 1 [(0,(.pv (.int .u8 t35_1)))]) fun t54 σ'=>opt2 (N8 σ' ti5 b t54) fun t55 σ'_1=>n24 Z w0 n R σ'_1 text t55 (IntKind.wrap .i64 (i+1))) (opt (K5 σ B2 ti9.td (.pv (.str text)) (some (.pv (.int .i64 (IntKind.wrap .i64 (i+1))))) none) fun t61=>isS t61 fun t61_1=>B1 ((t61_1:List UInt8) == []) (n90 Z w0 n R σ) (opt (Q8 B2 ti9.td (.pv (.str t61_1)) 0) fun t66=>isI .u8 t66 fun t66_1=>A1 (cx w0) W2.id [(.pv (.int .u8 t66_1))] σ fun r σ'=>isTup r fun vs=>opt ((vs)[0]?) fun t68=>isI .u8 t68 fun t68_1=>isTup r fun vs_1=>opt ((vs_1)[1]?) fun t69=>isB t69 fun t69_1=>B1 t69_1 (opt2 (J1 σ' ti5 false 1 [(0,(.pv (.int .u8 t68_1)))]) fun t73 σ'_1=>opt2 (N8 σ'_1 ti5 b t73) fun t74 σ'_2=>n24 Z w0 n R σ'_2 text t74 (IntKind.wrap .i64 (i+2))) (A1 (cx w0) H5.id [(.pv (.str t61_1))] σ' fun r_1 σ'_1=>isTup r_1 fun vs_2=>opt ((vs_2)[0]?) fun t80=>isI .u8 t80 fun t80_1=>isTup r_1 fun vs_3=>opt ((vs_3)[1]?) fun t81=>isB t81 fun t81_1=>B1 (!t81_1) (opt (I2 63 (.pv (.int .i64 20))) fun t84=>F2 (cx w0) n (.tup [(.pv (.str [])),(.pv (.str [])),t84]) σ'_1 R) (opt2 (J1 σ'_1 ti5 false 1 [(0,(.pv (.int .u8 t80_1)))]) fun t87 σ'_2=>opt2 (N8 σ'_2 ti5 b t87) fun t88 σ'_3=>n24 Z w0 n R σ'_3 text t88 (IntKind.wrap .i64 (i+4))))))))) (n90 Z w0 n R σ)):=by kernel_rfl
theorem b90_eq:b90 Z w0 n R σ=(
 opt (I2 63 (.pv (.int .i64 20))) fun t91=>F2 (cx w0) n (.tup [(.pv (.str [])),(.pv (.str [])),t91]) σ R):=by kernel_rfl
theorem n90_in(h:b90 (X w0 n) w0 n R σ):n90 (X w0 n) w0 n R σ:=E0 (S:=A5) (by kernel_rfl) h
theorem b0_eq:b0 Z w0 n R σ text=(
 A1 (cx w0) strings_HasPrefix.id [(.pv (.str text)),(.pv (.str [34]))] σ fun r σ'=>isB r fun t15=>B1 (!t15) (A1 (cx w0) strings_IndexAny.id [(.pv (.str text)),(.pv (.str [9,10]))] σ' fun r_1 σ'_1=>isI .i64 r_1 fun t18=>B1 (decide ((t18:Int)<0)) (n14 Z w0 n R σ'_1 text (List.length (text:List UInt8):Int)) (n14 Z w0 n R σ'_1 text t18)) (n24 Z w0 n R σ' text .nilsl 1)):=by kernel_rfl
theorem calls(h:b0 (X w0 (List.length σ)) w0 (List.length σ) R σ text):A1 (cx w0) H4.id [(.pv (.str text))] σ R:=
 D3 (J9 w0) (x:=fe) (S:=A5) (H4.ok w0) (by kernel_rfl) h
end H4
namespace I4
def lvs:List (List Nat):=[[0,1],[0,1],[0,1],[0,1],[4,5]]
def lv:Nat→List Nat:=O9 lvs
noncomputable def code:Code:=F3 Tryz.f40
noncomputable def fe:FE:=⟨Tryz.f40,code,lv⟩
def A5:List Nat:=[]
abbrev X(w0:B5)(n:Nat):XT:=xr (cx w0) 11 lv n
theorem ok(w0:B5):FOK (cx w0) I4.id fe:=⟨Tryz.func40,by kernel_rfl,by kernel_rfl⟩
section
variable (Z:XT)(w0:B5)(n:Nat)(R:RT)(σ:A2)(s prefix_:List UInt8)
def b0:Prop:=
 A6 (cx w0) 11 lv n A5 Z code 0 (J6 0 [(.pv (.str s)),(.pv (.str prefix_))]) σ (B7 (cx w0) Tryz.f40 n R)
end
variable {Z:XT}{w0:B5}{n:Nat}{R:RT}{σ τ:A2}{s prefix_:List UInt8}
theorem b0_eq:b0 Z w0 n R σ s prefix_=(
 A1 (cx w0) L0.id [(.pv (.str s)),(.pv (.str prefix_))] σ fun r σ'=>isTup r fun vs=>opt ((vs)[0]?) fun t9=>isS t9 fun t9_1=>isTup r fun vs_1=>opt ((vs_1)[1]?) fun t10=>isB t10 fun t10_1=>F2 (cx w0) n (.tup [(.pv (.str t9_1)),(.pv (.bool t10_1))]) σ' R):=by kernel_rfl
theorem calls(h:b0 (X w0 (List.length σ)) w0 (List.length σ) R σ s prefix_):A1 (cx w0) I4.id [(.pv (.str s)),(.pv (.str prefix_))] σ R:=
 D3 (J9 w0) (x:=fe) (S:=A5) (I4.ok w0) (by kernel_rfl) h
end I4
namespace L0
def lvs:List (List Nat):=[[0,1],[0,1],[0,1],[0,1],[0,1],[0,1,9],[0],[0],[4,5],[0,1],[0,1],[0,1],[4,5]]
def lv:Nat→List Nat:=O9 lvs
noncomputable def code:Code:=F3 Tryz.f76
noncomputable def fe:FE:=⟨Tryz.f76,code,lv⟩
def A5:List Nat:=[]
abbrev X(w0:B5)(n:Nat):XT:=xr (cx w0) 15 lv n
theorem ok(w0:B5):FOK (cx w0) L0.id fe:=⟨Tryz.func76,by kernel_rfl,by kernel_rfl⟩
section
variable (Z:XT)(w0:B5)(n:Nat)(R:RT)(σ:A2)(s prefix_:List UInt8)
def b0:Prop:=
 A6 (cx w0) 15 lv n A5 Z code 0 (J6 0 [(.pv (.str s)),(.pv (.str prefix_))]) σ (B7 (cx w0) Tryz.f76 n R)
end
variable {Z:XT}{w0:B5}{n:Nat}{R:RT}{σ τ:A2}{s prefix_:List UInt8}
theorem b0_eq:b0 Z w0 n R σ s prefix_=(
 A1 (cx w0) H0.id [(.pv (.str s)),(.pv (.str prefix_))] σ fun r σ'=>isB r fun t8=>B1 (!t8) (F2 (cx w0) n (.tup [(.pv (.str s)),(.pv (.bool false))]) σ' R) (opt (K5 σ' B2 ti9.td (.pv (.str s)) (some (.pv (.int .i64 (List.length (prefix_:List UInt8):Int)))) none) fun t14=>isS t14 fun t14_1=>F2 (cx w0) n (.tup [(.pv (.str t14_1)),(.pv (.bool true))]) σ' R)):=by kernel_rfl
theorem calls(h:b0 (X w0 (List.length σ)) w0 (List.length σ) R σ s prefix_):A1 (cx w0) L0.id [(.pv (.str s)),(.pv (.str prefix_))] σ R:=
 D3 (J9 w0) (x:=fe) (S:=A5) (L0.ok w0) (by kernel_rfl) h
end L0
namespace H0
def lvs:List (List Nat):=[[0,1],[0,1],[0,1],[0,1],[4]]
def lv:Nat→List Nat:=O9 lvs
noncomputable def code:Code:=F3 Tryz.f120
noncomputable def fe:FE:=⟨Tryz.f120,code,lv⟩
def A5:List Nat:=[4]
abbrev X(w0:B5)(n:Nat):XT:=xr (cx w0) 18 lv n
theorem ok(w0:B5):FOK (cx w0) H0.id fe:=⟨Tryz.func120,by kernel_rfl,by kernel_rfl⟩
section
variable (Z:XT)(w0:B5)(n:Nat)(R:RT)(σ:A2)(t4:Bool)(s prefix_:List UInt8)
def n4:Prop:=
 Z (cAt code 4) 4 [(4,(.pv (.bool t4)))] σ (B7 (cx w0) Tryz.f120 n R)
def b4:Prop:=
 A6 (cx w0) 18 lv n A5 Z (cAt code 4) 4 [(4,(.pv (.bool t4)))] σ (B7 (cx w0) Tryz.f120 n R)
def b0:Prop:=
 A6 (cx w0) 18 lv n A5 Z code 0 (J6 0 [(.pv (.str s)),(.pv (.str prefix_))]) σ (B7 (cx w0) Tryz.f120 n R)
end
variable {Z:XT}{w0:B5}{n:Nat}{R:RT}{σ τ:A2}{t4:Bool}{s prefix_:List UInt8}
theorem b4_eq:b4 Z w0 n R σ t4=(
 F2 (cx w0) n (.pv (.bool t4)) σ R):=by kernel_rfl
theorem n4_in(h:b4 (X w0 n) w0 n R σ t4):n4 (X w0 n) w0 n R σ t4:=E0 (S:=A5) (by kernel_rfl) h
theorem b0_eq:b0 Z w0 n R σ s prefix_=(
 B1 (decide (((List.length (s:List UInt8):Int):Int)≥(List.length (prefix_:List UInt8):Int))) (opt (K5 σ B2 ti9.td (.pv (.str s)) none (some (.pv (.int .i64 (List.length (prefix_:List UInt8):Int))))) fun t14=>isS t14 fun t14_1=>n4 Z w0 n R σ ((t14_1:List UInt8)==prefix_)) (n4 Z w0 n R σ false)):=by kernel_rfl
theorem calls(h:b0 (X w0 (List.length σ)) w0 (List.length σ) R σ s prefix_):A1 (cx w0) H0.id [(.pv (.str s)),(.pv (.str prefix_))] σ R:=
 D3 (J9 w0) (x:=fe) (S:=A5) (H0.ok w0) (by kernel_rfl) h
end H0
end Go.Sv
end
section
namespace Go.Sv
open Go Go.RowKit Go.Proofs
abbrev re(L:List Ln):PV:=.sl (L.map .str)
section
variable {w0:B5}{σ:A2}{R:AV→A2→Prop}
abbrev lnS(L:List Ln):A2:=[.arr 1 (L.map PV.str) false]
abbrev lnA(L:List Ln):AV:=.arr 0 L.length 0 L.length
theorem Yw(L:List Ln):gu 0 ([]++lnS L) (lnA L)=some (.pv (re L)):=by
 show (if (L.map PV.str).length=L.length∧0+L.length≤L.length then some (AV.pv (.sl (((L.map PV.str).drop 0).take L.length))) else none)=_
 rw[if_pos ⟨List.length_map _,by omega⟩]
 simp[List.take_of_length_le]
theorem cw{s:Ln}{k:Nat}(h:k≤s.length):K5 σ B2 ti9.td (.pv (.str s)) none (some (.pv (.int .i64 (k:Int))))=some (.pv (.str (s.take k))):=by
 show (if (0:Int)≤0∧(0:Int)≤(k:Int)∧(k:Int)≤((s.length:Nat):Int) then some (AV.pv (.str ((s.take (k:Int).toNat).drop (0:Int).toNat))) else none)=_
 rw[if_pos (by omega)]
 simp
theorem K8{s:Ln}{k:Nat}(h:k≤s.length):K5 σ B2 ti9.td (.pv (.str s)) (some (.pv (.int .i64 (k:Int)))) none=some (.pv (.str (s.drop k))):=by
 show (if (0:Int)≤(k:Int)∧(k:Int)≤((s.length:Nat):Int)∧((s.length:Nat):Int)≤((s.length:Nat):Int) then some (AV.pv (.str ((s.take ((s.length:Nat):Int).toNat).drop (k:Int).toNat))) else none)=_
 rw[if_pos (by omega)]
 simp
theorem Rp{l:Ln}:J1 σ ti9 false 1 [(0,.pv (.str l))]=some (.pv (.sl [.str l]),σ):=rfl
theorem Dj:∀(f:Nat) (s:Ln) (done:List Ln),s.length<f→s.length≤1099511627776→done.length+s.length≤1099511627776→F4.n6 (F4.X w0 0) w0 0 (fun r' _=>r' = .pv (re (done++M7 s))) (lnS done) s (lnA done)
 | 0,s,done,h,_,_=>absurd h (Nat.not_lt_zero _)
 | f+1,s,done,hf,hs,hd=>by
  refine F4.n6_in ?_
  rw[F4.b7_eq,E3,U5]
  refine B6 (fun g=>?_) (fun g=>?_)
  ·refine F4.n25_in ?_
   rw[F4.b25_eq]
   subst g
   refine U9 (σ:=[]) (L:=lnS done) O3 rfl (Yw done) ?_
   simp[M7]
  ·obtain ⟨k,k1,k2,k3,k4⟩:=mq s g
   have hge:=Lib.indexByte_ge s 10
   have fin:∀at_:Int,at_=(k:Int)→F4.n22 (F4.X w0 0) w0 0 (fun r' _=>r' = .pv (re (done++M7 s))) (lnS done) s (lnA done) at_:=by
    rintro at_ rfl
    have hl1:(s.take k).length=k:=by rw[List.length_take];omega
    have ih:=Dj f (s.drop k) (done ++ [s.take k]) (by rw[List.length_drop];omega) (by rw[List.length_drop];omega) (by rw[List.length_drop,List.length_append,List.length_singleton];omega)
    simp only[lnA,List.length_append,List.length_singleton] at ih
    have e:done.map PV.str ++ [PV.str (s.take k)]=(done ++ [s.take k]).map PV.str:=by simp
    refine F4.n22_in ?_
    rw[F4.b22_eq]
    refine A0 (cw k2) (K9 ?_)
    refine J4 Rp ?_
    refine J4 (X5 (id:=0) (es:=1) (ver:=done.length) (xs:=done.map PV.str) (ys:=[.str (s.take k)]) rfl rfl (List.length_map _).symm rfl rfl ⟨by rw[List.length_map];show done.length+1≤_;omega,by rw[List.length_map];show (done.length+1)*16≤_;omega⟩) ?_
    refine A0 (K8 k2) (K9 ?_)
    rw[List.length_map,e]
    rw[k4]
    rw[List.append_assoc] at ih
    exact ih
   refine iw (c:=10) (L3 ?_)
   have hle:Lib.indexByte s 10+1≤1099511627776:=by
    by_cases hm:Lib.indexByte s 10 = -1
    ·omega
    ·rw[if_neg hm] at k3;omega
   rw[F8 (by omega) (by omega),H6]
   refine B6 (fun g2=>fin _ ?_) (fun g2=>fin _ ?_)
   ·rw[if_pos (by omega)] at k3;exact k3
   ·rw[if_neg (by omega)] at k3;exact k3
theorem Bv(L:Laid w0.w){s:Ln}(hs:s.length≤1099511627776)(hR:R (.pv (re (M7 s))) σ):A1 (cx w0) F4.id [.pv (.str s)] σ R:=by
 refine A1.alone L rfl (fun w1 L1=>?_) rfl hR
 refine F4.calls ?_
 rw[F4.b0_eq]
 refine F4.n6_weak (s':=s) (out':=lnA []) (τ:=lnS []) (M5.nil (t:=3) (es:=1) rfl rfl) ?_
 exact Dj (s.length+1) s [] (by omega) hs (by simpa using hs)
noncomputable def feM:List (FuncId×FE):=[(W2.id,W2.fe)]
theorem Zv(w0:B5):ut (cx w0) feM:=⟨W2.ok w0,trivial⟩
def Je(k:Nat):AV:=match mo k with
 | some m=>.tup [.pv (.int .u8 (Int.ofNat m)),.pv (.bool true)]
 | none=>.tup [.pv (.int .u8 0),.pv (.bool false)]
theorem Ua(w0:B5):(List.range 256).map (fun k=>pb (cx w0) (ox feM) (iu Fz) 1000 40 W2.id [.pv (.int .u8 (Int.ofNat k))] [])=(List.range 256).map (fun k=>some (Je k,[])):=by kernel_rfl
theorem Oe(L:Laid w0.w){c:UInt8}(hR:R (Je c.toNat) σ):A1 (cx w0) W2.id [.pv (.int .u8 c.toNat)] σ R:=
 A1.alone L rfl (fun w1 L1=>Hb L1 (Zv w1) (qj (Ua w1) c.toNat_lt) rfl) (by unfold Je;split<;>rfl) hR
end
end Go.Sv
end
section
namespace Go.Sv
open Go Go.RowKit Go.Proofs
section
variable {w0:B5}{σ:A2}{R:AV→A2→Prop}
def Jj(s:Ln):AV:=match Ck s with
 | some v=>.tup [.pv (.int .u8 (v:Nat)),.pv (.bool true)]
 | none=>.tup [.pv (.int .u8 0),.pv (.bool false)]
theorem we{s:Ln}{i:Nat}{d:UInt8}{v:AV}(hi:i<3)(hd:s[i]? = some d)(n:Int)(n0:0≤n)(n1:n≤255)
  (hbad:¬(48≤d.toNat∧d.toNat≤55)→v = .tup [.pv (.int .u8 0),.pv (.bool false)])
  (next:48≤d.toNat∧d.toNat≤55→H5.n16 (H5.X w0 0) w0 0 (fun r' _=>r'=v) [] s (n*8+((d.toNat:Int)-48)) ((i+1:Nat):Int)):
  H5.n16 (H5.X w0 0) w0 0 (fun r' _=>r'=v) [] s n (i:Int):=by
 have hdl:=d.toNat_lt
 have key:∀t,t = !decide (48≤d.toNat∧d.toNat≤55)→H5.n30 (H5.X w0 0) w0 0 (fun r' _=>r'=v) [] s n (i:Int) (i:Int) t:=by
  rintro t rfl
  refine H5.n30_in ?_
  rw[H5.b30_eq,E3,A8]
  refine B6 (fun g=>?_) (fun g=>C4 (Nat.zero_le _) (hbad g).symm)
  refine A0 (R4 hd) (L3 ?_)
  rw[Jq (n:=(d.toNat:Int)-48) (by omega) (by omega),F8 (n:=n*8) (by omega) (by omega),F8 (n:=(d.toNat:Int)-48) (by omega) (by omega),F8 (by omega) (by omega),F8 (by omega) (by omega)]
  exact next g
 refine H5.n16_in ?_
 rw[H5.b17_eq,A8,if_pos (by omega)]
 refine A0 (R4 hd) (L3 ?_)
 rw[A8]
 refine B6 (fun g=>key _ ?_) (fun g=>?_)
 ·rw[decide_eq_false (by omega)];rfl
 ·refine A0 (R4 hd) (L3 (key _ ?_))
  have h:(48≤d.toNat∧d.toNat≤55) ↔ ¬((d.toNat:Int)>55):=by omega
  rw[decide_eq_decide.2 h,decide_not,Bool.not_not]
theorem Qg(L:Laid w0.w){s:Ln}(hR:R (Jj s) σ):A1 (cx w0) H5.id [.pv (.str s)] σ R:=by
 refine A1.alone L rfl (fun w1 L1=>?_) (by unfold Jj;split<;>rfl) hR
 refine H5.calls ?_
 rw[H5.b0_eq,A8]
 have bad:∀t,t=true→Ck s=none→H5.n5 (H5.X w1 0) w1 0 (fun r' _=>r'=Jj s) [] s t:=by
  rintro t rfl h
  refine H5.n5_in ?_
  rw[H5.b5_eq,L4]
  refine C4 (Nat.zero_le _) ?_
  unfold Jj;rw[h]
 match s,bad with
 | [],bad=>rw[if_pos (by decide)];exact bad _ rfl rfl
 | [a],bad=>rw[if_pos (by simp)];exact bad _ rfl rfl
 | [a,b],bad=>rw[if_pos (by simp)];exact bad _ rfl rfl
 | a::b::c::r,bad=>
  rw[if_neg (by simp only[List.length_cons];omega)]
  refine A0 (R4 (c:=a) rfl) (L3 ?_)
  have none_of:¬(48≤a.toNat∧a.toNat≤51∧48≤b.toNat∧b.toNat≤55∧48≤c.toNat∧c.toNat≤55)→Ck (a::b::c::r)=none:=fun h=>by
   show Qt _ _ _=none
   unfold Qt;rw[if_neg h]
  by_cases ha:(a.toNat:Int)>51
  ·exact bad _ (decide_eq_true ha) (none_of (by omega))
  have start:∀t,t=false→H5.n5 (H5.X w1 0) w1 0 (fun r' _=>r'=Jj (a::b::c::r)) [] (a::b::c::r) t:=by
   rintro t rfl
   refine H5.n5_in ?_
   rw[H5.b5_eq,I7]
   have no:¬(48≤a.toNat∧a.toNat≤51∧48≤b.toNat∧b.toNat≤55∧48≤c.toNat∧c.toNat≤55)→Jj (a::b::c::r) = .tup [.pv (.int .u8 0),.pv (.bool false)]:=fun h=>by
    unfold Jj;rw[none_of h]
   refine we (i:=0) (d:=a) (by omega) rfl 0 (by omega) (by omega) (fun h=>no (by omega)) (fun g1=>?_)
   refine we (i:=1) (d:=b) (by omega) rfl _ (by omega) (by omega) (fun h=>no (by omega)) (fun g2=>?_)
   refine we (i:=2) (d:=c) (by omega) rfl _ (by omega) (by omega) (fun h=>no (by omega)) (fun g3=>?_)
   refine H5.n16_in ?_
   rw[H5.b17_eq,A8,if_neg (by omega)]
   refine H5.n37_in ?_
   rw[H5.b37_eq,Jq (by omega) (by omega)]
   refine C4 (Nat.zero_le _) ?_
   have:Ck (a::b::c::r)=some ((a.toNat-48)*64+(b.toNat-48)*8+(c.toNat-48)):=by
    show Qt _ _ _=_
    unfold Qt;rw[if_pos (by omega)]
   unfold Jj
   rw[this]
   simp only
   congr 3
   congr 1
   omega
  exact start _ (decide_eq_false ha)
def Df(x:Option (Ln×Ln)):AV:=match x with
 | some (p,r)=>.tup [.pv (.str p),.pv (.str r),.pv (.raw .nilIface)]
 | none=>.tup [.pv (.str []),.pv (.str []),.pv (.iface 63 (.int .i64 20))]
theorem Pi(x:Option (Ln×Ln)):AV.under 0 (Df x)=true:=by unfold Df;split<;>rfl
theorem Tk{k m:Nat}(h:mo k=some m):m<256:=by
 unfold mo at h
 split at h<;>first|(cases h;done)|(cases h;decide)
theorem Xv{s:Ln}{v:Nat}(h:Ck s=some v):v<256:=by
 unfold Ck at h
 split at h
 ·unfold Qt at h
  split at h
  ·cases h;omega
  ·cases h
 ·cases h
theorem Va{s:Ln}{v:Nat}(h:Ck s=some v):3≤s.length:=by
 unfold Ck at h
 split at h
 ·simp only[List.length_cons];omega
 ·cases h
theorem Rx(L:Laid w0.w)(text:Ln)(hx:text.length≤8388608)(v:AV):∀(f:Nat) (r:Ln) (i:Nat) (acc:Ln),text.drop i=r→i≤text.length→r.length<f→acc.length+r.length≤8388608→v=Df (uqL f r acc) →
  H4.n24 (H4.X w0 0) w0 0 (fun r' _=>r'=v) [.arr 1 (I1 acc) false] text (.arr 0 acc.length 0 acc.length) (i:Int)
 | 0,r,i,acc,_,_,h,_,_=>absurd h (Nat.not_lt_zero _)
 | f+1,r,i,acc,hd,hi,hf,hl,hv=>by
  have err:∀σ:A2,v=Df none→H4.n90 (H4.X w0 0) w0 0 (fun r' _=>r'=v) σ:=by
   intro σ h
   refine H4.n90_in ?_
   rw[H4.b90_eq]
   refine A0 rfl (C4 (Nat.zero_le _) ?_)
   rw[h];rfl
  refine H4.n24_in ?_
  rw[H4.b25_eq,A8]
  cases r with
  | nil=>
   have hk:=N5 hd
   rw[if_neg (by omega)]
   exact err _ (by rw[hv];rfl)
  | cons c r=>
   obtain ⟨h1,h2,hk⟩:=G7 hd
   simp only[List.length_cons] at hf hl
   have hlen:(text.drop (i+1)).length=r.length:=by rw[h2]
   rw[List.length_drop] at hlen
   rw[if_pos (by omega)]
   refine A0 (R4 h1) (L3 ?_)
   rw[uqL.eq_def] at hv
   simp only at hv
   have wi:IntKind.wrap .i64 ((i:Int)+1)=((i+1:Nat):Int):=J3 hk (by omega)
   have more:∀(b:UInt8) (r':Ln) (j:Nat) (σ:A2),text.drop j=r'→j≤text.length→r'.length<f→acc.length+1+r'.length≤8388608→v=Df (uqL f r' (acc ++ [b])) →
     H4.n24 (H4.X w0 0) w0 0 (fun r' _=>r'=v) [.arr 1 (I1 (acc ++ [b])) false] text (.arr 0 (acc ++ [b]).length 0 (acc ++ [b]).length) (j:Int):=by
    intro b r' j σ e1 e2 e3 e4 e5
    exact Rx L text hx v f r' j (acc ++ [b]) e1 e2 e3 (by simp only[List.length_append,List.length_singleton];omega) e5
   rw[H6]
   refine B6 (fun g=>?_) (fun g=>?_)
   ·have hc:c=34:=UInt8.toNat_inj.1 (by have:UInt8.toNat 34=34:=rfl;omega)
    rw[if_pos hc] at hv
    refine J4 (Pf (id:=0) (acc:=acc) rfl) (K9 ?_)
    rw[wi]
    refine A0 (K8 (by omega)) (K9 ⟨A0 (K8 (by omega)) rfl,C4 (Nat.zero_le _) ?_⟩)
    rw[hv,h2];rfl
   ·have hc:¬c=34:=fun e=>g (by rw[e];rfl)
    rw[if_neg hc] at hv
    rw[H6]
    refine B6 (fun g2=>?_) (fun g2=>?_)
    ·have hc2:c=10:=UInt8.toNat_inj.1 (by have:UInt8.toNat 10=10:=rfl;omega)
     rw[if_pos hc2] at hv
     refine A0 rfl (C4 (Nat.zero_le _) ?_)
     rw[hv];rfl
    ·have hc2:¬c=10:=fun e=>g2 (by rw[e];rfl)
     rw[if_neg hc2] at hv
     rw[Q2]
     refine B6 (fun g3=>?_) (fun g3=>?_)
     ·have hc3:c=92:=UInt8.toNat_inj.1 (by have:UInt8.toNat 92=92:=rfl;omega)
      rw[if_neg (by rw[hc3];simp)] at hv
      rw[wi]
      refine A0 (K8 (by omega)) (K9 ?_)
      rw[h2,U5]
      refine B6 (fun g4=>?_) (fun g4=>?_)
      ·subst g4
       exact err _ (by rw[hv])
      ·cases r with
       | nil=>exact absurd rfl g4
       | cons d r1=>
        obtain ⟨h3,h4,hk2⟩:=G7 h2
        simp only[List.length_cons] at hf hl hlen
        refine A0 (R4 (c:=d) rfl) (L3 ?_)
        refine Oe L ?_
        unfold Je
        simp only at hv
        cases hm:mo d.toNat with
        | some m=>
         rw[hm] at hv
         have hm2:=Tk hm
         have hm3:((UInt8.ofNat m).toNat:Int)=(m:Int):=by rw[UInt8.toNat_ofNat_of_lt' hm2]
         repeat ((with_reducible first|apply A0|apply wI|apply wT|apply wP|apply wS|apply wB);exact rfl)
         rw[L4]
         refine J4 (v:=.pv (.sl [.int .u8 (Int.ofNat m)])) rfl ?_
         refine J4 (dp (id:=0) (acc:=acc) (s:=[UInt8.ofNat m]) (by
          show some [PV.int .u8 (Int.ofNat m)]=some (I1 [UInt8.ofNat m])
          simp only[I1,List.map_cons,List.map_nil]
          rw[hm3];rfl) rfl (by simp only[List.length_singleton];omega)) ?_
         have w2:IntKind.wrap .i64 ((i:Int)+2)=((i+2:Nat):Int):=by rw[F8 (by omega) (by omega)];omega
         rw[w2]
         exact more _ r1 (i+2) [] h4 (by omega) (by omega) (by omega) hv
        | none=>
         rw[hm] at hv
         simp only at hv
         repeat ((with_reducible first|apply A0|apply wI|apply wT|apply wP|apply wS|apply wB);exact rfl)
         refine Qg L ?_
         unfold Jj
         cases ho:Ck (d::r1) with
         | some o=>
          rw[ho] at hv
          simp only at hv
          have ho2:=Xv ho
          have ho4:=Va ho
          simp only[List.length_cons] at ho4
          have ho3:((UInt8.ofNat o).toNat:Int)=(o:Int):=by rw[UInt8.toNat_ofNat_of_lt' ho2]
          repeat ((with_reducible first|apply A0|apply wI|apply wT|apply wP|apply wS|apply wB);exact rfl)
          rw[E3,L4]
          refine J4 (v:=.pv (.sl [.int .u8 (o:Int)])) rfl ?_
          refine J4 (dp (id:=0) (acc:=acc) (s:=[UInt8.ofNat o]) (by
           show some [PV.int .u8 (o:Int)]=some (I1 [UInt8.ofNat o])
           simp only[I1,List.map_cons,List.map_nil]
           rw[ho3]) rfl (by simp only[List.length_singleton];omega)) ?_
          have w4:IntKind.wrap .i64 ((i:Int)+4)=((i+4:Nat):Int):=by rw[F8 (by omega) (by omega)];omega
          rw[w4]
          have hdd:text.drop (i+4)=(d::r1).drop 3:=by rw[← h2,List.drop_drop]
          have hdl:((d::r1).drop 3).length=r1.length-2:=by rw[List.length_drop,List.length_cons];omega
          exact more _ ((d::r1).drop 3) (i+4) [] hdd (by omega) (by omega) (by omega) hv
         | none=>
          rw[ho] at hv
          repeat ((with_reducible first|apply A0|apply wI|apply wT|apply wP|apply wS|apply wB);exact rfl)
          refine C4 (Nat.zero_le _) ?_
          rw[hv];rfl
     ·have hc3:c≠92:=fun e=>g3 (by rw[e];rfl)
      rw[if_pos hc3] at hv
      refine J4 (v:=.pv (.sl [.int .u8 c.toNat])) rfl ?_
      refine J4 (dp (id:=0) (acc:=acc) (s:=[c]) rfl rfl (by simp only[List.length_singleton];omega)) ?_
      rw[wi]
      exact more c r (i+1) [] h2 (by omega) (by omega) (by omega) hv
theorem uz(L:Laid w0.w){s:Ln}(hs:s.length≤8388608)(hR:R (Df (tc s)) σ):A1 (cx w0) H4.id [.pv (.str s)] σ R:=by
 refine A1.alone L rfl (fun w1 L1=>?_) (Pi _) hR
 refine H4.calls ?_
 rw[H4.b0_eq]
 refine Z7 (F0 ?_)
 rw[E3]
 refine A7 (fun g=>?_) (fun g=>?_)
 ·have h1:[34] <+: s:=List.isPrefixOf_iff_prefix.1 g
  obtain ⟨r,rfl⟩:=h1
  refine H4.n24_weak (text':=[34]++r) (b':=.arr 0 0 0 0) (i':=1) (τ:=[.arr 1 [] false]) (M5.nil (t:=6) (es:=1) rfl rfl) ?_
  simp only[List.length_append,List.length_singleton] at hs
  exact Rx L1 ([34]++r) (by simp only[List.length_append,List.length_singleton];omega) _ (r.length+1) r 1 [] rfl (by simp) (by omega) (by simp only[List.length_nil];omega) rfl
 ·have fin:∀n:Int,n=(ae s:Int)→H4.n14 (H4.X w1 0) w1 0 (fun r' _=>r'=Df (tc s)) [] s n:=by
   rintro n rfl
   have hle:=sn s
   refine H4.n14_in ?_
   rw[H4.b14_eq]
   refine A0 (cw hle) (K9 (A0 (K8 hle) (K9 ⟨A0 (K8 hle) rfl,C4 (Nat.zero_le _) ?_⟩)))
   have:tc s=some (s.take (ae s),s.drop (ae s)):=by
    unfold tc
    split
    ·rename_i r
     have:Lib.hasPrefix (34::r) [34]=true:=by simp[Lib.hasPrefix,List.isPrefixOf]
     rw[this] at g;cases g
    ·rfl
   rw[this];rfl
  have ha:=xf s
  refine rp (by decide) (by omega) (by decide) (L3 ?_)
  rw[A8]
  refine B6 (fun g2=>fin _ ?_) (fun g2=>fin _ ?_)
  ·rw[if_pos g2] at ha;exact ha
  ·rw[if_neg g2] at ha;exact ha
end
end Go.Sv
end
