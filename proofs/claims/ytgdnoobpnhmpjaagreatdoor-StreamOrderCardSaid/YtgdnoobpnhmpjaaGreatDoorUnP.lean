/- What the code of Go functions comes to over abstract stores, piece by piece; each equation by the kernel. Printed by a program of this session. What the code of reading answers: lines, names in quotes, numbers, a hunk's first line. -/
import Derived.Test.YtgdnoobpnhmpjaaGreatDoorSvT
import Derived.Test.YtgdnoobpnhmpjaaGreatDoorSmG
import Derived.Test.YtgdnoobpnhmpjaaGreatDoorSmI
import Derived.KernelRfl
import Derived.Test.YtgdnoobpnhmpjaaGreatDoorSvBk
import Derived.Test.YtgdnoobpnhmpjaaGreatDoorHk
set_option linter.unusedVariables false
set_option maxRecDepth 100000
set_option linter.unusedSimpArgs false
section
namespace Go.Sv
attribute [local irreducible] A5 V7 xr
open Go Go.Proofs
namespace R4
def lvs:List (List Nat):=[[0],[0],[0],[0],[0],[0,4],[0,4],[0,4],[0,4],[0,4],[0,4,6],[0,4],[],[0,4],[0,4],[0,4],[0,4],[0,4,13],[4],[4],[2,3],[0,4],[0,4],[],[],[2,3]]
def lv:Nat→List Nat:=J8 lvs
noncomputable def code:Code:=F0 Tryz.f107
noncomputable def fe:FE:=⟨Tryz.f107,code,lv⟩
theorem ok(w0:B4):FOK (cx w0) R4.id fe:=⟨Tryz.func107,by kernel_rfl,by kernel_rfl⟩
variable {Z:XT}{w0:B4}{n:Nat}{R:RT}{σ τ:A1}{l_ i l_' i':Int}
end R4
namespace G8
def lvs:List (List Nat):=[[0],[0],[0],[0],[0],[0,13],[],[],[2,3],[0],[0],[0],[0,4],[0,4],[0,4],[0,4,14],[0,4,14],[0,4,14],[0,4,14],[0,4,14,15],[0,4,14,15],[0,4,14],[4],[0,4,14],[0,4,14],[0,4,14],[0,4,14],[0,4,5,14],[0,4,5,14],[0,4,5,14],[0,4,5,14,26],[],[],[2,3],[0,4,5,14],[0,4,5,14],[0,4,14],[4],[4],[2,3]]
def lv:Nat→List Nat:=J8 lvs
noncomputable def code:Code:=F0 Tryz.f108
noncomputable def fe:FE:=⟨Tryz.f108,code,lv⟩
def A7:List Nat:=[5,17,30,37]
abbrev X(w0:B4)(n:Nat):XT:=xr (cx w0) 38 lv n
theorem ok(w0:B4):FOK (cx w0) G8.id fe:=⟨Tryz.func108,by kernel_rfl,by kernel_rfl⟩
section
variable (Z:XT)(w0:B4)(n:Nat)(R:RT)(σ:A1)(s:List UInt8)(t13:Bool)(n_ i t14:Int)(t26:Bool)
def q3:QT:=F2 (fun env σ=>A5 (cx w0) 38 lv n A7 Z (cAt code 10) 10 (prune (lv 10) env) σ (B9 (cx w0) Tryz.f108 n R)) (B9 (cx w0) Tryz.f108 n R)
def q13:QT:=F2 (fun env σ=>Z (cAt code 37) 37 (prune (lv 37) env) σ (B9 (cx w0) Tryz.f108 n R)) (B9 (cx w0) Tryz.f108 n R)
def q16:QT:=I3 0 (q13 Z w0 n R)
def q17:QT:=F2 (fun env σ=>Z (cAt code 16) 16 (prune (lv 16) env) σ (q16 Z w0 n R)) (q16 Z w0 n R)
def q24:QT:=F2 (fun env σ=>A5 (cx w0) 38 lv n A7 Z (cAt code 36) 36 (prune (lv 36) env) σ (q17 Z w0 n R)) (q17 Z w0 n R)
def q25:QT:=I3 1 (q24 Z w0 n R)
def q28:QT:=F2 (fun env σ=>A5 (cx w0) 38 lv n A7 Z (cAt code 35) 35 (prune (lv 35) env) σ (q25 Z w0 n R)) (q25 Z w0 n R)
def n5:Prop:=
 Z (cAt code 5) 5 [(0,(.pv (.str s))),(13,(.pv (.bool t13)))] σ (q3 Z w0 n R)
def b5:Prop:=
 A5 (cx w0) 38 lv n A7 Z (cAt code 5) 5 [(0,(.pv (.str s))),(13,(.pv (.bool t13)))] σ (q3 Z w0 n R)
def n16:Prop:=
 Z (cAt code 16) 16 [(0,(.pv (.str s))),(4,(.pv (.int .i64 n_))),(14,(.pv (.int .i64 t14)))] σ (q16 Z w0 n R)
def b17:Prop:=
 A5 (cx w0) 38 lv n A7 Z (cAt code 17) 17 [(0,(.pv (.str s))),(4,(.pv (.int .i64 n_))),(14,(.pv (.int .i64 t14)))] σ (q17 Z w0 n R)
def n30:Prop:=
 Z (cAt code 30) 30 [(0,(.pv (.str s))),(4,(.pv (.int .i64 n_))),(5,(.pv (.int .i64 i))),(14,(.pv (.int .i64 t14))),(26,(.pv (.bool t26)))] σ (q28 Z w0 n R)
def b30:Prop:=
 A5 (cx w0) 38 lv n A7 Z (cAt code 30) 30 [(0,(.pv (.str s))),(4,(.pv (.int .i64 n_))),(5,(.pv (.int .i64 i))),(14,(.pv (.int .i64 t14))),(26,(.pv (.bool t26)))] σ (q28 Z w0 n R)
def n37:Prop:=
 Z (cAt code 37) 37 [(4,(.pv (.int .i64 n_)))] σ (B9 (cx w0) Tryz.f108 n R)
def b37:Prop:=
 A5 (cx w0) 38 lv n A7 Z (cAt code 37) 37 [(4,(.pv (.int .i64 n_)))] σ (B9 (cx w0) Tryz.f108 n R)
def b0:Prop:=
 A5 (cx w0) 38 lv n A7 Z code 0 (H3 0 [(.pv (.str s))]) σ (B9 (cx w0) Tryz.f108 n R)
end
variable {Z:XT}{w0:B4}{n:Nat}{R:RT}{σ τ:A1}{s s':List UInt8}{t13 t26:Bool}{n_ t14 i n_' t14':Int}
theorem b5_eq:b5 Z w0 n R σ s t13=(
 B1 t13 (D9 (cx w0) n (.tup [(.pv (.int .u8 0)),(.pv (.bool false))]) σ R) (n16 Z w0 n R σ s 0 0)):=by kernel_rfl
theorem n5_in(h:b5 (X w0 n) w0 n R σ s t13):n5 (X w0 n) w0 n R σ s t13:=E1 (S:=A7) (by kernel_rfl) @h
theorem n16_in(h:b17 (X w0 n) w0 n R σ s n_ t14):n16 (X w0 n) w0 n R σ s n_ t14:=J9 (I4 w0) (S:=A7) (by kernel_rfl:cAt code 16 = .loop (cAt code 17)) @h
theorem b17_eq:b17 Z w0 n R σ s n_ t14=(
 B1 (decide ((t14:Int)<3)) (opt (L7 B3 ti9.td (.pv (.str s)) t14) fun t19=>isI .u8 t19 fun t19_1=>B1 (decide ((t19_1:Int)<48)) (n30 Z w0 n R σ s n_ t14 t14 true) (opt (L7 B3 ti9.td (.pv (.str s)) t14) fun t24=>isI .u8 t24 fun t24_1=>n30 Z w0 n R σ s n_ t14 t14 (decide ((t24_1:Int)>55)))) (n37 Z w0 n R σ n_)):=by kernel_rfl
theorem b30_eq:b30 Z w0 n R σ s n_ i t14 t26=(
 B1 t26 (D9 (cx w0) n (.tup [(.pv (.int .u8 0)),(.pv (.bool false))]) σ R) (opt (L7 B3 ti9.td (.pv (.str s)) i) fun t31=>isI .u8 t31 fun t31_1=>n16 Z w0 n R σ s (IntKind.wrap .i64 ((IntKind.wrap .i64 (n_*8))+(IntKind.wrap .i64 (IntKind.wrap .u8 (t31_1-48))))) (IntKind.wrap .i64 (t14+1)))):=by kernel_rfl
theorem n30_in(h:b30 (X w0 n) w0 n R σ s n_ i t14 t26):n30 (X w0 n) w0 n R σ s n_ i t14 t26:=E1 (S:=A7) (by kernel_rfl) @h
theorem b37_eq:b37 Z w0 n R σ n_=(
 D9 (cx w0) n (.tup [(.pv (.int .u8 (IntKind.wrap .u8 n_))),(.pv (.bool true))]) σ R):=by kernel_rfl
theorem n37_in(h:b37 (X w0 n) w0 n R σ n_):n37 (X w0 n) w0 n R σ n_:=E1 (S:=A7) (by kernel_rfl) @h
theorem b0_eq:b0 Z w0 n R σ s=(
 B1 (decide (((List.length (s:List UInt8):Int):Int)<3)) (n5 Z w0 n R σ s true) (opt (L7 B3 ti9.td (.pv (.str s)) 0) fun t11=>isI .u8 t11 fun t11_1=>n5 Z w0 n R σ s (decide ((t11_1:Int)>51)))):=by kernel_rfl
theorem calls(h:b0 (X w0 (List.length σ)) w0 (List.length σ) R σ s):A2 (cx w0) G8.id [(.pv (.str s))] σ R:=
 D0 (I4 w0) (x:=fe) (S:=A7) (G8.ok w0) (by kernel_rfl) @h
attribute [irreducible] n5 b5 n16 b17 n30 b30 n37 b37 b0
end G8
namespace G3
def lvs:List (List Nat):=[[0],[0],[0],[0],[0],[0,16],[0],[0],[0,5],[0,5],[0,5],[0,5,20],[0],[0,5],[0,5],[0,5],[2,3,4],[0],[0],[0],[0,6],[0,6],[0,6],[0,6,7],[0,6,7],[0,6,7],[0,6,7],[0,6,7],[0,6,7,32],[0,6,7],[],[0,6,7],[0,6,7],[0,6,7],[0,6,7],[0,6,7,8],[0,6,7,8],[0,6,7,8],[0,6,7,8,36],[0,6,7],[0,6,7],[2,3,4],[0,6,7,8],[0,6,7,8],[0,6,7,8,45],[],[],[2,3,4],[0,6,7,8],[0,6,7,8],[0,6,7,8,49],[0,6,7,8],[0,6,7,8],[0,6,7],[0,6,7],[0,6,7],[0,6,7],[0,6,7],[0,6,7],[0,6,7,9],[0,6,7,9],[0,6,7,9],[0,6,7,9,63],[],[0,6,7,9],[0,6,7,9],[0,6,7,9],[0,6,7,9],[0,6,7,9,10,11],[0,6,7,9,10,11],[0,6,7,9,10,70],[0,6,7,10],[0,6,7,10],[0,6,7],[0,6,7],[0,6,7],[0,6,7,9],[0,6,7,9],[0,6,7,9],[0,6,7,12,13],[0,6,7,12,13],[0,6,7,12,13],[0,6,7,12,83],[],[],[2,3,4],[0,6,7,12],[0,6,7,12],[0,6,7,12],[0,6,7],[],[],[2,3,4]]
def lv:Nat→List Nat:=J8 lvs
noncomputable def code:Code:=F0 Tryz.f69
noncomputable def fe:FE:=⟨Tryz.f69,code,lv⟩
def A7:List Nat:=[14,25,90]
abbrev X(w0:B4)(n:Nat):XT:=xr (cx w0) 92 lv n
theorem ok(w0:B4):FOK (cx w0) G3.id fe:=⟨Tryz.func69,by kernel_rfl,by kernel_rfl⟩
section
variable (Z:XT)(w0:B4)(n:Nat)(R:RT)(σ:A1)(text:List UInt8)(n_:Int)(b:AV)(i:Int)
def q3:QT:=F2 (fun env σ=>A5 (cx w0) 92 lv n A7 Z (cAt code 18) 18 (prune (lv 18) env) σ (B9 (cx w0) Tryz.f69 n R)) (B9 (cx w0) Tryz.f69 n R)
def q21:QT:=F2 (fun env σ=>Z (cAt code 90) 90 (prune (lv 90) env) σ (B9 (cx w0) Tryz.f69 n R)) (B9 (cx w0) Tryz.f69 n R)
def q24:QT:=I3 0 (q21 Z w0 n R)
def q25:QT:=F2 (fun env σ=>Z (cAt code 24) 24 (prune (lv 24) env) σ (q24 Z w0 n R)) (q24 Z w0 n R)
def n14:Prop:=
 Z (cAt code 14) 14 [(0,(.pv (.str text))),(5,(.pv (.int .i64 n_)))] σ (q3 Z w0 n R)
def b14:Prop:=
 A5 (cx w0) 92 lv n A7 Z (cAt code 14) 14 [(0,(.pv (.str text))),(5,(.pv (.int .i64 n_)))] σ (q3 Z w0 n R)
def n24:Prop:=
 Z (cAt code 24) 24 [(0,(.pv (.str text))),(6,b),(7,(.pv (.int .i64 i)))] σ (q24 Z w0 n R)
def b25:Prop:=
 A5 (cx w0) 92 lv n A7 Z (cAt code 25) 25 [(0,(.pv (.str text))),(6,b),(7,(.pv (.int .i64 i)))] σ (q25 Z w0 n R)
def n90:Prop:=
 Z (cAt code 90) 90 [] σ (B9 (cx w0) Tryz.f69 n R)
def b90:Prop:=
 A5 (cx w0) 92 lv n A7 Z (cAt code 90) 90 [] σ (B9 (cx w0) Tryz.f69 n R)
def b0:Prop:=
 A5 (cx w0) 92 lv n A7 Z code 0 (H3 0 [(.pv (.str text))]) σ (B9 (cx w0) Tryz.f69 n R)
end
variable {Z:XT}{w0:B4}{n:Nat}{R:RT}{σ τ:A1}{text text':List UInt8}{n_ i i':Int}{b b':AV}
theorem b14_eq:b14 Z w0 n R σ text n_=(
 opt (G7 σ B3 ti9.td (.pv (.str text)) none (some (.pv (.int .i64 n_)))) fun t25=>isS t25 fun t25_1=>opt (G7 σ B3 ti9.td (.pv (.str text)) (some (.pv (.int .i64 n_))) none) fun t28=>isS t28 fun t28_1=>((opt (G7 σ B3 ti9.td (.pv (.str text)) (some (.pv (.int .i64 n_))) none) fun t28_2=>((t28_2:AV)=(.pv (.str t28_1))))∧(D9 (cx w0) n (.tup [(.pv (.str t25_1)),(.pv (.str t28_1)),(.pv (.raw .nilIface))]) σ R))):=by kernel_rfl
theorem n14_in(h:b14 (X w0 n) w0 n R σ text n_):n14 (X w0 n) w0 n R σ text n_:=E1 (S:=A7) (by kernel_rfl) @h
theorem n24_in(h:b25 (X w0 n) w0 n R σ text b i):n24 (X w0 n) w0 n R σ text b i:=J9 (I4 w0) (S:=A7) (by kernel_rfl:cAt code 24 = .loop (cAt code 25)) @h
theorem n24_weak(e:N2 (cx w0) n [(0,(.pv (.str text))),(6,b),(7,(.pv (.int .i64 i)))] σ [(0,(.pv (.str text'))),(6,b'),(7,(.pv (.int .i64 i')))] τ)(h:n24 (X w0 n) w0 n R τ text' b' i'):n24 (X w0 n) w0 n R σ text b i:=U3 (L:=lv) (k:=24) (by kernel_rfl:cAt code 24 = .loop (cAt code 25)) @e @h
theorem b25_eq:b25 Z w0 n R σ text b i=(
 B1 (decide ((i:Int)<(List.length (text:List UInt8):Int))) (opt (L7 B3 ti9.td (.pv (.str text)) i) fun t35=>isI .u8 t35 fun t35_1=>B1 ((t35_1:Int)==34) (opt2 (W4 σ B3 ti95.td ti9.td b) fun t40 σ'=>isS t40 fun t40_1=>opt (G7 σ B3 ti9.td (.pv (.str text)) (some (.pv (.int .i64 (IntKind.wrap .i64 (i+1))))) none) fun t44=>isS t44 fun t44_1=>((opt (G7 σ B3 ti9.td (.pv (.str text)) (some (.pv (.int .i64 (IntKind.wrap .i64 (i+1))))) none) fun t44_2=>((t44_2:AV)=(.pv (.str t44_1))))∧(D9 (cx w0) n (.tup [(.pv (.str t40_1)),(.pv (.str t44_1)),(.pv (.raw .nilIface))]) σ R))) (B1 ((t35_1:Int)==10) (opt (G4 61 (.pv (.int .i64 20))) fun t48=>D9 (cx w0) n (.tup [(.pv (.str [])),(.pv (.str [])),t48]) σ R) (B1 ((t35_1:Int) != 92) (opt2 (H9 σ ti5 false 1 [(0,(.pv (.int .u8 t35_1)))]) fun t54 σ'=>opt2 (L0 σ' ti5 b t54) fun t55 σ'_1=>n24 Z w0 n R σ'_1 text t55 (IntKind.wrap .i64 (i+1))) (opt (G7 σ B3 ti9.td (.pv (.str text)) (some (.pv (.int .i64 (IntKind.wrap .i64 (i+1))))) none) fun t61=>isS t61 fun t61_1=>B1 ((t61_1:List UInt8) == []) (n90 Z w0 n R σ) (opt (L7 B3 ti9.td (.pv (.str t61_1)) 0) fun t66=>isI .u8 t66 fun t66_1=>A2 (cx w0) R4.id [(.pv (.int .u8 t66_1))] σ fun r σ'=>isTup r fun vs=>opt ((vs)[0]?) fun t68=>isI .u8 t68 fun t68_1=>isTup r fun vs_1=>opt ((vs_1)[1]?) fun t69=>isB t69 fun t69_1=>B1 t69_1 (opt2 (H9 σ' ti5 false 1 [(0,(.pv (.int .u8 t68_1)))]) fun t73 σ'_1=>opt2 (L0 σ'_1 ti5 b t73) fun t74 σ'_2=>n24 Z w0 n R σ'_2 text t74 (IntKind.wrap .i64 (i+2))) (A2 (cx w0) G8.id [(.pv (.str t61_1))] σ' fun r_1 σ'_1=>isTup r_1 fun vs_2=>opt ((vs_2)[0]?) fun t80=>isI .u8 t80 fun t80_1=>isTup r_1 fun vs_3=>opt ((vs_3)[1]?) fun t81=>isB t81 fun t81_1=>B1 (!t81_1) (opt (G4 61 (.pv (.int .i64 20))) fun t84=>D9 (cx w0) n (.tup [(.pv (.str [])),(.pv (.str [])),t84]) σ'_1 R) (opt2 (H9 σ'_1 ti5 false 1 [(0,(.pv (.int .u8 t80_1)))]) fun t87 σ'_2=>opt2 (L0 σ'_2 ti5 b t87) fun t88 σ'_3=>n24 Z w0 n R σ'_3 text t88 (IntKind.wrap .i64 (i+4))))))))) (n90 Z w0 n R σ)):=by kernel_rfl
theorem b90_eq:b90 Z w0 n R σ=(
 opt (G4 61 (.pv (.int .i64 20))) fun t91=>D9 (cx w0) n (.tup [(.pv (.str [])),(.pv (.str [])),t91]) σ R):=by kernel_rfl
theorem n90_in(h:b90 (X w0 n) w0 n R σ):n90 (X w0 n) w0 n R σ:=E1 (S:=A7) (by kernel_rfl) @h
theorem b0_eq:b0 Z w0 n R σ text=(
 A2 (cx w0) strings_HasPrefix.id [(.pv (.str text)),(.pv (.str [34]))] σ fun r σ'=>isB r fun t15=>B1 (!t15) (A2 (cx w0) strings_IndexAny.id [(.pv (.str text)),(.pv (.str [9,10]))] σ' fun r_1 σ'_1=>isI .i64 r_1 fun t18=>B1 (decide ((t18:Int)<0)) (n14 Z w0 n R σ'_1 text (List.length (text:List UInt8):Int)) (n14 Z w0 n R σ'_1 text t18)) (n24 Z w0 n R σ' text .nilsl 1)):=by kernel_rfl
theorem calls(h:b0 (X w0 (List.length σ)) w0 (List.length σ) R σ text):A2 (cx w0) G3.id [(.pv (.str text))] σ R:=
 D0 (I4 w0) (x:=fe) (S:=A7) (G3.ok w0) (by kernel_rfl) @h
attribute [irreducible] n14 b14 n24 b25 n90 b90 b0
end G3
namespace E7
def lvs:List (List Nat):=[[0],[0],[0],[0],[0,5,6],[0,5,6],[0,5,6],[0,5,6],[0,5,6],[0,5,6],[0,5,6,22],[0,5,6],[0,5,6],[0,5,6],[0,5,6],[0,5,6],[0,5,6],[0,5,6],[0,5,6],[2,3,4]]
def lv:Nat→List Nat:=J8 lvs
noncomputable def code:Code:=F0 Tryz.f185
noncomputable def fe:FE:=⟨Tryz.f185,code,lv⟩
def A7:List Nat:=[7,10,17,19]
abbrev X(w0:B4)(n:Nat):XT:=xr (cx w0) 44 lv n
theorem ok(w0:B4):FOK (cx w0) E7.id fe:=⟨Tryz.func185,by kernel_rfl,by kernel_rfl⟩
section
variable (Z:XT)(w0:B4)(n:Nat)(R:RT)(σ:A1)(s:List UInt8)(n_ i:Int)(t22:Bool)(t2:Int)(t3:List UInt8)(t4:Bool)
def q5:QT:=F2 (fun env σ=>Z (cAt code 17) 17 (prune (lv 17) env) σ (B9 (cx w0) Tryz.f185 n R)) (B9 (cx w0) Tryz.f185 n R)
def q6:QT:=I3 0 (q5 Z w0 n R)
def q7:QT:=F2 (fun env σ=>Z (cAt code 6) 6 (prune (lv 6) env) σ (q6 Z w0 n R)) (q6 Z w0 n R)
def q8:QT:=F2 (fun env σ=>A5 (cx w0) 44 lv n A7 Z (cAt code 13) 13 (prune (lv 13) env) σ (q7 Z w0 n R)) (q7 Z w0 n R)
def n6:Prop:=
 Z (cAt code 6) 6 [(0,(.pv (.str s))),(5,(.pv (.int .i64 n_))),(6,(.pv (.int .i64 i)))] σ (q6 Z w0 n R)
def b7:Prop:=
 A5 (cx w0) 44 lv n A7 Z (cAt code 7) 7 [(0,(.pv (.str s))),(5,(.pv (.int .i64 n_))),(6,(.pv (.int .i64 i)))] σ (q7 Z w0 n R)
def n10:Prop:=
 Z (cAt code 10) 10 [(0,(.pv (.str s))),(5,(.pv (.int .i64 n_))),(6,(.pv (.int .i64 i))),(22,(.pv (.bool t22)))] σ (q8 Z w0 n R)
def b10:Prop:=
 A5 (cx w0) 44 lv n A7 Z (cAt code 10) 10 [(0,(.pv (.str s))),(5,(.pv (.int .i64 n_))),(6,(.pv (.int .i64 i))),(22,(.pv (.bool t22)))] σ (q8 Z w0 n R)
def n17:Prop:=
 Z (cAt code 17) 17 [(0,(.pv (.str s))),(5,(.pv (.int .i64 n_))),(6,(.pv (.int .i64 i)))] σ (B9 (cx w0) Tryz.f185 n R)
def b17:Prop:=
 A5 (cx w0) 44 lv n A7 Z (cAt code 17) 17 [(0,(.pv (.str s))),(5,(.pv (.int .i64 n_))),(6,(.pv (.int .i64 i)))] σ (B9 (cx w0) Tryz.f185 n R)
def n19:Prop:=
 Z (cAt code 19) 19 [(2,(.pv (.int .i64 t2))),(3,(.pv (.str t3))),(4,(.pv (.bool t4)))] σ (B9 (cx w0) Tryz.f185 n R)
def b19:Prop:=
 A5 (cx w0) 44 lv n A7 Z (cAt code 19) 19 [(2,(.pv (.int .i64 t2))),(3,(.pv (.str t3))),(4,(.pv (.bool t4)))] σ (B9 (cx w0) Tryz.f185 n R)
def b0:Prop:=
 A5 (cx w0) 44 lv n A7 Z code 0 (H3 0 [(.pv (.str s))]) σ (B9 (cx w0) Tryz.f185 n R)
end
variable {Z:XT}{w0:B4}{n:Nat}{R:RT}{σ τ:A1}{s t3 s':List UInt8}{n_ i t2 n_' i':Int}{t22 t4:Bool}
theorem n6_in(h:b7 (X w0 n) w0 n R σ s n_ i):n6 (X w0 n) w0 n R σ s n_ i:=J9 (I4 w0) (S:=A7) (by kernel_rfl:cAt code 6 = .loop (cAt code 7)) @h
theorem b7_eq:b7 Z w0 n R σ s n_ i=(
 B1 (decide ((i:Int)<(List.length (s:List UInt8):Int))) (opt (L7 B3 ti9.td (.pv (.str s)) i) fun t14=>isI .u8 t14 fun t14_1=>B1 (decide ((t14_1:Int)≥48)) (opt (L7 B3 ti9.td (.pv (.str s)) i) fun t20=>isI .u8 t20 fun t20_1=>n10 Z w0 n R σ s n_ i (decide ((t20_1:Int)≤57))) (n10 Z w0 n R σ s n_ i false)) (n10 Z w0 n R σ s n_ i false)):=by kernel_rfl
theorem b10_eq:b10 Z w0 n R σ s n_ i t22=(
 B1 t22 (opt (L7 B3 ti9.td (.pv (.str s)) i) fun t27=>isI .u8 t27 fun t27_1=>n6 Z w0 n R σ s (if (2147483648:Int)<(IntKind.wrap .i64 ((IntKind.wrap .i64 (n_*10))+(IntKind.wrap .i64 (IntKind.wrap .u8 (t27_1-48))))) then 2147483648 else (IntKind.wrap .i64 ((IntKind.wrap .i64 (n_*10))+(IntKind.wrap .i64 (IntKind.wrap .u8 (t27_1-48)))))) (IntKind.wrap .i64 (i+1))) (n17 Z w0 n R σ s n_ i)):=by kernel_rfl
theorem n10_in(h:b10 (X w0 n) w0 n R σ s n_ i t22):n10 (X w0 n) w0 n R σ s n_ i t22:=E1 (S:=A7) (by kernel_rfl) @h
theorem b17_eq:b17 Z w0 n R σ s n_ i=(
 opt (G7 σ B3 ti9.td (.pv (.str s)) (some (.pv (.int .i64 i))) none) fun t37=>isS t37 fun t37_1=>B1 (decide ((i:Int)>0)) (((opt (G7 σ B3 ti9.td (.pv (.str s)) (some (.pv (.int .i64 i))) none) fun t37_2=>((t37_2:AV)=(.pv (.str t37_1))))∧(n19 Z w0 n R σ n_ t37_1 (decide ((n_:Int)≤2147483647))))) (((opt (G7 σ B3 ti9.td (.pv (.str s)) (some (.pv (.int .i64 i))) none) fun t37_2=>((t37_2:AV)=(.pv (.str t37_1))))∧(n19 Z w0 n R σ n_ t37_1 false)))):=by kernel_rfl
theorem n17_in(h:b17 (X w0 n) w0 n R σ s n_ i):n17 (X w0 n) w0 n R σ s n_ i:=E1 (S:=A7) (by kernel_rfl) @h
theorem b19_eq:b19 Z w0 n R σ t2 t3 t4=(
 D9 (cx w0) n (.tup [(.pv (.int .i64 t2)),(.pv (.str t3)),(.pv (.bool t4))]) σ R):=by kernel_rfl
theorem n19_in(h:b19 (X w0 n) w0 n R σ t2 t3 t4):n19 (X w0 n) w0 n R σ t2 t3 t4:=E1 (S:=A7) (by kernel_rfl) @h
theorem b0_eq:b0 Z w0 n R σ s=(
 n6 Z w0 n R σ s 0 0):=by kernel_rfl
theorem calls(h:b0 (X w0 (List.length σ)) w0 (List.length σ) R σ s):A2 (cx w0) E7.id [(.pv (.str s))] σ R:=
 D0 (I4 w0) (x:=fe) (S:=A7) (E7.ok w0) (by kernel_rfl) @h
attribute [irreducible] n6 b7 n10 b10 n17 b17 n19 b19 b0
end E7
namespace J3
def lvs:List (List Nat):=[[0],[0],[0],[0],[0,6,7],[0,6,7],[0,6,7],[0,6,7,21],[0,6,7],[0,6,7],[2,3,4,5],[0,6],[0,6],[0,6],[0,6,7,8],[0,6,7,8],[2,3,4,5]]
def lv:Nat→List Nat:=J8 lvs
noncomputable def code:Code:=F0 Tryz.f164
noncomputable def fe:FE:=⟨Tryz.f164,code,lv⟩
def A7:List Nat:=[7]
abbrev X(w0:B4)(n:Nat):XT:=xr (cx w0) 36 lv n
theorem ok(w0:B4):FOK (cx w0) J3.id fe:=⟨Tryz.func164,by kernel_rfl,by kernel_rfl⟩
section
variable (Z:XT)(w0:B4)(n:Nat)(R:RT)(σ:A1)(s:List UInt8)(a:Int)(ok t21:Bool)
def q5:QT:=F2 (fun env σ=>A5 (cx w0) 36 lv n A7 Z (cAt code 12) 12 (prune (lv 12) env) σ (B9 (cx w0) Tryz.f164 n R)) (B9 (cx w0) Tryz.f164 n R)
def n7:Prop:=
 Z (cAt code 7) 7 [(0,(.pv (.str s))),(6,(.pv (.int .i64 a))),(7,(.pv (.bool ok))),(21,(.pv (.bool t21)))] σ (q5 Z w0 n R)
def b7:Prop:=
 A5 (cx w0) 36 lv n A7 Z (cAt code 7) 7 [(0,(.pv (.str s))),(6,(.pv (.int .i64 a))),(7,(.pv (.bool ok))),(21,(.pv (.bool t21)))] σ (q5 Z w0 n R)
def b0:Prop:=
 A5 (cx w0) 36 lv n A7 Z code 0 (H3 0 [(.pv (.str s))]) σ (B9 (cx w0) Tryz.f164 n R)
end
variable {Z:XT}{w0:B4}{n:Nat}{R:RT}{σ τ:A1}{s:List UInt8}{a:Int}{ok t21:Bool}
theorem b7_eq:b7 Z w0 n R σ s a ok t21=(
 B1 t21 (D9 (cx w0) n (.tup [(.pv (.int .i64 a)),(.pv (.int .i64 1)),(.pv (.str s)),(.pv (.bool ok))]) σ R) (opt (G7 σ B3 ti9.td (.pv (.str s)) (some (.pv (.int .i64 1))) none) fun t27=>isS t27 fun t27_1=>A2 (cx w0) E7.id [(.pv (.str t27_1))] σ fun r σ'=>isTup r fun vs=>opt ((vs)[0]?) fun t29=>isI .i64 t29 fun t29_1=>isTup r fun vs_1=>opt ((vs_1)[1]?) fun t30=>isS t30 fun t30_1=>isTup r fun vs_2=>opt ((vs_2)[2]?) fun t31=>isB t31 fun t31_1=>D9 (cx w0) n (.tup [(.pv (.int .i64 a)),(.pv (.int .i64 t29_1)),(.pv (.str t30_1)),(.pv (.bool t31_1))]) σ' R)):=by kernel_rfl
theorem n7_in(h:b7 (X w0 n) w0 n R σ s a ok t21):n7 (X w0 n) w0 n R σ s a ok t21:=E1 (S:=A7) (by kernel_rfl) @h
theorem b0_eq:b0 Z w0 n R σ s=(
 A2 (cx w0) E7.id [(.pv (.str s))] σ fun r σ'=>isTup r fun vs=>opt ((vs)[0]?) fun t12=>isI .i64 t12 fun t12_1=>isTup r fun vs_1=>opt ((vs_1)[1]?) fun t13=>isS t13 fun t13_1=>isTup r fun vs_2=>opt ((vs_2)[2]?) fun t14=>isB t14 fun t14_1=>B1 (!t14_1) (n7 Z w0 n R σ' t13_1 t12_1 t14_1 true) (A2 (cx w0) strings_HasPrefix.id [(.pv (.str t13_1)),(.pv (.str [44]))] σ' fun r_1 σ'_1=>isB r_1 fun t19=>n7 Z w0 n R σ'_1 t13_1 t12_1 t14_1 (!t19))):=by kernel_rfl
theorem calls(h:b0 (X w0 (List.length σ)) w0 (List.length σ) R σ s):A2 (cx w0) J3.id [(.pv (.str s))] σ R:=
 D0 (I4 w0) (x:=fe) (S:=A7) (J3.ok w0) (by kernel_rfl) @h
attribute [irreducible] n7 b7 b0
end J3
namespace F8
def lvs:List (List Nat):=[[0],[0],[0,2],[0,2],[0,2,4],[0,2,4],[0,2,4,5],[0,2,4,5],[0,2,4,5],[0,2,4,5,11],[0,2,4],[0,2,4,5],[0,2,4,5],[0,2,4,5],[0,2,4,5],[0,2,4,5,21],[0,2,4],[0,2,4,5],[0,2,4,5],[0,2,4,5],[0,2,4,5],[0,2,4,5,27],[0,2,4],[0,2,4,5],[0,2,4,5],[0,2,4,5],[0,2,4,5],[0,2,4,5,37],[0,2,4],[0,2,4,5],[0,2,4,5],[0,2,4,5],[0,2,4,5],[0,2,4,53],[2,4],[2,4],[2,3],[0,2,4],[0,2,4],[0,2,4],[2,4],[2,4],[2,3]]
def lv:Nat→List Nat:=J8 lvs
noncomputable def code:Code:=F0 Tryz.f134
noncomputable def fe:FE:=⟨Tryz.f134,code,lv⟩
def A7:List Nat:=[12,18,24,30,33]
abbrev X(w0:B4)(n:Nat):XT:=xr (cx w0) 59 lv n
theorem ok(w0:B4):FOK (cx w0) F8.id fe:=⟨Tryz.func134,by kernel_rfl,by kernel_rfl⟩
section
variable (Z:XT)(w0:B4)(n:Nat)(R:RT)(σ:A1)(s:List UInt8)(t2 h_:AV)(ok t53:Bool)
def q31:QT:=F2 (fun env σ=>A5 (cx w0) 59 lv n A7 Z (cAt code 38) 38 (prune (lv 38) env) σ (B9 (cx w0) Tryz.f134 n R)) (B9 (cx w0) Tryz.f134 n R)
def n12:Prop:=
 Z (cAt code 12) 12 [(0,(.pv (.str s))),(2,t2),(4,h_),(5,(.pv (.bool ok)))] σ (B9 (cx w0) Tryz.f134 n R)
def b12:Prop:=
 A5 (cx w0) 59 lv n A7 Z (cAt code 12) 12 [(0,(.pv (.str s))),(2,t2),(4,h_),(5,(.pv (.bool ok)))] σ (B9 (cx w0) Tryz.f134 n R)
def n18:Prop:=
 Z (cAt code 18) 18 [(0,(.pv (.str s))),(2,t2),(4,h_),(5,(.pv (.bool ok)))] σ (B9 (cx w0) Tryz.f134 n R)
def b18:Prop:=
 A5 (cx w0) 59 lv n A7 Z (cAt code 18) 18 [(0,(.pv (.str s))),(2,t2),(4,h_),(5,(.pv (.bool ok)))] σ (B9 (cx w0) Tryz.f134 n R)
def n24:Prop:=
 Z (cAt code 24) 24 [(0,(.pv (.str s))),(2,t2),(4,h_),(5,(.pv (.bool ok)))] σ (B9 (cx w0) Tryz.f134 n R)
def b24:Prop:=
 A5 (cx w0) 59 lv n A7 Z (cAt code 24) 24 [(0,(.pv (.str s))),(2,t2),(4,h_),(5,(.pv (.bool ok)))] σ (B9 (cx w0) Tryz.f134 n R)
def n30:Prop:=
 Z (cAt code 30) 30 [(0,(.pv (.str s))),(2,t2),(4,h_),(5,(.pv (.bool ok)))] σ (B9 (cx w0) Tryz.f134 n R)
def b30:Prop:=
 A5 (cx w0) 59 lv n A7 Z (cAt code 30) 30 [(0,(.pv (.str s))),(2,t2),(4,h_),(5,(.pv (.bool ok)))] σ (B9 (cx w0) Tryz.f134 n R)
def n33:Prop:=
 Z (cAt code 33) 33 [(0,(.pv (.str s))),(2,t2),(4,h_),(53,(.pv (.bool t53)))] σ (q31 Z w0 n R)
def b33:Prop:=
 A5 (cx w0) 59 lv n A7 Z (cAt code 33) 33 [(0,(.pv (.str s))),(2,t2),(4,h_),(53,(.pv (.bool t53)))] σ (q31 Z w0 n R)
def b0:Prop:=
 A5 (cx w0) 59 lv n A7 Z code 0 (H3 0 [(.pv (.str s))]) σ (B9 (cx w0) Tryz.f134 n R)
end
variable {Z:XT}{w0:B4}{n:Nat}{R:RT}{σ τ:A1}{s:List UInt8}{t2 h_:AV}{ok t53:Bool}
theorem b12_eq:b12 Z w0 n R σ s t2 h_ ok=(
 B1 ok (A2 (cx w0) E8.id [(.pv (.str s)),(.pv (.str [32,43]))] σ fun r σ'=>isTup r fun vs=>opt ((vs)[0]?) fun t25=>isS t25 fun t25_1=>isTup r fun vs_1=>opt ((vs_1)[1]?) fun t26=>isB t26 fun t26_1=>n18 Z w0 n R σ' t25_1 t2 h_ t26_1) (n18 Z w0 n R σ s t2 h_ ok)):=by kernel_rfl
theorem n12_in(h:b12 (X w0 n) w0 n R σ s t2 h_ ok):n12 (X w0 n) w0 n R σ s t2 h_ ok:=E1 (S:=A7) (by kernel_rfl) @h
theorem b18_eq:b18 Z w0 n R σ s t2 h_ ok=(
 B1 ok (A2 (cx w0) J3.id [(.pv (.str s))] σ fun r σ'=>isTup r fun vs=>opt ((vs)[0]?) fun t31=>isI .i64 t31 fun t31_1=>isTup r fun vs_1=>opt ((vs_1)[1]?) fun t32=>isI .i64 t32 fun t32_1=>isTup r fun vs_2=>opt ((vs_2)[2]?) fun t33=>isS t33 fun t33_1=>isTup r fun vs_3=>opt ((vs_3)[3]?) fun t34=>isB t34 fun t34_1=>opt (A3 B3 G1.td h_ 2) fun t35=>opt (C2 σ' ti3 t35 (.pv (.int .i64 t31_1))) fun σ'_1=>opt (A3 B3 G1.td h_ 3) fun t36=>opt (C2 σ'_1 ti3 t36 (.pv (.int .i64 t32_1))) fun σ'_2=>n24 Z w0 n R σ'_2 t33_1 t2 h_ t34_1) (n24 Z w0 n R σ s t2 h_ ok)):=by kernel_rfl
theorem n18_in(h:b18 (X w0 n) w0 n R σ s t2 h_ ok):n18 (X w0 n) w0 n R σ s t2 h_ ok:=E1 (S:=A7) (by kernel_rfl) @h
theorem b24_eq:b24 Z w0 n R σ s t2 h_ ok=(
 B1 ok (A2 (cx w0) E8.id [(.pv (.str s)),(.pv (.str [32,64,64]))] σ fun r σ'=>isTup r fun vs=>opt ((vs)[0]?) fun t41=>isS t41 fun t41_1=>isTup r fun vs_1=>opt ((vs_1)[1]?) fun t42=>isB t42 fun t42_1=>n30 Z w0 n R σ' t41_1 t2 h_ t42_1) (n30 Z w0 n R σ s t2 h_ ok)):=by kernel_rfl
theorem n24_in(h:b24 (X w0 n) w0 n R σ s t2 h_ ok):n24 (X w0 n) w0 n R σ s t2 h_ ok:=E1 (S:=A7) (by kernel_rfl) @h
theorem b30_eq:b30 Z w0 n R σ s t2 h_ ok=(
 B1 (!ok) (n33 Z w0 n R σ s t2 h_ true) (B1 (!((s:List UInt8) == [])) (opt (L7 B3 ti9.td (.pv (.str s)) 0) fun t50=>isI .u8 t50 fun t50_1=>n33 Z w0 n R σ s t2 h_ ((t50_1:Int) != 32)) (n33 Z w0 n R σ s t2 h_ false))):=by kernel_rfl
theorem n30_in(h:b30 (X w0 n) w0 n R σ s t2 h_ ok):n30 (X w0 n) w0 n R σ s t2 h_ ok:=E1 (S:=A7) (by kernel_rfl) @h
theorem b33_eq:b33 Z w0 n R σ s t2 h_ t53=(
 B1 t53 (opt (A6 σ G1 h_) fun t54=>opt (C2 σ G1 t2 t54) fun σ'=>opt (A6 σ' G1 t2) fun v=>D9 (cx w0) n (.tup [v,(.pv (.bool false))]) σ' R) (A2 (cx w0) strings_TrimPrefix.id [(.pv (.str s)),(.pv (.str [32]))] σ fun r σ'=>isS r fun t56=>opt (A3 B3 G1.td h_ 4) fun t57=>opt (C2 σ' ti9 t57 (.pv (.str t56))) fun σ'_1=>opt (A6 σ'_1 G1 h_) fun t58=>opt (C2 σ'_1 G1 t2 t58) fun σ'_2=>opt (A6 σ'_2 G1 t2) fun v=>D9 (cx w0) n (.tup [v,(.pv (.bool true))]) σ'_2 R)):=by kernel_rfl
theorem n33_in(h:b33 (X w0 n) w0 n R σ s t2 h_ t53):n33 (X w0 n) w0 n R σ s t2 h_ t53:=E1 (S:=A7) (by kernel_rfl) @h
theorem b0_eq:b0 Z w0 n R σ s=(
 A2 (cx w0) E8.id [(.pv (.str s)),(.pv (.str [64,64,32,45]))] ((σ ++ [.cells 46 (AV.ofValue G1.zero).cells]) ++ [.cells 46 (AV.ofValue G1.zero).cells]) fun r σ'=>isTup r fun vs=>opt ((vs)[0]?) fun t9=>isS t9 fun t9_1=>isTup r fun vs_1=>opt ((vs_1)[1]?) fun t10=>isB t10 fun t10_1=>B1 t10_1 (A2 (cx w0) J3.id [(.pv (.str t9_1))] σ' fun r_1 σ'_1=>isTup r_1 fun vs_2=>opt ((vs_2)[0]?) fun t15=>isI .i64 t15 fun t15_1=>isTup r_1 fun vs_3=>opt ((vs_3)[1]?) fun t16=>isI .i64 t16 fun t16_1=>isTup r_1 fun vs_4=>opt ((vs_4)[2]?) fun t17=>isS t17 fun t17_1=>isTup r_1 fun vs_5=>opt ((vs_5)[3]?) fun t18=>isB t18 fun t18_1=>opt (A3 B3 G1.td (.ptr (List.length (σ ++ [.cells 46 (AV.ofValue G1.zero).cells])) 0) 0) fun t19=>opt (C2 σ'_1 ti3 t19 (.pv (.int .i64 t15_1))) fun σ'_2=>opt (A3 B3 G1.td (.ptr (List.length (σ ++ [.cells 46 (AV.ofValue G1.zero).cells])) 0) 1) fun t20=>opt (C2 σ'_2 ti3 t20 (.pv (.int .i64 t16_1))) fun σ'_3=>n12 Z w0 n R σ'_3 t17_1 (.ptr (List.length σ) 0) (.ptr (List.length (σ ++ [.cells 46 (AV.ofValue G1.zero).cells])) 0) t18_1) (n12 Z w0 n R σ' t9_1 (.ptr (List.length σ) 0) (.ptr (List.length (σ ++ [.cells 46 (AV.ofValue G1.zero).cells])) 0) t10_1)):=by kernel_rfl
theorem calls(h:b0 (X w0 (List.length σ)) w0 (List.length σ) R σ s):A2 (cx w0) F8.id [(.pv (.str s))] σ R:=
 D0 (I4 w0) (x:=fe) (S:=A7) (F8.ok w0) (by kernel_rfl) @h
attribute [irreducible] n12 b12 n18 b18 n24 b24 n30 b30 n33 b33 b0
end F8
end Go.Sv
end
section
namespace Go.Sv.U
open Go Go.RowKit Go.Proofs
abbrev im(L:List Ln):PV:=.sl (L.map .str)
section
variable {w0:B4}{σ:A1}{R:AV→A1→Prop}
abbrev lnS(L:List Ln):A1:=[.arr 1 (L.map PV.str) false]
abbrev lnA(L:List Ln):AV:=.arr 0 L.length 0 L.length
theorem ln_seal(L:List Ln):bp 0 ([]++lnS L) (lnA L)=some (.pv (im L)):=by
 show (if (L.map PV.str).length=L.length∧0+L.length≤L.length then some (AV.pv (.sl (((L.map PV.str).drop 0).take L.length))) else none)=_
 rw[if_pos ⟨List.length_map _,by omega⟩]
 simp[List.take_of_length_le]
theorem Q5{s:Ln}{k:Nat}(h:k≤s.length):G7 σ B3 ti9.td (.pv (.str s)) none (some (.pv (.int .i64 (k:Int))))=some (.pv (.str (s.take k))):=by
 show (if (0:Int)≤0∧(0:Int)≤(k:Int)∧(k:Int)≤((s.length:Nat):Int) then some (AV.pv (.str ((s.take (k:Int).toNat).drop (0:Int).toNat))) else none)=_
 rw[if_pos (by omega)]
 simp
theorem F5{s:Ln}{k:Nat}(h:k≤s.length):G7 σ B3 ti9.td (.pv (.str s)) (some (.pv (.int .i64 (k:Int)))) none=some (.pv (.str (s.drop k))):=by
 show (if (0:Int)≤(k:Int)∧(k:Int)≤((s.length:Nat):Int)∧((s.length:Nat):Int)≤((s.length:Nat):Int) then some (AV.pv (.str ((s.take ((s.length:Nat):Int).toNat).drop (k:Int).toNat))) else none)=_
 rw[if_pos (by omega)]
 simp
theorem mn{l:Ln}:H9 σ ti9 false 1 [(0,.pv (.str l))]=some (.pv (.sl [.str l]),σ):=rfl
theorem ex:∀(f:Nat) (s:Ln) (done:List Ln),s.length<f→s.length≤1099511627776→done.length+s.length≤1099511627776→C9.n6 (C9.X w0 0) w0 0 (fun r' _=>r' = .pv (im (done++E4 s))) (lnS done) s (lnA done)
 | 0,s,done,h,_,_=>absurd h (Nat.not_lt_zero _)
 | f+1,s,done,hf,hs,hd=>by
  refine C9.n6_in ?_
  rw[C9.b7_eq,E9,Q8]
  refine B5 (fun g=>?_) (fun g=>?_)
  ·refine C9.n25_in ?_
   rw[C9.b25_eq]
   subst g
   refine N1 (σ:=[]) (L:=lnS done) L5 rfl (ln_seal done) ?_
   simp[E4]
  ·obtain ⟨k,k1,k2,k3,k4⟩:=Z0 s g
   have hge:=Lib.indexByte_ge s 10
   have fin:∀at_:Int,at_=(k:Int)→C9.n22 (C9.X w0 0) w0 0 (fun r' _=>r' = .pv (im (done++E4 s))) (lnS done) s (lnA done) at_:=by
    rintro at_ rfl
    have hl1:(s.take k).length=k:=by rw[List.length_take];omega
    have ih:=ex f (s.drop k) (done ++ [s.take k]) (by rw[List.length_drop];omega) (by rw[List.length_drop];omega) (by rw[List.length_drop,List.length_append,List.length_singleton];omega)
    simp only[lnA,List.length_append,List.length_singleton] at ih
    have e:done.map PV.str ++ [PV.str (s.take k)]=(done ++ [s.take k]).map PV.str:=by simp
    refine C9.n22_in ?_
    rw[C9.b22_eq]
    refine A0 (Q5 k2) (F4 ?_)
    refine J5 mn ?_
    refine J5 (W9 (id:=0) (es:=1) (ver:=done.length) (xs:=done.map PV.str) (ys:=[.str (s.take k)]) rfl rfl (List.length_map _).symm rfl rfl ⟨by rw[List.length_map];show done.length+1≤_;omega,by rw[List.length_map];show (done.length+1)*16≤_;omega⟩) ?_
    refine A0 (F5 k2) (F4 ?_)
    rw[List.length_map,e]
    rw[k4]
    rw[List.append_assoc] at ih
    exact ih
   refine ax (c:=10) (G2 ?_)
   have hle:Lib.indexByte s 10+1≤1099511627776:=by
    by_cases hm:Lib.indexByte s 10 = -1
    ·omega
    ·rw[if_neg hm] at k3;omega
   rw[D8 (by omega) (by omega),G6]
   refine B5 (fun g2=>fin _ ?_) (fun g2=>fin _ ?_)
   ·rw[if_pos (by omega)] at k3;exact k3
   ·rw[if_neg (by omega)] at k3;exact k3
theorem Split_spec(L:Laid w0.w){s:Ln}(hs:s.length≤1099511627776)(hR:R (.pv (im (E4 s))) σ):A2 (cx w0) C9.id [.pv (.str s)] σ R:=by
 refine A2.alone L rfl (fun w1 L1=>?_) rfl hR
 refine C9.calls ?_
 rw[C9.b0_eq]
 refine C9.n6_weak (s':=s) (out':=lnA []) (τ:=lnS []) (N2.nil (t:=3) (es:=1) rfl rfl) ?_
 exact ex (s.length+1) s [] (by omega) hs (by simpa using hs)
noncomputable def feM:List (FuncId×FE):=[(R4.id,R4.fe)]
theorem feM_ok(w0:B4):oc (cx w0) feM:=⟨R4.ok w0,trivial⟩
def meantA(k:Nat):AV:=match meantT k with
 | some m=>.tup [.pv (.int .u8 (Int.ofNat m)),.pv (.bool true)]
 | none=>.tup [.pv (.int .u8 0),.pv (.bool false)]
theorem meant_run(w0:B4):(List.range 256).map (fun k=>ey (cx w0) (jl feM) (au prims) 1000 40 R4.id [.pv (.int .u8 (Int.ofNat k))] [])=(List.range 256).map (fun k=>some (meantA k,[])):=by kernel_rfl
theorem meant_spec(L:Laid w0.w){c:UInt8}(hR:R (meantA c.toNat) σ):A2 (cx w0) R4.id [.pv (.int .u8 c.toNat)] σ R:=
 A2.alone L rfl (fun w1 L1=>run_calls L1 (feM_ok w1) (mv (meant_run w1) c.toNat_lt) rfl) (by unfold meantA;split<;>rfl) hR
end
end Go.Sv.U
end
