/- What the code of Go functions comes to over abstract stores, piece by piece; each equation by the kernel. Printed by a program of this session. -/
import Derived.Test.YtgdnoobpnhmpjaaGreatDoorSvT
import Derived.KernelRfl
set_option linter.unusedVariables false
set_option maxRecDepth 100000
namespace Go.Sv
attribute [local irreducible] A5 V7 xr
open Go Go.Proofs
namespace I8
def lvs:List (List Nat):=[[0],[0],[0],[0],[0],[0,13],[],[],[2,3],[0],[0],[0],[2,3]]
def lv:Nat→List Nat:=J8 lvs
noncomputable def code:Code:=F0 Tryz.f64
noncomputable def fe:FE:=⟨Tryz.f64,code,lv⟩
def A7:List Nat:=[]
abbrev X(w0:B4)(n:Nat):XT:=xr (cx w0) 25 lv n
theorem ok(w0:B4):FOK (cx w0) I8.id fe:=⟨Tryz.func64,by kernel_rfl,by kernel_rfl⟩
section
variable (Z:XT)(w0:B4)(n:Nat)(R:RT)(σ:A1)(r:AV)
def b0:Prop:=
 A5 (cx w0) 25 lv n A7 Z code 0 (H3 0 [r]) σ (B9 (cx w0) Tryz.f64 n R)
end
variable {Z:XT}{w0:B4}{n:Nat}{R:RT}{σ τ:A1}{r:AV}
theorem b0_eq:b0 Z w0 n R σ r=(
 opt (B2 r) fun t5=>opt (A3 B3 Y3.td t5 1) fun t6=>opt (A6 σ ti3 t6) fun t7=>isI .i64 t7 fun t7_1=>opt (B2 r) fun t9=>opt (A3 B3 Y3.td t9 0) fun t10=>opt (A6 σ J7 t10) fun t11=>opt (R5 J7.td t11) fun t12=>isI .i64 t12 fun t12_1=>B1 (decide ((t7_1:Int)≥t12_1)) (D9 (cx w0) n (.tup [(.pv (.str [])),(.pv (.bool false))]) σ R) (opt (B2 r) fun t15=>opt (A3 B3 Y3.td t15 0) fun t16=>opt (A6 σ J7 t16) fun t17=>opt (B2 r) fun t19=>opt (A3 B3 Y3.td t19 1) fun t20=>opt (A6 σ ti3 t20) fun t21=>isI .i64 t21 fun t21_1=>opt (D1 σ B3 J7.td t17 t21_1) fun t22=>opt (A6 σ ti9 t22) fun t23=>isS t23 fun t23_1=>A2 (cx w0) L6.id [(.pv (.str t23_1))] σ fun r_1 σ'=>isS r_1 fun t24=>D9 (cx w0) n (.tup [(.pv (.str t24)),(.pv (.bool true))]) σ' R)):=by kernel_rfl
theorem calls(h:b0 (X w0 (List.length σ)) w0 (List.length σ) R σ r):A2 (cx w0) I8.id [r] σ R:=
 D0 (I4 w0) (x:=fe) (S:=A7) (I8.ok w0) (by kernel_rfl) @h
attribute [irreducible] b0
end I8
namespace I1
def lvs:List (List Nat):=[[0,1],[0,1],[0,1,4],[0,1,4],[0,1,4,6],[0,1,4,6],[0,4,6,8],[0,4,6,8],[0,4,6,8],[0,4,6,25],[4],[4],[4,5],[0,4,6],[0,4,6],[0,4,6],[0,4,9,10,11],[0,4,9,10,11],[0,4,9,10,11],[0,4,9,10,34],[4],[4],[4,5],[0,4,9,10],[0,4,9,10],[0,4,9,10],[0,4,8,9,10,12],[0,4,8,9,10,12],[0,4,8,9,10,12],[0,4,9,12,46],[4],[4],[4,5],[0,4,9,12],[0,4,9,12],[0,4,9,12],[4,9,12],[4,9,12],[4,5]]
def lv:Nat→List Nat:=J8 lvs
noncomputable def code:Code:=F0 Tryz.f63
noncomputable def fe:FE:=⟨Tryz.f63,code,lv⟩
def A7:List Nat:=[29]
abbrev X(w0:B4)(n:Nat):XT:=xr (cx w0) 58 lv n
theorem ok(w0:B4):FOK (cx w0) I1.id fe:=⟨Tryz.func63,by kernel_rfl,by kernel_rfl⟩
section
variable (Z:XT)(w0:B4)(n:Nat)(R:RT)(σ:A1)(r t4:AV)(path stamp:List UInt8)(t46:Bool)(mark_:List UInt8)
def q27:QT:=F2 (fun env σ=>A5 (cx w0) 58 lv n A7 Z (cAt code 34) 34 (prune (lv 34) env) σ (B9 (cx w0) Tryz.f63 n R)) (B9 (cx w0) Tryz.f63 n R)
def n29:Prop:=
 Z (cAt code 29) 29 [(0,r),(4,t4),(9,(.pv (.str path))),(12,(.pv (.str stamp))),(46,(.pv (.bool t46)))] σ (q27 Z w0 n R)
def b29:Prop:=
 A5 (cx w0) 58 lv n A7 Z (cAt code 29) 29 [(0,r),(4,t4),(9,(.pv (.str path))),(12,(.pv (.str stamp))),(46,(.pv (.bool t46)))] σ (q27 Z w0 n R)
def b0:Prop:=
 A5 (cx w0) 58 lv n A7 Z code 0 (H3 0 [r,(.pv (.str mark_))]) σ (B9 (cx w0) Tryz.f63 n R)
end
variable {Z:XT}{w0:B4}{n:Nat}{R:RT}{σ τ:A1}{r t4:AV}{path stamp mark_:List UInt8}{t46:Bool}
theorem b29_eq:b29 Z w0 n R σ r t4 path stamp t46=(
 B1 t46 (opt (N3 B3 F1 []) fun t47=>opt (C2 σ F1 t4 t47) fun σ'=>opt (A6 σ' F1 t4) fun v=>D9 (cx w0) n (.tup [v,(.pv (.bool false))]) σ' R) (opt (B2 r) fun t49=>opt (A3 B3 Y3.td t49 1) fun t50=>opt (A6 σ ti3 t50) fun t51=>isI .i64 t51 fun t51_1=>opt (B2 r) fun t53=>opt (A3 B3 Y3.td t53 1) fun t54=>opt (C2 σ ti3 t54 (.pv (.int .i64 (IntKind.wrap .i64 (t51_1+1))))) fun σ'=>opt (N3 B3 F1 [(0,(.pv (.str path))),(1,(.pv (.str stamp)))]) fun t57=>opt (C2 σ' F1 t4 t57) fun σ'_1=>opt (A6 σ'_1 F1 t4) fun v=>D9 (cx w0) n (.tup [v,(.pv (.bool true))]) σ'_1 R)):=by kernel_rfl
theorem n29_in(h:b29 (X w0 n) w0 n R σ r t4 path stamp t46):n29 (X w0 n) w0 n R σ r t4 path stamp t46:=E1 (S:=A7) (by kernel_rfl) @h
theorem b0_eq:b0 Z w0 n R σ r mark_=(
 A2 (cx w0) I8.id [r] (σ ++ [.cells 28 (AV.ofValue F1.zero).cells]) fun r_1 σ'=>isTup r_1 fun vs=>opt ((vs)[0]?) fun t16=>isS t16 fun t16_1=>isTup r_1 fun vs_1=>opt ((vs_1)[1]?) fun t17=>isB t17 fun t17_1=>A2 (cx w0) E8.id [(.pv (.str t16_1)),(.pv (.str mark_))] σ' fun r_2 σ'_1=>isTup r_2 fun vs_2=>opt ((vs_2)[0]?) fun t22=>isS t22 fun t22_1=>isTup r_2 fun vs_3=>opt ((vs_3)[1]?) fun t23=>isB t23 fun t23_1=>B1 (!t23_1) (opt (N3 B3 F1 []) fun t26=>opt (C2 σ'_1 F1 (.ptr (List.length σ) 0) t26) fun σ'_2=>opt (A6 σ'_2 F1 (.ptr (List.length σ) 0)) fun v=>D9 (cx w0) n (.tup [v,(.pv (.bool false))]) σ'_2 R) (A2 (cx w0) G3.id [(.pv (.str t22_1))] σ'_1 fun r_3 σ'_2=>isTup r_3 fun vs_4=>opt ((vs_4)[0]?) fun t30=>isS t30 fun t30_1=>isTup r_3 fun vs_5=>opt ((vs_5)[1]?) fun t31=>isS t31 fun t31_1=>isTup r_3 fun vs_6=>opt ((vs_6)[2]?) fun t32=>Q9 B3 24 true .neq t32 (.pv (.raw .nilIface)) fun v=>isB v fun b=>B1 b (opt (N3 B3 F1 []) fun t35=>opt (C2 σ'_2 F1 (.ptr (List.length σ) 0) t35) fun σ'_3=>opt (A6 σ'_3 F1 (.ptr (List.length σ) 0)) fun v_1=>D9 (cx w0) n (.tup [v_1,(.pv (.bool false))]) σ'_3 R) (A2 (cx w0) E8.id [(.pv (.str t31_1)),(.pv (.str [9]))] σ'_2 fun r_4 σ'_3=>isTup r_4 fun vs_7=>opt ((vs_7)[0]?) fun t39=>isS t39 fun t39_1=>isTup r_4 fun vs_8=>opt ((vs_8)[1]?) fun t40=>isB t40 fun t40_1=>B1 (!((t31_1:List UInt8) == [])) (n29 Z w0 n R σ'_3 r (.ptr (List.length σ) 0) t30_1 t39_1 (!t40_1)) (n29 Z w0 n R σ'_3 r (.ptr (List.length σ) 0) t30_1 t39_1 false)))):=by kernel_rfl
theorem calls(h:b0 (X w0 (List.length σ)) w0 (List.length σ) R σ r mark_):A2 (cx w0) I1.id [r,(.pv (.str mark_))] σ R:=
 D0 (I4 w0) (x:=fe) (S:=A7) (I1.ok w0) (by kernel_rfl) @h
attribute [irreducible] n29 b29 b0
end I1
namespace L2
def lvs:List (List Nat):=[[0],[0],[0],[0],[0],[0,12],[],[],[2,3],[0],[0],[0],[0],[0],[0],[0,17],[],[],[2,3],[0],[0],[0],[4],[4],[2,3]]
def lv:Nat→List Nat:=J8 lvs
noncomputable def code:Code:=F0 Tryz.f139
noncomputable def fe:FE:=⟨Tryz.f139,code,lv⟩
def A7:List Nat:=[5]
abbrev X(w0:B4)(n:Nat):XT:=xr (cx w0) 27 lv n
theorem ok(w0:B4):FOK (cx w0) L2.id fe:=⟨Tryz.func139,by kernel_rfl,by kernel_rfl⟩
section
variable (Z:XT)(w0:B4)(n:Nat)(R:RT)(σ:A1)(s:List UInt8)(t12:Bool)
def q3:QT:=F2 (fun env σ=>A5 (cx w0) 27 lv n A7 Z (cAt code 10) 10 (prune (lv 10) env) σ (B9 (cx w0) Tryz.f139 n R)) (B9 (cx w0) Tryz.f139 n R)
def n5:Prop:=
 Z (cAt code 5) 5 [(0,(.pv (.str s))),(12,(.pv (.bool t12)))] σ (q3 Z w0 n R)
def b5:Prop:=
 A5 (cx w0) 27 lv n A7 Z (cAt code 5) 5 [(0,(.pv (.str s))),(12,(.pv (.bool t12)))] σ (q3 Z w0 n R)
def b0:Prop:=
 A5 (cx w0) 27 lv n A7 Z code 0 (H3 0 [(.pv (.str s))]) σ (B9 (cx w0) Tryz.f139 n R)
end
variable {Z:XT}{w0:B4}{n:Nat}{R:RT}{σ τ:A1}{s:List UInt8}{t12:Bool}
theorem b5_eq:b5 Z w0 n R σ s t12=(
 B1 t12 (D9 (cx w0) n (.tup [(.pv (.int .i64 0)),(.pv (.bool false))]) σ R) (A2 (cx w0) F6.id [(.pv (.str s)),(.pv (.str [48]))] σ fun r σ'=>isS r fun t14=>B1 (decide (((List.length (t14:List UInt8):Int):Int)>10)) (D9 (cx w0) n (.tup [(.pv (.int .i64 0)),(.pv (.bool false))]) σ' R) ((List.length ([48]:List UInt8)+List.length (t14:List UInt8)≤9223372036854775807∧(A2 (cx w0) strconv_Atoi.id [(.pv (.str ([48]++t14)))] σ' fun r_1 σ'_1=>isTup r_1 fun vs=>opt ((vs)[0]?) fun t22=>isI .i64 t22 fun t22_1=>isTup r_1 fun vs_1=>opt ((vs_1)[1]?) fun t23=>D9 (cx w0) n (.tup [(.pv (.int .i64 t22_1)),(.pv (.bool (decide ((t22_1:Int)≤2147483647))))]) σ'_1 R))))):=by kernel_rfl
theorem n5_in(h:b5 (X w0 n) w0 n R σ s t12):n5 (X w0 n) w0 n R σ s t12:=E1 (S:=A7) (by kernel_rfl) @h
theorem b0_eq:b0 Z w0 n R σ s=(
 B1 ((s:List UInt8) == []) (n5 Z w0 n R σ s true) (A2 (cx w0) L3.id [(.pv (.str s)),(.pv (.str [48,49,50,51,52,53,54,55,56,57]))] σ fun r σ'=>isS r fun t10=>n5 Z w0 n R σ' s (!((t10:List UInt8) == [])))):=by kernel_rfl
theorem calls(h:b0 (X w0 (List.length σ)) w0 (List.length σ) R σ s):A2 (cx w0) L2.id [(.pv (.str s))] σ R:=
 D0 (I4 w0) (x:=fe) (S:=A7) (L2.ok w0) (by kernel_rfl) @h
attribute [irreducible] n5 b5 b0
end L2
namespace H6
def lvs:List (List Nat):=[[0,1],[0,1],[1,2],[1,2],[4]]
def lv:Nat→List Nat:=J8 lvs
noncomputable def code:Code:=F0 Tryz.f101
noncomputable def fe:FE:=⟨Tryz.f101,code,lv⟩
def A7:List Nat:=[4]
abbrev X(w0:B4)(n:Nat):XT:=xr (cx w0) 18 lv n
theorem ok(w0:B4):FOK (cx w0) H6.id fe:=⟨Tryz.func101,by kernel_rfl,by kernel_rfl⟩
section
variable (Z:XT)(w0:B4)(n:Nat)(R:RT)(σ:A1)(t4:Bool)(r:AV)(n_:Int)
def n4:Prop:=
 Z (cAt code 4) 4 [(4,(.pv (.bool t4)))] σ (B9 (cx w0) Tryz.f101 n R)
def b4:Prop:=
 A5 (cx w0) 18 lv n A7 Z (cAt code 4) 4 [(4,(.pv (.bool t4)))] σ (B9 (cx w0) Tryz.f101 n R)
def b0:Prop:=
 A5 (cx w0) 18 lv n A7 Z code 0 (H3 0 [r,(.pv (.int .i64 n_))]) σ (B9 (cx w0) Tryz.f101 n R)
end
variable {Z:XT}{w0:B4}{n:Nat}{R:RT}{σ τ:A1}{t4:Bool}{r:AV}{n_:Int}
theorem b4_eq:b4 Z w0 n R σ t4=(
 D9 (cx w0) n (.pv (.bool t4)) σ R):=by kernel_rfl
theorem n4_in(h:b4 (X w0 n) w0 n R σ t4):n4 (X w0 n) w0 n R σ t4:=E1 (S:=A7) (by kernel_rfl) @h
theorem b0_eq:b0 Z w0 n R σ r n_=(
 ((AV.cells r).all AV.one=true∧(opt (A3 B3 bq.td (.ptr (List.length σ) 0) 1) fun t6=>opt (A6 (σ ++ [.cells 156 (AV.cells r)]) ti3 t6) fun t7=>isI .i64 t7 fun t7_1=>B1 ((n_:Int)==t7_1) (n4 Z w0 n R (σ ++ [.cells 156 (AV.cells r)]) true) (opt (A3 B3 bq.td (.ptr (List.length σ) 0) 2) fun t10=>opt (A6 (σ ++ [.cells 156 (AV.cells r)]) ti4 t10) fun t11=>isB t11 fun t11_1=>B1 (!t11_1) (n4 Z w0 n R (σ ++ [.cells 156 (AV.cells r)]) ((n_:Int)==0)) (n4 Z w0 n R (σ ++ [.cells 156 (AV.cells r)]) false))))):=by kernel_rfl
theorem calls(h:b0 (X w0 (List.length σ)) w0 (List.length σ) R σ r n_):A2 (cx w0) H6.id [r,(.pv (.int .i64 n_))] σ R:=
 D0 (I4 w0) (x:=fe) (S:=A7) (H6.ok w0) (by kernel_rfl) @h
attribute [irreducible] n4 b4 b0
end H6
namespace E3
def lvs:List (List Nat):=[[0,1,2],[0,1,2],[0,1,2,6],[0,1,2,6],[0,1,2,6,8],[0,1,2,6,8],[0,2,6,8,10],[0,2,6,8,10],[0,2,6,8,10],[0,2,6,8,10,29],[0,2,6,8],[0,6,8,10],[0,6,8,10],[0,6,8,10],[0,6,10,11,12,13],[0,6,10,11,12,13],[0,6,10,11,12,13],[0,6,10,11,12,13,43],[0,6,10,11,13],[0,6,10,11,12,13],[0,6,10,11,12,13],[0,6,10,11,12,13],[0,6,10,12,13,14,15],[0,6,10,12,13,14,15],[0,6,10,13,14,15,16,17],[0,6,10,13,14,15,16,17],[0,6,10,13,14,15,16,17],[0,6,13,14,16,69],[6],[6],[6,7],[0,6,13,14,16],[0,6,13,14,16],[0,6,13,14,16],[6,13,14,16],[6,13,14,16],[6,7]]
def lv:Nat→List Nat:=J8 lvs
noncomputable def code:Code:=F0 Tryz.f98
noncomputable def fe:FE:=⟨Tryz.f98,code,lv⟩
def A7:List Nat:=[12,20,27]
abbrev X(w0:B4)(n:Nat):XT:=xr (cx w0) 85 lv n
theorem ok(w0:B4):FOK (cx w0) E3.id fe:=⟨Tryz.func98,by kernel_rfl,by kernel_rfl⟩
section
variable (Z:XT)(w0:B4)(n:Nat)(R:RT)(σ:A1)(r t6:AV)(s:List UInt8)(ok:Bool)(first last:List UInt8)(two:Bool)(from_ to:Int)(t69:Bool)(before behind:List UInt8)
def q25:QT:=F2 (fun env σ=>A5 (cx w0) 85 lv n A7 Z (cAt code 32) 32 (prune (lv 32) env) σ (B9 (cx w0) Tryz.f98 n R)) (B9 (cx w0) Tryz.f98 n R)
def n12:Prop:=
 Z (cAt code 12) 12 [(0,r),(6,t6),(8,(.pv (.str s))),(10,(.pv (.bool ok)))] σ (B9 (cx w0) Tryz.f98 n R)
def b12:Prop:=
 A5 (cx w0) 85 lv n A7 Z (cAt code 12) 12 [(0,r),(6,t6),(8,(.pv (.str s))),(10,(.pv (.bool ok)))] σ (B9 (cx w0) Tryz.f98 n R)
def n20:Prop:=
 Z (cAt code 20) 20 [(0,r),(6,t6),(10,(.pv (.bool ok))),(11,(.pv (.str first))),(12,(.pv (.str last))),(13,(.pv (.bool two)))] σ (B9 (cx w0) Tryz.f98 n R)
def b20:Prop:=
 A5 (cx w0) 85 lv n A7 Z (cAt code 20) 20 [(0,r),(6,t6),(10,(.pv (.bool ok))),(11,(.pv (.str first))),(12,(.pv (.str last))),(13,(.pv (.bool two)))] σ (B9 (cx w0) Tryz.f98 n R)
def n27:Prop:=
 Z (cAt code 27) 27 [(0,r),(6,t6),(13,(.pv (.bool two))),(14,(.pv (.int .i64 from_))),(16,(.pv (.int .i64 to))),(69,(.pv (.bool t69)))] σ (q25 Z w0 n R)
def b27:Prop:=
 A5 (cx w0) 85 lv n A7 Z (cAt code 27) 27 [(0,r),(6,t6),(13,(.pv (.bool two))),(14,(.pv (.int .i64 from_))),(16,(.pv (.int .i64 to))),(69,(.pv (.bool t69)))] σ (q25 Z w0 n R)
def b0:Prop:=
 A5 (cx w0) 85 lv n A7 Z code 0 (H3 0 [r,(.pv (.str before)),(.pv (.str behind))]) σ (B9 (cx w0) Tryz.f98 n R)
end
variable {Z:XT}{w0:B4}{n:Nat}{R:RT}{σ τ:A1}{r t6:AV}{s first last before behind:List UInt8}{ok two t69:Bool}{from_ to:Int}
theorem b12_eq:b12 Z w0 n R σ r t6 s ok=(
 A2 (cx w0) K8.id [(.pv (.str s)),(.pv (.str [44]))] σ fun r_1 σ'=>isTup r_1 fun vs=>opt ((vs)[0]?) fun t39=>isS t39 fun t39_1=>isTup r_1 fun vs_1=>opt ((vs_1)[1]?) fun t40=>isS t40 fun t40_1=>isTup r_1 fun vs_2=>opt ((vs_2)[2]?) fun t41=>isB t41 fun t41_1=>B1 (!t41_1) (n20 Z w0 n R σ' r t6 ok t39_1 t39_1 t41_1) (n20 Z w0 n R σ' r t6 ok t39_1 t40_1 t41_1)):=by kernel_rfl
theorem n12_in(h:b12 (X w0 n) w0 n R σ r t6 s ok):n12 (X w0 n) w0 n R σ r t6 s ok:=E1 (S:=A7) (by kernel_rfl) @h
theorem b20_eq:b20 Z w0 n R σ r t6 ok first last two=(
 A2 (cx w0) L2.id [(.pv (.str first))] σ fun r_1 σ'=>isTup r_1 fun vs=>opt ((vs)[0]?) fun t48=>isI .i64 t48 fun t48_1=>isTup r_1 fun vs_1=>opt ((vs_1)[1]?) fun t49=>isB t49 fun t49_1=>A2 (cx w0) L2.id [(.pv (.str last))] σ' fun r_2 σ'_1=>isTup r_2 fun vs_2=>opt ((vs_2)[0]?) fun t53=>isI .i64 t53 fun t53_1=>isTup r_2 fun vs_3=>opt ((vs_3)[1]?) fun t54=>isB t54 fun t54_1=>B1 (!ok) (n27 Z w0 n R σ'_1 r t6 two t48_1 t53_1 true) (B1 (!t49_1) (n27 Z w0 n R σ'_1 r t6 two t48_1 t53_1 true) (B1 (!t54_1) (n27 Z w0 n R σ'_1 r t6 two t48_1 t53_1 true) (n27 Z w0 n R σ'_1 r t6 two t48_1 t53_1 (decide ((t53_1:Int)<t48_1)))))):=by kernel_rfl
theorem n20_in(h:b20 (X w0 n) w0 n R σ r t6 ok first last two):n20 (X w0 n) w0 n R σ r t6 ok first last two:=E1 (S:=A7) (by kernel_rfl) @h
theorem b27_eq:b27 Z w0 n R σ r t6 two from_ to t69=(
 B1 t69 (opt (N3 B3 bq []) fun t70=>opt (C2 σ bq t6 t70) fun σ'=>opt (A6 σ' bq t6) fun v=>D9 (cx w0) n (.tup [v,(.pv (.bool false))]) σ' R) (opt (B2 r) fun t72=>opt (A3 B3 Y3.td t72 1) fun t73=>opt (A6 σ ti3 t73) fun t74=>isI .i64 t74 fun t74_1=>opt (B2 r) fun t76=>opt (A3 B3 Y3.td t76 1) fun t77=>opt (C2 σ ti3 t77 (.pv (.int .i64 (IntKind.wrap .i64 (t74_1+1))))) fun σ'=>opt (N3 B3 bq [(0,(.pv (.int .i64 from_))),(1,(.pv (.int .i64 (IntKind.wrap .i64 ((IntKind.wrap .i64 (to-from_))+1))))),(2,(.pv (.bool two)))]) fun t84=>opt (C2 σ' bq t6 t84) fun σ'_1=>opt (A6 σ'_1 bq t6) fun v=>D9 (cx w0) n (.tup [v,(.pv (.bool true))]) σ'_1 R)):=by kernel_rfl
theorem n27_in(h:b27 (X w0 n) w0 n R σ r t6 two from_ to t69):n27 (X w0 n) w0 n R σ r t6 two from_ to t69:=E1 (S:=A7) (by kernel_rfl) @h
theorem b0_eq:b0 Z w0 n R σ r before behind=(
 A2 (cx w0) I8.id [r] (σ ++ [.cells 156 (AV.ofValue bq.zero).cells]) fun r_1 σ'=>isTup r_1 fun vs=>opt ((vs)[0]?) fun t21=>isS t21 fun t21_1=>isTup r_1 fun vs_1=>opt ((vs_1)[1]?) fun t22=>isB t22 fun t22_1=>A2 (cx w0) E8.id [(.pv (.str t21_1)),(.pv (.str before))] σ' fun r_2 σ'_1=>isTup r_2 fun vs_2=>opt ((vs_2)[0]?) fun t27=>isS t27 fun t27_1=>isTup r_2 fun vs_3=>opt ((vs_3)[1]?) fun t28=>isB t28 fun t28_1=>B1 t28_1 (A2 (cx w0) N9.id [(.pv (.str t27_1)),(.pv (.str behind))] σ'_1 fun r_3 σ'_2=>isTup r_3 fun vs_4=>opt ((vs_4)[0]?) fun t34=>isS t34 fun t34_1=>isTup r_3 fun vs_5=>opt ((vs_5)[1]?) fun t35=>isB t35 fun t35_1=>n12 Z w0 n R σ'_2 r (.ptr (List.length σ) 0) t34_1 t35_1) (n12 Z w0 n R σ'_1 r (.ptr (List.length σ) 0) t27_1 t28_1)):=by kernel_rfl
theorem calls(h:b0 (X w0 (List.length σ)) w0 (List.length σ) R σ r before behind):A2 (cx w0) E3.id [r,(.pv (.str before)),(.pv (.str behind))] σ R:=
 D0 (I4 w0) (x:=fe) (S:=A7) (E3.ok w0) (by kernel_rfl) @h
attribute [irreducible] n12 b12 n20 b20 n27 b27 b0
end E3
namespace B6
def lvs:List (List Nat):=[[0,1,2],[0,1,2],[0,1,2],[0,1,2],[0,1,2,7],[0,1,2,7],[0,1,2,7,8],[0,1,2,7,8],[0,1,2,7,8],[0,1,2,7,8],[0,1,2,7,8],[0,1,2,7,8,9,10],[0,1,2,7,8,9,10],[0,1,2,7,8,9,10],[0,1,2,7,8,9,10],[0,1,2,7,8,9,10,18],[0,1,2,7,8],[0,1,2,7,8],[0,1,2,7,8],[0,1,2,7,29],[7],[7],[6],[0,1,2,7],[0,1,2,7],[0,1,2,7],[0,1,2,7,11],[0,1,2,7,11],[0,1,2,7],[0,1,2,7,9,10],[0,1,2,7,9,10],[0,1,2,7,9,44],[0,1,2,7,9],[0,1,2,7,9],[0,1,2,7],[7],[7],[6],[0,1,2,7,8]]
def lv:Nat→List Nat:=J8 lvs
noncomputable def code:Code:=F0 Tryz.f99
noncomputable def fe:FE:=⟨Tryz.f99,code,lv⟩
def A7:List Nat:=[8,15,19,31,38]
abbrev X(w0:B4)(n:Nat):XT:=xr (cx w0) 102 lv n
theorem ok(w0:B4):FOK (cx w0) B6.id fe:=⟨Tryz.func99,by kernel_rfl,by kernel_rfl⟩
section
variable (Z:XT)(w0:B4)(n:Nat)(R:RT)(σ:A1)(r:AV)(kind most:Int)(out:AV)(bare:Bool)(s:List UInt8)(ok t18 t29 t44:Bool)
def q7(X:XT)(w0:B4)(n:Nat)(R:RT):QT:=I3 0 (B9 (cx w0) Tryz.f99 n R)
def q8:QT:=F2 (fun env σ=>Z (cAt code 7) 7 (prune (lv 7) env) σ (q7 Z w0 n R)) (q7 Z w0 n R)
def q9:QT:=I3 1 (q8 Z w0 n R)
def q12:QT:=F2 (fun env σ=>Z (cAt code 38) 38 (prune (lv 38) env) σ (q9 Z w0 n R)) (q9 Z w0 n R)
def q13:QT:=I3 2 (q12 Z w0 n R)
def q17:QT:=F2 (fun env σ=>A5 (cx w0) 102 lv n A7 Z (cAt code 24) 24 (prune (lv 24) env) σ (q13 Z w0 n R)) (q13 Z w0 n R)
def n7:Prop:=
 Z (cAt code 7) 7 [(0,r),(1,(.pv (.int .u8 kind))),(2,(.pv (.int .i64 most))),(7,out),(8,(.pv (.bool bare)))] σ (q7 Z w0 n R)
def b8:Prop:=
 A5 (cx w0) 102 lv n A7 Z (cAt code 8) 8 [(0,r),(1,(.pv (.int .u8 kind))),(2,(.pv (.int .i64 most))),(7,out),(8,(.pv (.bool bare)))] σ (q8 Z w0 n R)
def n15:Prop:=
 Z (cAt code 15) 15 [(0,r),(1,(.pv (.int .u8 kind))),(2,(.pv (.int .i64 most))),(7,out),(8,(.pv (.bool bare))),(9,(.pv (.str s))),(10,(.pv (.bool ok))),(18,(.pv (.bool t18)))] σ (q13 Z w0 n R)
def b15:Prop:=
 A5 (cx w0) 102 lv n A7 Z (cAt code 15) 15 [(0,r),(1,(.pv (.int .u8 kind))),(2,(.pv (.int .i64 most))),(7,out),(8,(.pv (.bool bare))),(9,(.pv (.str s))),(10,(.pv (.bool ok))),(18,(.pv (.bool t18)))] σ (q13 Z w0 n R)
def n19:Prop:=
 Z (cAt code 19) 19 [(0,r),(1,(.pv (.int .u8 kind))),(2,(.pv (.int .i64 most))),(7,out),(29,(.pv (.bool t29)))] σ (q17 Z w0 n R)
def b19:Prop:=
 A5 (cx w0) 102 lv n A7 Z (cAt code 19) 19 [(0,r),(1,(.pv (.int .u8 kind))),(2,(.pv (.int .i64 most))),(7,out),(29,(.pv (.bool t29)))] σ (q17 Z w0 n R)
def n31:Prop:=
 Z (cAt code 31) 31 [(0,r),(1,(.pv (.int .u8 kind))),(2,(.pv (.int .i64 most))),(7,out),(9,(.pv (.str s))),(44,(.pv (.bool t44)))] σ (q13 Z w0 n R)
def b31:Prop:=
 A5 (cx w0) 102 lv n A7 Z (cAt code 31) 31 [(0,r),(1,(.pv (.int .u8 kind))),(2,(.pv (.int .i64 most))),(7,out),(9,(.pv (.str s))),(44,(.pv (.bool t44)))] σ (q13 Z w0 n R)
def n38:Prop:=
 Z (cAt code 38) 38 [(0,r),(1,(.pv (.int .u8 kind))),(2,(.pv (.int .i64 most))),(7,out),(8,(.pv (.bool bare)))] σ (q9 Z w0 n R)
def b38:Prop:=
 A5 (cx w0) 102 lv n A7 Z (cAt code 38) 38 [(0,r),(1,(.pv (.int .u8 kind))),(2,(.pv (.int .i64 most))),(7,out),(8,(.pv (.bool bare)))] σ (q9 Z w0 n R)
def b0:Prop:=
 A5 (cx w0) 102 lv n A7 Z code 0 (H3 0 [r,(.pv (.int .u8 kind)),(.pv (.int .i64 most))]) σ (B9 (cx w0) Tryz.f99 n R)
end
variable {Z:XT}{w0:B4}{n:Nat}{R:RT}{σ τ:A1}{r out r' out':AV}{kind most kind' most':Int}{bare ok t18 t29 t44 bare':Bool}{s:List UInt8}
theorem n7_in(h:b8 (X w0 n) w0 n R σ r kind most out bare):n7 (X w0 n) w0 n R σ r kind most out bare:=J9 (I4 w0) (S:=A7) (by kernel_rfl:cAt code 7 = .loop (cAt code 8)) @h
theorem n7_weak(e:N2 (cx w0) n [(0,r),(1,(.pv (.int .u8 kind))),(2,(.pv (.int .i64 most))),(7,out),(8,(.pv (.bool bare)))] σ [(0,r'),(1,(.pv (.int .u8 kind'))),(2,(.pv (.int .i64 most'))),(7,out'),(8,(.pv (.bool bare')))] τ)(h:n7 (X w0 n) w0 n R τ r' kind' most' out' bare'):n7 (X w0 n) w0 n R σ r kind most out bare:=U3 (L:=lv) (k:=7) (by kernel_rfl:cAt code 7 = .loop (cAt code 8)) @e @h
theorem b8_eq:b8 Z w0 n R σ r kind most out bare=(
 A2 (cx w0) I8.id [r] σ fun r_1 σ'=>isTup r_1 fun vs=>opt ((vs)[0]?) fun t15=>isS t15 fun t15_1=>isTup r_1 fun vs_1=>opt ((vs_1)[1]?) fun t16=>isB t16 fun t16_1=>B1 t16_1 (A2 (cx w0) strings_HasPrefix.id [(.pv (.str t15_1)),(.pv (.str [92]))] σ' fun r_2 σ'_1=>isB r_2 fun t22=>n15 Z w0 n R σ'_1 r kind most out bare t15_1 t16_1 t22) (n15 Z w0 n R σ' r kind most out bare t15_1 t16_1 false)):=by kernel_rfl
theorem b15_eq:b15 Z w0 n R σ r kind most out bare s ok t18=(
 B1 t18 (opt (R5 R1.td out) fun t25=>isI .i64 t25 fun t25_1=>B1 ((t25_1:Int)==0) (n19 Z w0 n R σ r kind most out true) (n19 Z w0 n R σ r kind most out bare)) (B1 ok (opt (R5 R1.td out) fun t48=>isI .i64 t48 fun t48_1=>B1 (decide ((t48_1:Int)<most)) (B1 (decide (((List.length (s:List UInt8):Int):Int)>1)) (opt (L7 B3 ti9.td (.pv (.str s)) 1) fun t59=>isI .u8 t59 fun t59_1=>B1 ((t59_1:Int)==32) (opt (L7 B3 ti9.td (.pv (.str s)) 0) fun t64=>isI .u8 t64 fun t64_1=>B1 ((t64_1:Int)==32) (n31 Z w0 n R σ r kind most out s true) (opt (L7 B3 ti9.td (.pv (.str s)) 0) fun t68=>isI .u8 t68 fun t68_1=>B1 ((t68_1:Int)==kind) (n31 Z w0 n R σ r kind most out s true) (opt (L7 B3 ti9.td (.pv (.str s)) 0) fun t74=>isI .u8 t74 fun t74_1=>n31 Z w0 n R σ r kind most out s ((t74_1:Int)==33)))) (n31 Z w0 n R σ r kind most out s false)) (n31 Z w0 n R σ r kind most out s false)) (n31 Z w0 n R σ r kind most out s false)) (n31 Z w0 n R σ r kind most out s false))):=by kernel_rfl
theorem n15_in(h:b15 (X w0 n) w0 n R σ r kind most out bare s ok t18):n15 (X w0 n) w0 n R σ r kind most out bare s ok t18:=E1 (S:=A7) (by kernel_rfl) @h
theorem b19_eq:b19 Z w0 n R σ r kind most out t29=(
 B1 t29 (D9 (cx w0) n out σ R) (opt (R5 R1.td out) fun t33=>isI .i64 t33 fun t33_1=>opt (D1 σ B3 R1.td out (IntKind.wrap .i64 (t33_1-1))) fun t35=>opt (B2 t35) fun t38=>opt (A3 B3 U1.td t38 1) fun t39=>opt (A6 σ ti9 t39) fun t40=>isS t40 fun t40_1=>A2 (cx w0) L6.id [(.pv (.str t40_1))] σ fun r_1 σ'=>isS r_1 fun t41=>opt (B2 t35) fun t42=>opt (A3 B3 U1.td t42 1) fun t43=>opt (C2 σ' ti9 t43 (.pv (.str t41))) fun σ'_1=>n38 Z w0 n R σ'_1 r kind most out true)):=by kernel_rfl
theorem n19_in(h:b19 (X w0 n) w0 n R σ r kind most out t29):n19 (X w0 n) w0 n R σ r kind most out t29:=E1 (S:=A7) (by kernel_rfl) @h
theorem b31_eq:b31 Z w0 n R σ r kind most out s t44=(
 B1 t44 (opt (L7 B3 ti9.td (.pv (.str s)) 0) fun t80=>isI .u8 t80 fun t80_1=>opt (B2 r) fun t82=>opt (A3 B3 Y3.td t82 0) fun t83=>opt (A6 σ J7 t83) fun t84=>opt (B2 r) fun t86=>opt (A3 B3 Y3.td t86 1) fun t87=>opt (A6 σ ti3 t87) fun t88=>isI .i64 t88 fun t88_1=>opt (D1 σ B3 J7.td t84 t88_1) fun t89=>opt (A6 σ ti9 t89) fun t90=>isS t90 fun t90_1=>opt (G7 σ B3 ti9.td (.pv (.str t90_1)) (some (.pv (.int .i64 2))) none) fun t91=>isS t91 fun t91_1=>opt (N3 B3 U1 [(0,(.pv (.int .u8 t80_1))),(1,(.pv (.str t91_1)))]) fun t92=>opt2 (H9 σ U1 false 1 [(0,t92)]) fun t93 σ'=>opt2 (L0 σ' U1 out t93) fun t94 σ'_1=>n38 Z w0 n R σ'_1 r kind most t94 false) (D9 (cx w0) n out σ R)):=by kernel_rfl
theorem n31_in(h:b31 (X w0 n) w0 n R σ r kind most out s t44):n31 (X w0 n) w0 n R σ r kind most out s t44:=E1 (S:=A7) (by kernel_rfl) @h
theorem b38_eq:b38 Z w0 n R σ r kind most out bare=(
 opt (B2 r) fun t96=>opt (A3 B3 Y3.td t96 1) fun t97=>opt (A6 σ ti3 t97) fun t98=>isI .i64 t98 fun t98_1=>opt (B2 r) fun t100=>opt (A3 B3 Y3.td t100 1) fun t101=>opt (C2 σ ti3 t101 (.pv (.int .i64 (IntKind.wrap .i64 (t98_1+1))))) fun σ'=>n7 Z w0 n R σ' r kind most out bare):=by kernel_rfl
theorem n38_in(h:b38 (X w0 n) w0 n R σ r kind most out bare):n38 (X w0 n) w0 n R σ r kind most out bare:=E1 (S:=A7) (by kernel_rfl) @h
theorem b0_eq:b0 Z w0 n R σ r kind most=(
 n7 Z w0 n R σ r kind most .nilsl false):=by kernel_rfl
theorem calls(h:b0 (X w0 (List.length σ)) w0 (List.length σ) R σ r kind most):A2 (cx w0) B6.id [r,(.pv (.int .u8 kind)),(.pv (.int .i64 most))] σ R:=
 D0 (I4 w0) (x:=fe) (S:=A7) (B6.ok w0) (by kernel_rfl) @h
attribute [irreducible] n7 b8 n15 b15 n19 b19 n31 b31 n38 b38 b0
end B6
namespace G0
def lvs:List (List Nat):=[[0],[0],[0],[0],[0,3],[0,3],[0,3],[3,6,7,8],[3,6,7,8],[3,6,7,8],[3,6,7,8],[3,6,7,8,9],[3,6,7,8,9],[3,6,7,8],[3],[3,6,7,8],[3,6,7,8],[3,6,7,8],[3,6,7,8],[3,5,6,7,8],[3,5,6,7,8],[3,5,6,7,8,14],[3,5,6,7,8],[3,6,7,8],[3,6,7,8],[3],[3],[2]]
def lv:Nat→List Nat:=J8 lvs
noncomputable def code:Code:=F0 Tryz.f140
noncomputable def fe:FE:=⟨Tryz.f140,code,lv⟩
def A7:List Nat:=[9,24,25]
abbrev X(w0:B4)(n:Nat):XT:=xr (cx w0) 21 lv n
theorem ok(w0:B4):FOK (cx w0) G0.id fe:=⟨Tryz.func140,by kernel_rfl,by kernel_rfl⟩
section
variable (Z:XT)(w0:B4)(n:Nat)(R:RT)(σ:A1)(out t6:AV)(t7 t8:Int)(l_:AV)
def q5:QT:=F2 (fun env σ=>Z (cAt code 25) 25 (prune (lv 25) env) σ (B9 (cx w0) Tryz.f140 n R)) (B9 (cx w0) Tryz.f140 n R)
def q8:QT:=I3 0 (q5 Z w0 n R)
def q9:QT:=F2 (fun env σ=>Z (cAt code 8) 8 (prune (lv 8) env) σ (q8 Z w0 n R)) (q8 Z w0 n R)
def n8:Prop:=
 Z (cAt code 8) 8 [(3,out),(6,t6),(7,(.pv (.int .i64 t7))),(8,(.pv (.int .i64 t8)))] σ (q8 Z w0 n R)
def b9:Prop:=
 A5 (cx w0) 21 lv n A7 Z (cAt code 9) 9 [(3,out),(6,t6),(7,(.pv (.int .i64 t7))),(8,(.pv (.int .i64 t8)))] σ (q9 Z w0 n R)
def n24:Prop:=
 Z (cAt code 24) 24 [(3,out),(6,t6),(7,(.pv (.int .i64 t7))),(8,(.pv (.int .i64 t8)))] σ (q9 Z w0 n R)
def b24:Prop:=
 A5 (cx w0) 21 lv n A7 Z (cAt code 24) 24 [(3,out),(6,t6),(7,(.pv (.int .i64 t7))),(8,(.pv (.int .i64 t8)))] σ (q9 Z w0 n R)
def n25:Prop:=
 Z (cAt code 25) 25 [(3,out)] σ (B9 (cx w0) Tryz.f140 n R)
def b25:Prop:=
 A5 (cx w0) 21 lv n A7 Z (cAt code 25) 25 [(3,out)] σ (B9 (cx w0) Tryz.f140 n R)
def b0:Prop:=
 A5 (cx w0) 21 lv n A7 Z code 0 (H3 0 [l_]) σ (B9 (cx w0) Tryz.f140 n R)
end
variable {Z:XT}{w0:B4}{n:Nat}{R:RT}{σ τ:A1}{out t6 l_ out' t6':AV}{t7 t8 t7' t8':Int}
theorem n8_in(h:b9 (X w0 n) w0 n R σ out t6 t7 t8):n8 (X w0 n) w0 n R σ out t6 t7 t8:=J9 (I4 w0) (S:=A7) (by kernel_rfl:cAt code 8 = .loop (cAt code 9)) @h
theorem n8_weak(e:N2 (cx w0) n [(3,out),(6,t6),(7,(.pv (.int .i64 t7))),(8,(.pv (.int .i64 t8)))] σ [(3,out'),(6,t6'),(7,(.pv (.int .i64 t7'))),(8,(.pv (.int .i64 t8')))] τ)(h:n8 (X w0 n) w0 n R τ out' t6' t7' t8'):n8 (X w0 n) w0 n R σ out t6 t7 t8:=U3 (L:=lv) (k:=8) (by kernel_rfl:cAt code 8 = .loop (cAt code 9)) @e @h
theorem b9_eq:b9 Z w0 n R σ out t6 t7 t8=(
 B1 (decide ((t8:Int)<t7)) (opt (D1 σ B3 R1.td t6 t8) fun t10=>opt (A6 σ U1 t10) fun t11=>opt (C2 (σ ++ [.cells 217 (AV.ofValue U1.zero).cells]) U1 (.ptr (List.length σ) 0) t11) fun σ'=>opt (A3 B3 U1.td (.ptr (List.length σ) 0) 0) fun t12=>opt (A6 σ' ti5 t12) fun t13=>isI .u8 t13 fun t13_1=>B1 ((t13_1:Int)==32) (opt (A6 σ' U1 (.ptr (List.length σ) 0)) fun t16=>opt2 (H9 σ' U1 false 1 [(0,t16)]) fun t17 σ'_1=>opt2 (L0 σ'_1 U1 out t17) fun t18 σ'_2=>n24 Z w0 n R σ'_2 t18 t6 t7 t8) (n24 Z w0 n R σ' out t6 t7 t8)) (n25 Z w0 n R σ out)):=by kernel_rfl
theorem b24_eq:b24 Z w0 n R σ out t6 t7 t8=(
 n8 Z w0 n R σ out t6 t7 (IntKind.wrap .i64 (t8+1))):=by kernel_rfl
theorem n24_in(h:b24 (X w0 n) w0 n R σ out t6 t7 t8):n24 (X w0 n) w0 n R σ out t6 t7 t8:=E1 (S:=A7) (by kernel_rfl) @h
theorem b25_eq:b25 Z w0 n R σ out=(
 D9 (cx w0) n out σ R):=by kernel_rfl
theorem n25_in(h:b25 (X w0 n) w0 n R σ out):n25 (X w0 n) w0 n R σ out:=E1 (S:=A7) (by kernel_rfl) @h
theorem b0_eq:b0 Z w0 n R σ l_=(
 opt (R5 R1.td l_) fun t7=>isI .i64 t7 fun t7_1=>n8 Z w0 n R σ .nilsl l_ t7_1 0):=by kernel_rfl
theorem calls(h:b0 (X w0 (List.length σ)) w0 (List.length σ) R σ l_):A2 (cx w0) G0.id [l_] σ R:=
 D0 (I4 w0) (x:=fe) (S:=A7) (G0.ok w0) (by kernel_rfl) @h
attribute [irreducible] n8 b9 n24 b24 n25 b25 b0
end G0
namespace H1
def lvs:List (List Nat):=[[0],[0],[0],[0],[0,4],[0,4],[0,4],[0,4],[0,4],[0,4],[0,4,16],[0,4],[0,4],[0,4],[0,4],[0,4],[0,4],[2,3]]
def lv:Nat→List Nat:=J8 lvs
noncomputable def code:Code:=F0 Tryz.f141
noncomputable def fe:FE:=⟨Tryz.f141,code,lv⟩
def A7:List Nat:=[7,10,15]
abbrev X(w0:B4)(n:Nat):XT:=xr (cx w0) 25 lv n
theorem ok(w0:B4):FOK (cx w0) H1.id fe:=⟨Tryz.func141,by kernel_rfl,by kernel_rfl⟩
section
variable (Z:XT)(w0:B4)(n:Nat)(R:RT)(σ:A1)(l_:AV)(n_:Int)(t16:Bool)
def q5:QT:=F2 (fun env σ=>Z (cAt code 15) 15 (prune (lv 15) env) σ (B9 (cx w0) Tryz.f141 n R)) (B9 (cx w0) Tryz.f141 n R)
def q6:QT:=I3 0 (q5 Z w0 n R)
def q7:QT:=F2 (fun env σ=>Z (cAt code 6) 6 (prune (lv 6) env) σ (q6 Z w0 n R)) (q6 Z w0 n R)
def q8:QT:=F2 (fun env σ=>A5 (cx w0) 25 lv n A7 Z (cAt code 13) 13 (prune (lv 13) env) σ (q7 Z w0 n R)) (q7 Z w0 n R)
def n6:Prop:=
 Z (cAt code 6) 6 [(0,l_),(4,(.pv (.int .i64 n_)))] σ (q6 Z w0 n R)
def b7:Prop:=
 A5 (cx w0) 25 lv n A7 Z (cAt code 7) 7 [(0,l_),(4,(.pv (.int .i64 n_)))] σ (q7 Z w0 n R)
def n10:Prop:=
 Z (cAt code 10) 10 [(0,l_),(4,(.pv (.int .i64 n_))),(16,(.pv (.bool t16)))] σ (q8 Z w0 n R)
def b10:Prop:=
 A5 (cx w0) 25 lv n A7 Z (cAt code 10) 10 [(0,l_),(4,(.pv (.int .i64 n_))),(16,(.pv (.bool t16)))] σ (q8 Z w0 n R)
def n15:Prop:=
 Z (cAt code 15) 15 [(0,l_),(4,(.pv (.int .i64 n_)))] σ (B9 (cx w0) Tryz.f141 n R)
def b15:Prop:=
 A5 (cx w0) 25 lv n A7 Z (cAt code 15) 15 [(0,l_),(4,(.pv (.int .i64 n_)))] σ (B9 (cx w0) Tryz.f141 n R)
def b0:Prop:=
 A5 (cx w0) 25 lv n A7 Z code 0 (H3 0 [l_]) σ (B9 (cx w0) Tryz.f141 n R)
end
variable {Z:XT}{w0:B4}{n:Nat}{R:RT}{σ τ:A1}{l_ l_':AV}{n_ n_':Int}{t16:Bool}
theorem n6_in(h:b7 (X w0 n) w0 n R σ l_ n_):n6 (X w0 n) w0 n R σ l_ n_:=J9 (I4 w0) (S:=A7) (by kernel_rfl:cAt code 6 = .loop (cAt code 7)) @h
theorem b7_eq:b7 Z w0 n R σ l_ n_=(
 opt (R5 R1.td l_) fun t7=>isI .i64 t7 fun t7_1=>B1 (decide ((n_:Int)<t7_1)) (opt (D1 σ B3 R1.td l_ n_) fun t12=>opt (A3 B3 U1.td t12 0) fun t13=>opt (A6 σ ti5 t13) fun t14=>isI .u8 t14 fun t14_1=>n10 Z w0 n R σ l_ n_ ((t14_1:Int) != 32)) (n10 Z w0 n R σ l_ n_ false)):=by kernel_rfl
theorem b10_eq:b10 Z w0 n R σ l_ n_ t16=(
 B1 t16 (n6 Z w0 n R σ l_ (IntKind.wrap .i64 (n_+1))) (n15 Z w0 n R σ l_ n_)):=by kernel_rfl
theorem n10_in(h:b10 (X w0 n) w0 n R σ l_ n_ t16):n10 (X w0 n) w0 n R σ l_ n_ t16:=E1 (S:=A7) (by kernel_rfl) @h
theorem b15_eq:b15 Z w0 n R σ l_ n_=(
 opt (G7 σ B3 R1.td l_ none (some (.pv (.int .i64 n_)))) fun t21=>opt (G7 σ B3 R1.td l_ (some (.pv (.int .i64 n_))) none) fun t24=>((opt (G7 σ B3 R1.td l_ (some (.pv (.int .i64 n_))) none) fun t24_1=>((t24_1:AV)=t24))∧(D9 (cx w0) n (.tup [t21,t24]) σ R))):=by kernel_rfl
theorem n15_in(h:b15 (X w0 n) w0 n R σ l_ n_):n15 (X w0 n) w0 n R σ l_ n_:=E1 (S:=A7) (by kernel_rfl) @h
theorem b0_eq:b0 Z w0 n R σ l_=(
 n6 Z w0 n R σ l_ 0):=by kernel_rfl
theorem calls(h:b0 (X w0 (List.length σ)) w0 (List.length σ) R σ l_):A2 (cx w0) H1.id [l_] σ R:=
 D0 (I4 w0) (x:=fe) (S:=A7) (H1.ok w0) (by kernel_rfl) @h
attribute [irreducible] n6 b7 n10 b10 n15 b15 b0
end H1
namespace J2
def lvs:List (List Nat):=[[0,1],[0,1],[0,1],[0,1],[0,1],[0,1,7,8,9],[0,1,7,8,9],[0,1,7,8,9],[0,1,7,8,9],[0,1,7,8,9,10],[0,1,7,8,9,10],[0,1,7,8,9],[0],[0,1,7,8,9],[0,1,7,8,9],[0,1,7,8,9],[0,1,7,8,9],[0,1,6,7,8,9],[0,1,6,7,8,9],[0,1,7,8,9,16],[],[],[4],[0,1,7,8,9],[0,1,7,8,9],[0],[0],[4]]
def lv:Nat→List Nat:=J8 lvs
noncomputable def code:Code:=F0 Tryz.f142
noncomputable def fe:FE:=⟨Tryz.f142,code,lv⟩
def A7:List Nat:=[7,25]
abbrev X(w0:B4)(n:Nat):XT:=xr (cx w0) 21 lv n
theorem ok(w0:B4):FOK (cx w0) J2.id fe:=⟨Tryz.func142,by kernel_rfl,by kernel_rfl⟩
section
variable (Z:XT)(w0:B4)(n:Nat)(R:RT)(σ:A1)(l_:AV)(mark_:Int)(t7:AV)(t8 t9:Int)
def q3:QT:=F2 (fun env σ=>Z (cAt code 25) 25 (prune (lv 25) env) σ (B9 (cx w0) Tryz.f142 n R)) (B9 (cx w0) Tryz.f142 n R)
def q6:QT:=I3 0 (q3 Z w0 n R)
def q7:QT:=F2 (fun env σ=>Z (cAt code 6) 6 (prune (lv 6) env) σ (q6 Z w0 n R)) (q6 Z w0 n R)
def n6:Prop:=
 Z (cAt code 6) 6 [(0,l_),(1,(.pv (.int .u8 mark_))),(7,t7),(8,(.pv (.int .i64 t8))),(9,(.pv (.int .i64 t9)))] σ (q6 Z w0 n R)
def b7:Prop:=
 A5 (cx w0) 21 lv n A7 Z (cAt code 7) 7 [(0,l_),(1,(.pv (.int .u8 mark_))),(7,t7),(8,(.pv (.int .i64 t8))),(9,(.pv (.int .i64 t9)))] σ (q7 Z w0 n R)
def n25:Prop:=
 Z (cAt code 25) 25 [(0,l_)] σ (B9 (cx w0) Tryz.f142 n R)
def b25:Prop:=
 A5 (cx w0) 21 lv n A7 Z (cAt code 25) 25 [(0,l_)] σ (B9 (cx w0) Tryz.f142 n R)
def b0:Prop:=
 A5 (cx w0) 21 lv n A7 Z code 0 (H3 0 [l_,(.pv (.int .u8 mark_))]) σ (B9 (cx w0) Tryz.f142 n R)
end
variable {Z:XT}{w0:B4}{n:Nat}{R:RT}{σ τ:A1}{l_ t7 l_' t7':AV}{mark_ t8 t9 mark_' t8' t9':Int}
theorem n6_in(h:b7 (X w0 n) w0 n R σ l_ mark_ t7 t8 t9):n6 (X w0 n) w0 n R σ l_ mark_ t7 t8 t9:=J9 (I4 w0) (S:=A7) (by kernel_rfl:cAt code 6 = .loop (cAt code 7)) @h
theorem n6_weak(e:N2 (cx w0) n [(0,l_),(1,(.pv (.int .u8 mark_))),(7,t7),(8,(.pv (.int .i64 t8))),(9,(.pv (.int .i64 t9)))] σ [(0,l_'),(1,(.pv (.int .u8 mark_'))),(7,t7'),(8,(.pv (.int .i64 t8'))),(9,(.pv (.int .i64 t9')))] τ)(h:n6 (X w0 n) w0 n R τ l_' mark_' t7' t8' t9'):n6 (X w0 n) w0 n R σ l_ mark_ t7 t8 t9:=U3 (L:=lv) (k:=6) (by kernel_rfl:cAt code 6 = .loop (cAt code 7)) @e @h
theorem b7_eq:b7 Z w0 n R σ l_ mark_ t7 t8 t9=(
 B1 (decide ((t9:Int)<t8)) (opt (D1 σ B3 R1.td t7 t9) fun t11=>opt (A6 σ U1 t11) fun t12=>opt (C2 (σ ++ [.cells 217 (AV.ofValue U1.zero).cells]) U1 (.ptr (List.length σ) 0) t12) fun σ'=>opt (A3 B3 U1.td (.ptr (List.length σ) 0) 0) fun t13=>opt (A6 σ' ti5 t13) fun t14=>isI .u8 t14 fun t14_1=>B1 ((t14_1:Int) != mark_) (D9 (cx w0) n (.pv (.bool false)) σ' R) (n6 Z w0 n R σ' l_ mark_ t7 t8 (IntKind.wrap .i64 (t9+1)))) (n25 Z w0 n R σ l_)):=by kernel_rfl
theorem b25_eq:b25 Z w0 n R σ l_=(
 opt (R5 R1.td l_) fun t19=>isI .i64 t19 fun t19_1=>D9 (cx w0) n (.pv (.bool (decide ((t19_1:Int)>0)))) σ R):=by kernel_rfl
theorem n25_in(h:b25 (X w0 n) w0 n R σ l_):n25 (X w0 n) w0 n R σ l_:=E1 (S:=A7) (by kernel_rfl) @h
theorem b0_eq:b0 Z w0 n R σ l_ mark_=(
 opt (R5 R1.td l_) fun t8=>isI .i64 t8 fun t8_1=>n6 Z w0 n R σ l_ mark_ l_ t8_1 0):=by kernel_rfl
theorem calls(h:b0 (X w0 (List.length σ)) w0 (List.length σ) R σ l_ mark_):A2 (cx w0) J2.id [l_,(.pv (.int .u8 mark_))] σ R:=
 D0 (I4 w0) (x:=fe) (S:=A7) (J2.ok w0) (by kernel_rfl) @h
attribute [irreducible] n6 b7 n25 b25 b0
end J2
namespace A8
def lvs:List (List Nat):=[[0,1],[0,1],[0,1],[0,1],[0,1],[0,1],[0,1,13],[],[],[4,5],[0,1],[0,1],[0,1,22],[1],[0,1],[0,1],[0,1,28],[0],[0,1],[0,1],[0,1],[0,1,6],[0,1,6],[0,1,6],[0,1,6],[0,1,6],[0,1,6],[0,1,6],[0,1,6,7],[0,1,6,7],[0,1,6,7,8],[0,1,6,7,8],[0,1,6,7,8],[0,1,6,7,8],[0,1,6,7,8,44],[0,1,6,7,8],[0,1,6,7,8],[0,1,6,7,8],[0,1,6,7,8],[0,1,6,7,8,53],[0,1,6,7,8,53],[0,1,6,7,8],[0,1,6,7,8],[0,1,6,7,8,53],[0,1,6,7,8,53],[0,1,6,7,8],[0,1,6,7,8,53],[0,1,6,7,8],[],[],[4,5],[0,1,6,7,8],[0,1,6,7,8],[0,1,6,7,8],[0,1,6,8,74,75,76],[0,1,6,8,74,75,76],[0,1,6,8,74,75,76],[0,1,6,8,74,75,76],[0,1,6,8,74,75,76,77],[0,1,6,8,74,75,76,77],[0,1,6,8,74,75,76],[0,1,6,8],[0,1,6,8,74,75,76],[0,1,6,8,74,75,76],[0,1,6,8,74,75,76],[0,1,6,8,74,75,76],[0,1,6,8,10,74,75,76],[0,1,6,8,74,75,76],[0,1,6,8],[0,1,6,8],[0,1,6,8],[0,1,6,87,88,89],[0,1,6,87,88,89],[0,1,6,87,88,89],[0,1,6,87,88,89],[0,1,6,87,88,89,90],[0,1,6,87,88,89,90],[0,1,6,87,88,89],[0,1,6],[0,1,6,87,88,89],[0,1,6,87,88,89],[0,1,6,87,88,89],[0,1,6,87,88,89],[0,1,6,12,87,88,89],[0,1,6,87,88,89],[0,1,6],[0,1,6],[0,1,6],[0,1,6,107],[0,1,6],[0,1,6],[4,5],[0,1,6],[0,1,6],[0,1,6],[0,1,6],[0,1,6,122],[],[],[4,5],[0,1,6],[0,1,6],[0,1,6],[0,1,6]]
def lv:Nat→List Nat:=J8 lvs
noncomputable def code:Code:=F0 Tryz.f100
noncomputable def fe:FE:=⟨Tryz.f100,code,lv⟩
def A7:List Nat:=[6,19,23,34,39,43,46,51,56,68,73,85,88]
abbrev X(w0:B4)(n:Nat):XT:=xr (cx w0) 135 lv n
theorem ok(w0:B4):FOK (cx w0) A8.id fe:=⟨Tryz.func100,by kernel_rfl,by kernel_rfl⟩
section
variable (Z:XT)(w0:B4)(n:Nat)(R:RT)(σ:A1)(old fresh:AV)(t13:Bool)(out gone come:AV)(t44 t53:Bool)(t74:AV)(t75 t76:Int)(t87:AV)(t88 t89:Int)(t107:Bool)
def q3:QT:=F2 (fun env σ=>Z (cAt code 19) 19 (prune (lv 19) env) σ (B9 (cx w0) Tryz.f100 n R)) (B9 (cx w0) Tryz.f100 n R)
def q4:QT:=I3 0 (q3 Z w0 n R)
def q22(X:XT)(w0:B4)(n:Nat)(R:RT):QT:=I3 1 (B9 (cx w0) Tryz.f100 n R)
def q23:QT:=F2 (fun env σ=>Z (cAt code 22) 22 (prune (lv 22) env) σ (q22 Z w0 n R)) (q22 Z w0 n R)
def q24:QT:=I3 2 (q23 Z w0 n R)
def q31:QT:=F2 (fun env σ=>Z (cAt code 51) 51 (prune (lv 51) env) σ (q24 Z w0 n R)) (q24 Z w0 n R)
def q32:QT:=I3 3 (q31 Z w0 n R)
def q37:QT:=F2 (fun env σ=>Z (cAt code 46) 46 (prune (lv 46) env) σ (q32 Z w0 n R)) (q32 Z w0 n R)
def q52:QT:=F2 (fun env σ=>Z (cAt code 68) 68 (prune (lv 68) env) σ (q24 Z w0 n R)) (q24 Z w0 n R)
def q55:QT:=I3 4 (q52 Z w0 n R)
def q56:QT:=F2 (fun env σ=>Z (cAt code 55) 55 (prune (lv 55) env) σ (q55 Z w0 n R)) (q55 Z w0 n R)
def q69:QT:=F2 (fun env σ=>Z (cAt code 85) 85 (prune (lv 85) env) σ (q24 Z w0 n R)) (q24 Z w0 n R)
def q72:QT:=I3 6 (q69 Z w0 n R)
def q73:QT:=F2 (fun env σ=>Z (cAt code 72) 72 (prune (lv 72) env) σ (q72 Z w0 n R)) (q72 Z w0 n R)
def q86:QT:=F2 (fun env σ=>A5 (cx w0) 135 lv n A7 Z (cAt code 93) 93 (prune (lv 93) env) σ (q24 Z w0 n R)) (q24 Z w0 n R)
def n6:Prop:=
 Z (cAt code 6) 6 [(0,old),(1,fresh),(13,(.pv (.bool t13)))] σ (q4 Z w0 n R)
def b6:Prop:=
 A5 (cx w0) 135 lv n A7 Z (cAt code 6) 6 [(0,old),(1,fresh),(13,(.pv (.bool t13)))] σ (q4 Z w0 n R)
def n19:Prop:=
 Z (cAt code 19) 19 [(0,old),(1,fresh)] σ (B9 (cx w0) Tryz.f100 n R)
def b19:Prop:=
 A5 (cx w0) 135 lv n A7 Z (cAt code 19) 19 [(0,old),(1,fresh)] σ (B9 (cx w0) Tryz.f100 n R)
def n22:Prop:=
 Z (cAt code 22) 22 [(0,old),(1,fresh),(6,out)] σ (q22 Z w0 n R)
def b23:Prop:=
 A5 (cx w0) 135 lv n A7 Z (cAt code 23) 23 [(0,old),(1,fresh),(6,out)] σ (q23 Z w0 n R)
def n34:Prop:=
 Z (cAt code 34) 34 [(0,old),(1,fresh),(6,out),(7,gone),(8,come),(44,(.pv (.bool t44)))] σ (q32 Z w0 n R)
def b34:Prop:=
 A5 (cx w0) 135 lv n A7 Z (cAt code 34) 34 [(0,old),(1,fresh),(6,out),(7,gone),(8,come),(44,(.pv (.bool t44)))] σ (q32 Z w0 n R)
def n39:Prop:=
 Z (cAt code 39) 39 [(0,old),(1,fresh),(6,out),(7,gone),(8,come),(53,(.pv (.bool t53)))] σ (q37 Z w0 n R)
def b39:Prop:=
 A5 (cx w0) 135 lv n A7 Z (cAt code 39) 39 [(0,old),(1,fresh),(6,out),(7,gone),(8,come),(53,(.pv (.bool t53)))] σ (q37 Z w0 n R)
def n43:Prop:=
 Z (cAt code 43) 43 [(0,old),(1,fresh),(6,out),(7,gone),(8,come),(53,(.pv (.bool t53)))] σ (q37 Z w0 n R)
def b43:Prop:=
 A5 (cx w0) 135 lv n A7 Z (cAt code 43) 43 [(0,old),(1,fresh),(6,out),(7,gone),(8,come),(53,(.pv (.bool t53)))] σ (q37 Z w0 n R)
def n46:Prop:=
 Z (cAt code 46) 46 [(0,old),(1,fresh),(6,out),(7,gone),(8,come),(53,(.pv (.bool t53)))] σ (q32 Z w0 n R)
def b46:Prop:=
 A5 (cx w0) 135 lv n A7 Z (cAt code 46) 46 [(0,old),(1,fresh),(6,out),(7,gone),(8,come),(53,(.pv (.bool t53)))] σ (q32 Z w0 n R)
def n51:Prop:=
 Z (cAt code 51) 51 [(0,old),(1,fresh),(6,out),(7,gone),(8,come)] σ (q24 Z w0 n R)
def b51:Prop:=
 A5 (cx w0) 135 lv n A7 Z (cAt code 51) 51 [(0,old),(1,fresh),(6,out),(7,gone),(8,come)] σ (q24 Z w0 n R)
def n55:Prop:=
 Z (cAt code 55) 55 [(0,old),(1,fresh),(6,out),(8,come),(74,t74),(75,(.pv (.int .i64 t75))),(76,(.pv (.int .i64 t76)))] σ (q55 Z w0 n R)
def b56:Prop:=
 A5 (cx w0) 135 lv n A7 Z (cAt code 56) 56 [(0,old),(1,fresh),(6,out),(8,come),(74,t74),(75,(.pv (.int .i64 t75))),(76,(.pv (.int .i64 t76)))] σ (q56 Z w0 n R)
def n68:Prop:=
 Z (cAt code 68) 68 [(0,old),(1,fresh),(6,out),(8,come)] σ (q24 Z w0 n R)
def b68:Prop:=
 A5 (cx w0) 135 lv n A7 Z (cAt code 68) 68 [(0,old),(1,fresh),(6,out),(8,come)] σ (q24 Z w0 n R)
def n72:Prop:=
 Z (cAt code 72) 72 [(0,old),(1,fresh),(6,out),(87,t87),(88,(.pv (.int .i64 t88))),(89,(.pv (.int .i64 t89)))] σ (q72 Z w0 n R)
def b73:Prop:=
 A5 (cx w0) 135 lv n A7 Z (cAt code 73) 73 [(0,old),(1,fresh),(6,out),(87,t87),(88,(.pv (.int .i64 t88))),(89,(.pv (.int .i64 t89)))] σ (q73 Z w0 n R)
def n85:Prop:=
 Z (cAt code 85) 85 [(0,old),(1,fresh),(6,out)] σ (q24 Z w0 n R)
def b85:Prop:=
 A5 (cx w0) 135 lv n A7 Z (cAt code 85) 85 [(0,old),(1,fresh),(6,out)] σ (q24 Z w0 n R)
def n88:Prop:=
 Z (cAt code 88) 88 [(0,old),(1,fresh),(6,out),(107,(.pv (.bool t107)))] σ (q86 Z w0 n R)
def b88:Prop:=
 A5 (cx w0) 135 lv n A7 Z (cAt code 88) 88 [(0,old),(1,fresh),(6,out),(107,(.pv (.bool t107)))] σ (q86 Z w0 n R)
def b0:Prop:=
 A5 (cx w0) 135 lv n A7 Z code 0 (H3 0 [old,fresh]) σ (B9 (cx w0) Tryz.f100 n R)
end
variable {Z:XT}{w0:B4}{n:Nat}{R:RT}{σ τ:A1}{old fresh out gone come t74 t87 old' fresh' out' come' t74' t87':AV}{t13 t44 t53 t107:Bool}{t75 t76 t88 t89 t75' t76' t88' t89':Int}
theorem b6_eq:b6 Z w0 n R σ old fresh t13=(
 B1 t13 (D9 (cx w0) n (.tup [.nilsl,(.pv (.bool false))]) σ R) (opt (R5 R1.td old) fun t24=>isI .i64 t24 fun t24_1=>B1 ((t24_1:Int)==0) (A2 (cx w0) G0.id [fresh] σ fun r σ'=>n19 Z w0 n R σ' r fresh) (opt (R5 R1.td fresh) fun t30=>isI .i64 t30 fun t30_1=>B1 ((t30_1:Int)==0) (A2 (cx w0) G0.id [old] σ fun r σ'=>n19 Z w0 n R σ' old r) (n19 Z w0 n R σ old fresh)))):=by kernel_rfl
theorem n6_in(h:b6 (X w0 n) w0 n R σ old fresh t13):n6 (X w0 n) w0 n R σ old fresh t13:=E1 (S:=A7) (by kernel_rfl) @h
theorem b19_eq:b19 Z w0 n R σ old fresh=(
 n22 Z w0 n R σ old fresh .nilsl):=by kernel_rfl
theorem n19_in(h:b19 (X w0 n) w0 n R σ old fresh):n19 (X w0 n) w0 n R σ old fresh:=E1 (S:=A7) (by kernel_rfl) @h
theorem n22_in(h:b23 (X w0 n) w0 n R σ old fresh out):n22 (X w0 n) w0 n R σ old fresh out:=J9 (I4 w0) (S:=A7) (by kernel_rfl:cAt code 22 = .loop (cAt code 23)) @h
theorem n22_weak(e:N2 (cx w0) n [(0,old),(1,fresh),(6,out)] σ [(0,old'),(1,fresh'),(6,out')] τ)(h:n22 (X w0 n) w0 n R τ old' fresh' out'):n22 (X w0 n) w0 n R σ old fresh out:=U3 (L:=lv) (k:=22) (by kernel_rfl:cAt code 22 = .loop (cAt code 23)) @e @h
theorem b23_eq:b23 Z w0 n R σ old fresh out=(
 A2 (cx w0) H1.id [old] σ fun r σ'=>isTup r fun vs=>opt ((vs)[0]?) fun t37=>isTup r fun vs_1=>opt ((vs_1)[1]?) fun t38=>A2 (cx w0) H1.id [fresh] σ' fun r_1 σ'_1=>isTup r_1 fun vs_2=>opt ((vs_2)[0]?) fun t42=>isTup r_1 fun vs_3=>opt ((vs_3)[1]?) fun t43=>opt (R5 R1.td t37) fun t46=>isI .i64 t46 fun t46_1=>B1 ((t46_1:Int)==0) (opt (R5 R1.td t42) fun t50=>isI .i64 t50 fun t50_1=>n34 Z w0 n R σ'_1 t38 t43 out t37 t42 ((t50_1:Int)==0)) (n34 Z w0 n R σ'_1 t38 t43 out t37 t42 false)):=by kernel_rfl
theorem b34_eq:b34 Z w0 n R σ old fresh out gone come t44=(
 B1 t44 (n51 Z w0 n R σ old fresh out gone come) (opt (R5 R1.td come) fun t55=>isI .i64 t55 fun t55_1=>B1 ((t55_1:Int)==0) (A2 (cx w0) J2.id [gone,(.pv (.int .u8 45))] σ fun r σ'=>isB r fun t59=>n39 Z w0 n R σ' old fresh out gone come t59) (n39 Z w0 n R σ old fresh out gone come false))):=by kernel_rfl
theorem n34_in(h:b34 (X w0 n) w0 n R σ old fresh out gone come t44):n34 (X w0 n) w0 n R σ old fresh out gone come t44:=E1 (S:=A7) (by kernel_rfl) @h
theorem b39_eq:b39 Z w0 n R σ old fresh out gone come t53=(
 B1 t53 (n46 Z w0 n R σ old fresh out gone come t53) (opt (R5 R1.td gone) fun t62=>isI .i64 t62 fun t62_1=>B1 ((t62_1:Int)==0) (A2 (cx w0) J2.id [come,(.pv (.int .u8 43))] σ fun r σ'=>isB r fun t66=>n43 Z w0 n R σ' old fresh out gone come t66) (n43 Z w0 n R σ old fresh out gone come false))):=by kernel_rfl
theorem n39_in(h:b39 (X w0 n) w0 n R σ old fresh out gone come t53):n39 (X w0 n) w0 n R σ old fresh out gone come t53:=E1 (S:=A7) (by kernel_rfl) @h
theorem b43_eq:b43 Z w0 n R σ old fresh out gone come t53=(
 B1 t53 (n46 Z w0 n R σ old fresh out gone come t53) (A2 (cx w0) J2.id [gone,(.pv (.int .u8 33))] σ fun r σ'=>isB r fun t69=>B1 t69 (A2 (cx w0) J2.id [come,(.pv (.int .u8 33))] σ' fun r_1 σ'_1=>isB r_1 fun t72=>n46 Z w0 n R σ'_1 old fresh out gone come t72) (n46 Z w0 n R σ' old fresh out gone come false))):=by kernel_rfl
theorem n43_in(h:b43 (X w0 n) w0 n R σ old fresh out gone come t53):n43 (X w0 n) w0 n R σ old fresh out gone come t53:=E1 (S:=A7) (by kernel_rfl) @h
theorem b46_eq:b46 Z w0 n R σ old fresh out gone come t53=(
 B1 t53 (n51 Z w0 n R σ old fresh out gone come) (D9 (cx w0) n (.tup [.nilsl,(.pv (.bool false))]) σ R)):=by kernel_rfl
theorem n46_in(h:b46 (X w0 n) w0 n R σ old fresh out gone come t53):n46 (X w0 n) w0 n R σ old fresh out gone come t53:=E1 (S:=A7) (by kernel_rfl) @h
theorem b51_eq:b51 Z w0 n R σ old fresh out gone come=(
 opt (R5 R1.td gone) fun t75=>isI .i64 t75 fun t75_1=>n55 Z w0 n R σ old fresh out come gone t75_1 0):=by kernel_rfl
theorem n51_in(h:b51 (X w0 n) w0 n R σ old fresh out gone come):n51 (X w0 n) w0 n R σ old fresh out gone come:=E1 (S:=A7) (by kernel_rfl) @h
theorem n55_in(h:b56 (X w0 n) w0 n R σ old fresh out come t74 t75 t76):n55 (X w0 n) w0 n R σ old fresh out come t74 t75 t76:=J9 (I4 w0) (S:=A7) (by kernel_rfl:cAt code 55 = .loop (cAt code 56)) @h
theorem n55_weak(e:N2 (cx w0) n [(0,old),(1,fresh),(6,out),(8,come),(74,t74),(75,(.pv (.int .i64 t75))),(76,(.pv (.int .i64 t76)))] σ [(0,old'),(1,fresh'),(6,out'),(8,come'),(74,t74'),(75,(.pv (.int .i64 t75'))),(76,(.pv (.int .i64 t76')))] τ)(h:n55 (X w0 n) w0 n R τ old' fresh' out' come' t74' t75' t76'):n55 (X w0 n) w0 n R σ old fresh out come t74 t75 t76:=U3 (L:=lv) (k:=55) (by kernel_rfl:cAt code 55 = .loop (cAt code 56)) @e @h
theorem b56_eq:b56 Z w0 n R σ old fresh out come t74 t75 t76=(
 B1 (decide ((t76:Int)<t75)) (opt (D1 σ B3 R1.td t74 t76) fun t78=>opt (A6 σ U1 t78) fun t79=>opt (C2 (σ ++ [.cells 217 (AV.ofValue U1.zero).cells]) U1 (.ptr (List.length σ) 0) t79) fun σ'=>opt (A3 B3 U1.td (.ptr (List.length σ) 0) 1) fun t81=>opt (A6 σ' ti9 t81) fun t82=>isS t82 fun t82_1=>opt (N3 B3 T8 [(0,(.pv (.int .i64 2))),(1,(.pv (.str t82_1)))]) fun t83=>opt2 (H9 σ' T8 false 1 [(0,t83)]) fun t84 σ'_1=>opt2 (L0 σ'_1 T8 out t84) fun t85 σ'_2=>n55 Z w0 n R σ'_2 old fresh t85 come t74 t75 (IntKind.wrap .i64 (t76+1))) (n68 Z w0 n R σ old fresh out come)):=by kernel_rfl
theorem b68_eq:b68 Z w0 n R σ old fresh out come=(
 opt (R5 R1.td come) fun t88=>isI .i64 t88 fun t88_1=>n72 Z w0 n R σ old fresh out come t88_1 0):=by kernel_rfl
theorem n68_in(h:b68 (X w0 n) w0 n R σ old fresh out come):n68 (X w0 n) w0 n R σ old fresh out come:=E1 (S:=A7) (by kernel_rfl) @h
theorem n72_in(h:b73 (X w0 n) w0 n R σ old fresh out t87 t88 t89):n72 (X w0 n) w0 n R σ old fresh out t87 t88 t89:=J9 (I4 w0) (S:=A7) (by kernel_rfl:cAt code 72 = .loop (cAt code 73)) @h
theorem n72_weak(e:N2 (cx w0) n [(0,old),(1,fresh),(6,out),(87,t87),(88,(.pv (.int .i64 t88))),(89,(.pv (.int .i64 t89)))] σ [(0,old'),(1,fresh'),(6,out'),(87,t87'),(88,(.pv (.int .i64 t88'))),(89,(.pv (.int .i64 t89')))] τ)(h:n72 (X w0 n) w0 n R τ old' fresh' out' t87' t88' t89'):n72 (X w0 n) w0 n R σ old fresh out t87 t88 t89:=U3 (L:=lv) (k:=72) (by kernel_rfl:cAt code 72 = .loop (cAt code 73)) @e @h
theorem b73_eq:b73 Z w0 n R σ old fresh out t87 t88 t89=(
 B1 (decide ((t89:Int)<t88)) (opt (D1 σ B3 R1.td t87 t89) fun t91=>opt (A6 σ U1 t91) fun t92=>opt (C2 (σ ++ [.cells 217 (AV.ofValue U1.zero).cells]) U1 (.ptr (List.length σ) 0) t92) fun σ'=>opt (A3 B3 U1.td (.ptr (List.length σ) 0) 1) fun t94=>opt (A6 σ' ti9 t94) fun t95=>isS t95 fun t95_1=>opt (N3 B3 T8 [(0,(.pv (.int .i64 3))),(1,(.pv (.str t95_1)))]) fun t96=>opt2 (H9 σ' T8 false 1 [(0,t96)]) fun t97 σ'_1=>opt2 (L0 σ'_1 T8 out t97) fun t98 σ'_2=>n72 Z w0 n R σ'_2 old fresh t98 t87 t88 (IntKind.wrap .i64 (t89+1))) (n85 Z w0 n R σ old fresh out)):=by kernel_rfl
theorem b85_eq:b85 Z w0 n R σ old fresh out=(
 opt (R5 R1.td old) fun t101=>isI .i64 t101 fun t101_1=>B1 ((t101_1:Int)==0) (n88 Z w0 n R σ old fresh out true) (opt (R5 R1.td fresh) fun t105=>isI .i64 t105 fun t105_1=>n88 Z w0 n R σ old fresh out ((t105_1:Int)==0))):=by kernel_rfl
theorem n85_in(h:b85 (X w0 n) w0 n R σ old fresh out):n85 (X w0 n) w0 n R σ old fresh out:=E1 (S:=A7) (by kernel_rfl) @h
theorem b88_eq:b88 Z w0 n R σ old fresh out t107=(
 B1 t107 (opt (R5 R1.td old) fun t110=>isI .i64 t110 fun t110_1=>opt (R5 R1.td fresh) fun t112=>isI .i64 t112 fun t112_1=>D9 (cx w0) n (.tup [out,(.pv (.bool ((t110_1:Int)==t112_1)))]) σ R) (opt (D1 σ B3 R1.td old 0) fun t115=>opt (A3 B3 U1.td t115 1) fun t116=>opt (A6 σ ti9 t116) fun t117=>isS t117 fun t117_1=>opt (D1 σ B3 R1.td fresh 0) fun t119=>opt (A3 B3 U1.td t119 1) fun t120=>opt (A6 σ ti9 t120) fun t121=>isS t121 fun t121_1=>B1 (!((t117_1:List UInt8)==t121_1)) (D9 (cx w0) n (.tup [.nilsl,(.pv (.bool false))]) σ R) (opt (D1 σ B3 R1.td old 0) fun t125=>opt (A3 B3 U1.td t125 1) fun t126=>opt (A6 σ ti9 t126) fun t127=>isS t127 fun t127_1=>opt (N3 B3 T8 [(0,(.pv (.int .i64 1))),(1,(.pv (.str t127_1)))]) fun t128=>opt2 (H9 σ T8 false 1 [(0,t128)]) fun t129 σ'=>opt2 (L0 σ' T8 out t129) fun t130 σ'_1=>opt (G7 σ'_1 B3 R1.td old (some (.pv (.int .i64 1))) none) fun t132=>opt (G7 σ'_1 B3 R1.td fresh (some (.pv (.int .i64 1))) none) fun t134=>((opt (G7 σ'_1 B3 R1.td fresh (some (.pv (.int .i64 1))) none) fun t134_1=>((t134_1:AV)=t134))∧(n22 Z w0 n R σ'_1 t132 t134 t130))))):=by kernel_rfl
theorem n88_in(h:b88 (X w0 n) w0 n R σ old fresh out t107):n88 (X w0 n) w0 n R σ old fresh out t107:=E1 (S:=A7) (by kernel_rfl) @h
theorem b0_eq:b0 Z w0 n R σ old fresh=(
 opt (R5 R1.td old) fun t15=>isI .i64 t15 fun t15_1=>B1 ((t15_1:Int)==0) (opt (R5 R1.td fresh) fun t19=>isI .i64 t19 fun t19_1=>n6 Z w0 n R σ old fresh ((t19_1:Int)==0)) (n6 Z w0 n R σ old fresh false)):=by kernel_rfl
theorem calls(h:b0 (X w0 (List.length σ)) w0 (List.length σ) R σ old fresh):A2 (cx w0) A8.id [old,fresh] σ R:=
 D0 (I4 w0) (x:=fe) (S:=A7) (A8.ok w0) (by kernel_rfl) @h
attribute [irreducible] n6 b6 n19 b19 n22 b23 n34 b34 n39 b39 n43 b43 n46 b46 n51 b51 n55 b56 n68 b68 n72 b73 n85 b85 n88 b88 b0
end A8
namespace C1
def lvs:List (List Nat):=[[0],[0],[0,2],[0,2],[0,2,5],[0,2,5],[0,2,5,6],[0,2,5,6],[0,2,5,8],[0,2,5,8],[0,2,5,8],[0,2,5,8],[0,2,5,8,9,10],[0,2,5,8,9,10],[0,2,5,8,9,10],[0,2,5,8,9,42],[0,2,8],[0,2,8],[2,3,4],[0,2,5,8,9],[0,2,5,8,9],[0,2,5,8,9],[0,2,5,8,9,11],[0,2,5,8,9,11],[0,2,5,8,9,10,11,12],[0,2,5,8,9,10,11,12],[0,2,5,8,9,10,11,12],[0,2,5,8,9,11,12,62],[0,2,8],[0,2,8],[2,3,4],[0,2,5,8,9,11,12],[0,2,5,8,9,11,12],[0,2,5,8,9,11,12],[2,5,8,9,11,12,13],[2,5,8,9,11,12,13],[2,5,8,9,10,12],[2,5,8,9,10,12],[2,5,8,9,10,12],[2,5,8,9,12,81],[2,5,8],[2,5,8],[2,3,4],[2,5,8,9,12],[2,5,8,9,12],[2,5,8,9,12],[2,5,8,9,12],[2,5,8,9,12,86,87,88],[2,5,8,9,12,86,87,88],[2,5,8,9,12,86,87,88],[2,5,8,9,12,86,87,88],[2,5,8,9,12,86,87,88,89],[2,5,8,9,12,86,87,88,89],[2,5,8,9,12,86,87,88],[2,5,8,9,12],[2,5,8,9,12,86,87,88],[2,5,8,9,12,86,87,88],[2,5,8,9,12,86,87,88],[2,5,8,9,12,86,87,88],[2,5,8,9,12,15,86,87,88],[2,5,8,9,12,15,86,87,88],[2,5,8,9,12,15,86,87,88],[2,5,8,9,12,15,86,87,88,94],[2,5,8,9,12,15,86,87,88],[2,5,8,9,12,15,86,87,88],[2,5,8,9,12,15,86,87,88],[2,5,8,9,12,15,86,87,88],[2,5,8,9,12,86,87,88,101],[2,5,8,9,12,86,87,88],[2,5,8,9,12,86,87,88],[2,5,8,9,12,86,87,88],[2,5,8,9,12],[2,5,8,9,12],[2,5,8,9,12],[2,5,8,9,12,118],[2,5,8],[2,5,8],[2,3,4],[2,5,8,9,12],[2,5,8,9,12],[2,5,8,9,12],[2,5,8],[2,5,8],[2,3,4]]
def lv:Nat→List Nat:=J8 lvs
noncomputable def code:Code:=F0 Tryz.f66
noncomputable def fe:FE:=⟨Tryz.f66,code,lv⟩
def A7:List Nat:=[49,65,70,71,74]
abbrev X(w0:B4)(n:Nat):XT:=xr (cx w0) 132 lv n
theorem ok(w0:B4):FOK (cx w0) C1.id fe:=⟨Tryz.func66,by kernel_rfl,by kernel_rfl⟩
section
variable (Z:XT)(w0:B4)(n:Nat)(R:RT)(σ:A1)(t2:AV)(first:Int)(h_ old fresh x t86:AV)(t87 t88:Int)(t118:Bool)(r:AV)
def q45:QT:=F2 (fun env σ=>Z (cAt code 71) 71 (prune (lv 71) env) σ (B9 (cx w0) Tryz.f66 n R)) (B9 (cx w0) Tryz.f66 n R)
def q48:QT:=I3 0 (q45 Z w0 n R)
def q49:QT:=F2 (fun env σ=>Z (cAt code 48) 48 (prune (lv 48) env) σ (q48 Z w0 n R)) (q48 Z w0 n R)
def q56:QT:=F2 (fun env σ=>Z (cAt code 70) 70 (prune (lv 70) env) σ (q49 Z w0 n R)) (q49 Z w0 n R)
def q57:QT:=I3 1 (q56 Z w0 n R)
def q72:QT:=F2 (fun env σ=>A5 (cx w0) 132 lv n A7 Z (cAt code 79) 79 (prune (lv 79) env) σ (B9 (cx w0) Tryz.f66 n R)) (B9 (cx w0) Tryz.f66 n R)
def n48:Prop:=
 Z (cAt code 48) 48 [(2,t2),(5,(.pv (.int .i64 first))),(8,h_),(9,old),(12,fresh),(86,t86),(87,(.pv (.int .i64 t87))),(88,(.pv (.int .i64 t88)))] σ (q48 Z w0 n R)
def b49:Prop:=
 A5 (cx w0) 132 lv n A7 Z (cAt code 49) 49 [(2,t2),(5,(.pv (.int .i64 first))),(8,h_),(9,old),(12,fresh),(86,t86),(87,(.pv (.int .i64 t87))),(88,(.pv (.int .i64 t88)))] σ (q49 Z w0 n R)
def n65:Prop:=
 Z (cAt code 65) 65 [(2,t2),(5,(.pv (.int .i64 first))),(8,h_),(9,old),(12,fresh),(15,x),(86,t86),(87,(.pv (.int .i64 t87))),(88,(.pv (.int .i64 t88)))] σ (q57 Z w0 n R)
def b65:Prop:=
 A5 (cx w0) 132 lv n A7 Z (cAt code 65) 65 [(2,t2),(5,(.pv (.int .i64 first))),(8,h_),(9,old),(12,fresh),(15,x),(86,t86),(87,(.pv (.int .i64 t87))),(88,(.pv (.int .i64 t88)))] σ (q57 Z w0 n R)
def n70:Prop:=
 Z (cAt code 70) 70 [(2,t2),(5,(.pv (.int .i64 first))),(8,h_),(9,old),(12,fresh),(86,t86),(87,(.pv (.int .i64 t87))),(88,(.pv (.int .i64 t88)))] σ (q49 Z w0 n R)
def b70:Prop:=
 A5 (cx w0) 132 lv n A7 Z (cAt code 70) 70 [(2,t2),(5,(.pv (.int .i64 first))),(8,h_),(9,old),(12,fresh),(86,t86),(87,(.pv (.int .i64 t87))),(88,(.pv (.int .i64 t88)))] σ (q49 Z w0 n R)
def n71:Prop:=
 Z (cAt code 71) 71 [(2,t2),(5,(.pv (.int .i64 first))),(8,h_),(9,old),(12,fresh)] σ (B9 (cx w0) Tryz.f66 n R)
def b71:Prop:=
 A5 (cx w0) 132 lv n A7 Z (cAt code 71) 71 [(2,t2),(5,(.pv (.int .i64 first))),(8,h_),(9,old),(12,fresh)] σ (B9 (cx w0) Tryz.f66 n R)
def n74:Prop:=
 Z (cAt code 74) 74 [(2,t2),(5,(.pv (.int .i64 first))),(8,h_),(9,old),(12,fresh),(118,(.pv (.bool t118)))] σ (q72 Z w0 n R)
def b74:Prop:=
 A5 (cx w0) 132 lv n A7 Z (cAt code 74) 74 [(2,t2),(5,(.pv (.int .i64 first))),(8,h_),(9,old),(12,fresh),(118,(.pv (.bool t118)))] σ (q72 Z w0 n R)
def b0:Prop:=
 A5 (cx w0) 132 lv n A7 Z code 0 (H3 0 [r]) σ (B9 (cx w0) Tryz.f66 n R)
end
variable {Z:XT}{w0:B4}{n:Nat}{R:RT}{σ τ:A1}{t2 h_ old fresh t86 x r t2' h_' old' fresh' t86':AV}{first t87 t88 first' t87' t88':Int}{t118:Bool}
theorem n48_in(h:b49 (X w0 n) w0 n R σ t2 first h_ old fresh t86 t87 t88):n48 (X w0 n) w0 n R σ t2 first h_ old fresh t86 t87 t88:=J9 (I4 w0) (S:=A7) (by kernel_rfl:cAt code 48 = .loop (cAt code 49)) @h
theorem n48_weak(e:N2 (cx w0) n [(2,t2),(5,(.pv (.int .i64 first))),(8,h_),(9,old),(12,fresh),(86,t86),(87,(.pv (.int .i64 t87))),(88,(.pv (.int .i64 t88)))] σ [(2,t2'),(5,(.pv (.int .i64 first'))),(8,h_'),(9,old'),(12,fresh'),(86,t86'),(87,(.pv (.int .i64 t87'))),(88,(.pv (.int .i64 t88')))] τ)(h:n48 (X w0 n) w0 n R τ t2' first' h_' old' fresh' t86' t87' t88'):n48 (X w0 n) w0 n R σ t2 first h_ old fresh t86 t87 t88:=U3 (L:=lv) (k:=48) (by kernel_rfl:cAt code 48 = .loop (cAt code 49)) @e @h
theorem b49_eq:b49 Z w0 n R σ t2 first h_ old fresh t86 t87 t88=(
 B1 (decide ((t88:Int)<t87)) (opt (D1 σ B3 lp.td t86 t88) fun t90=>opt (A6 σ T8 t90) fun t91=>opt (C2 (σ ++ [.cells 79 (AV.ofValue T8.zero).cells]) T8 (.ptr (List.length σ) 0) t91) fun σ'=>opt (A3 B3 T8.td (.ptr (List.length σ) 0) 0) fun t92=>opt (A6 σ' ti3 t92) fun t93=>isI .i64 t93 fun t93_1=>B1 ((t93_1:Int) != 3) (opt (A3 B3 G1.td h_ 1) fun t95=>opt (A6 σ' ti3 t95) fun t96=>isI .i64 t96 fun t96_1=>opt (A3 B3 G1.td h_ 1) fun t98=>opt (C2 σ' ti3 t98 (.pv (.int .i64 (IntKind.wrap .i64 (t96_1+1))))) fun σ'_1=>n65 Z w0 n R σ'_1 t2 first h_ old fresh (.ptr (List.length σ) 0) t86 t87 t88) (n65 Z w0 n R σ' t2 first h_ old fresh (.ptr (List.length σ) 0) t86 t87 t88)) (n71 Z w0 n R σ t2 first h_ old fresh)):=by kernel_rfl
theorem b65_eq:b65 Z w0 n R σ t2 first h_ old fresh x t86 t87 t88=(
 opt (A3 B3 T8.td x 0) fun t99=>opt (A6 σ ti3 t99) fun t100=>isI .i64 t100 fun t100_1=>B1 ((t100_1:Int) != 2) (opt (A3 B3 G1.td h_ 3) fun t102=>opt (A6 σ ti3 t102) fun t103=>isI .i64 t103 fun t103_1=>opt (A3 B3 G1.td h_ 3) fun t105=>opt (C2 σ ti3 t105 (.pv (.int .i64 (IntKind.wrap .i64 (t103_1+1))))) fun σ'=>n70 Z w0 n R σ' t2 first h_ old fresh t86 t87 t88) (n70 Z w0 n R σ t2 first h_ old fresh t86 t87 t88)):=by kernel_rfl
theorem n65_in(h:b65 (X w0 n) w0 n R σ t2 first h_ old fresh x t86 t87 t88):n65 (X w0 n) w0 n R σ t2 first h_ old fresh x t86 t87 t88:=E1 (S:=A7) (by kernel_rfl) @h
theorem b70_eq:b70 Z w0 n R σ t2 first h_ old fresh t86 t87 t88=(
 n48 Z w0 n R σ t2 first h_ old fresh t86 t87 (IntKind.wrap .i64 (t88+1))):=by kernel_rfl
theorem n70_in(h:b70 (X w0 n) w0 n R σ t2 first h_ old fresh t86 t87 t88):n70 (X w0 n) w0 n R σ t2 first h_ old fresh t86 t87 t88:=E1 (S:=A7) (by kernel_rfl) @h
theorem b71_eq:b71 Z w0 n R σ t2 first h_ old fresh=(
 opt (A6 σ bq old) fun t107=>opt (A3 B3 G1.td h_ 1) fun t108=>opt (A6 σ ti3 t108) fun t109=>isI .i64 t109 fun t109_1=>A2 (cx w0) H6.id [t107,(.pv (.int .i64 t109_1))] σ fun r σ'=>isB r fun t110=>B1 (!t110) (n74 Z w0 n R σ' t2 first h_ old fresh true) (opt (A6 σ' bq fresh) fun t113=>opt (A3 B3 G1.td h_ 3) fun t114=>opt (A6 σ' ti3 t114) fun t115=>isI .i64 t115 fun t115_1=>A2 (cx w0) H6.id [t113,(.pv (.int .i64 t115_1))] σ' fun r_1 σ'_1=>isB r_1 fun t116=>n74 Z w0 n R σ'_1 t2 first h_ old fresh (!t116))):=by kernel_rfl
theorem n71_in(h:b71 (X w0 n) w0 n R σ t2 first h_ old fresh):n71 (X w0 n) w0 n R σ t2 first h_ old fresh:=E1 (S:=A7) (by kernel_rfl) @h
theorem b74_eq:b74 Z w0 n R σ t2 first h_ old fresh t118=(
 B1 t118 (opt (A6 σ G1 h_) fun t119=>opt (G4 61 (.pv (.int .i64 111))) fun t121=>opt (C2 σ G1 t2 t119) fun σ'=>opt (A6 σ' G1 t2) fun v=>D9 (cx w0) n (.tup [v,(.pv (.int .i64 first)),t121]) σ' R) (opt (A3 B3 bq.td old 0) fun t122=>opt (A6 σ ti3 t122) fun t123=>isI .i64 t123 fun t123_1=>opt (A3 B3 bq.td fresh 0) fun t124=>opt (A6 σ ti3 t124) fun t125=>isI .i64 t125 fun t125_1=>opt (A3 B3 G1.td h_ 0) fun t126=>opt (C2 σ ti3 t126 (.pv (.int .i64 t123_1))) fun σ'=>((opt (A6 σ' ti3 t124) fun t125_2=>((t125_2:AV)=(.pv (.int .i64 t125_1))))∧(opt (A3 B3 G1.td h_ 2) fun t127=>opt (C2 σ' ti3 t127 (.pv (.int .i64 t125_1))) fun σ'_1=>opt (A6 σ'_1 G1 h_) fun t128=>opt (A6 σ'_1 G1 h_) fun t130=>A2 (cx w0) M0.id [t130] σ'_1 fun r σ'_2=>((opt (A6 σ'_2 G1 h_) fun t128_1=>((t128_1:AV)=t128))∧(opt (C2 σ'_2 G1 t2 t128) fun σ'_3=>opt (A6 σ'_3 G1 t2) fun v=>D9 (cx w0) n (.tup [v,(.pv (.int .i64 first)),r]) σ'_3 R)))))):=by kernel_rfl
theorem n74_in(h:b74 (X w0 n) w0 n R σ t2 first h_ old fresh t118):n74 (X w0 n) w0 n R σ t2 first h_ old fresh t118:=E1 (S:=A7) (by kernel_rfl) @h
theorem b0_eq:b0 Z w0 n R σ r=(
 opt (B2 r) fun t17=>opt (A3 B3 Y3.td t17 1) fun t18=>opt (A6 (σ ++ [.cells 46 (AV.ofValue G1.zero).cells]) ti3 t18) fun t19=>isI .i64 t19 fun t19_1=>A2 (cx w0) I8.id [r] (σ ++ [.cells 46 (AV.ofValue G1.zero).cells]) fun r_1 σ'=>isTup r_1 fun vs=>opt ((vs)[0]?) fun t23=>isS t23 fun t23_1=>isTup r_1 fun vs_1=>opt ((vs_1)[1]?) fun t24=>isB t24 fun t24_1=>opt (G7 σ' B3 ti9.td (.pv (.str t23_1)) (some (.pv (.int .i64 15))) none) fun t26=>isS t26 fun t26_1=>A2 (cx w0) strings_TrimPrefix.id [(.pv (.str t26_1)),(.pv (.str [32]))] σ' fun r_2 σ'_1=>isS r_2 fun t27=>opt (N3 B3 G1 [(4,(.pv (.str t27)))]) fun t28=>opt (C2 (σ'_1 ++ [.cells 46 (AV.ofValue G1.zero).cells]) G1 (.ptr (List.length σ'_1) 0) t28) fun σ'_2=>opt (B2 r) fun t30=>opt (A3 B3 Y3.td t30 1) fun t31=>opt (A6 σ'_2 ti3 t31) fun t32=>isI .i64 t32 fun t32_1=>opt (B2 r) fun t34=>opt (A3 B3 Y3.td t34 1) fun t35=>opt (C2 σ'_2 ti3 t35 (.pv (.int .i64 (IntKind.wrap .i64 (t32_1+1))))) fun σ'_3=>A2 (cx w0) E3.id [r,(.pv (.str [42,42,42,32])),(.pv (.str [32,42,42,42,42]))] σ'_3 fun r_3 σ'_4=>isTup r_3 fun vs_2=>opt ((vs_2)[0]?) fun t39=>isTup r_3 fun vs_3=>opt ((vs_3)[1]?) fun t40=>isB t40 fun t40_1=>opt (C2 (σ'_4 ++ [.cells 156 (AV.ofValue bq.zero).cells]) bq (.ptr (List.length σ'_4) 0) t39) fun σ'_5=>B1 (!t40_1) (opt (A6 σ'_5 G1 (.ptr (List.length σ'_1) 0)) fun t43=>opt (B2 r) fun t45=>opt (A3 B3 Y3.td t45 1) fun t46=>opt (A6 σ'_5 ti3 t46) fun t47=>isI .i64 t47 fun t47_1=>opt (G4 61 (.pv (.int .i64 100))) fun t48=>opt (C2 σ'_5 G1 (.ptr (List.length σ) 0) t43) fun σ'_6=>((opt (A6 σ'_6 ti3 t46) fun t47_2=>((t47_2:AV)=(.pv (.int .i64 t47_1))))∧(opt (A6 σ'_6 G1 (.ptr (List.length σ) 0)) fun v=>D9 (cx w0) n (.tup [v,(.pv (.int .i64 t47_1)),t48]) σ'_6 R))) (opt (B2 r) fun t51=>opt (A3 B3 Y3.td t51 0) fun t52=>opt (A6 σ'_5 J7 t52) fun t53=>opt (R5 J7.td t53) fun t54=>isI .i64 t54 fun t54_1=>A2 (cx w0) B6.id [r,(.pv (.int .u8 45)),(.pv (.int .i64 t54_1))] σ'_5 fun r_4 σ'_6=>A2 (cx w0) E3.id [r,(.pv (.str [45,45,45,32])),(.pv (.str [32,45,45,45,45]))] σ'_6 fun r_5 σ'_7=>isTup r_5 fun vs_4=>opt ((vs_4)[0]?) fun t59=>isTup r_5 fun vs_5=>opt ((vs_5)[1]?) fun t60=>isB t60 fun t60_1=>opt (C2 (σ'_7 ++ [.cells 156 (AV.ofValue bq.zero).cells]) bq (.ptr (List.length σ'_7) 0) t59) fun σ'_8=>B1 (!t60_1) (opt (A6 σ'_8 G1 (.ptr (List.length σ'_1) 0)) fun t63=>opt (B2 r) fun t65=>opt (A3 B3 Y3.td t65 1) fun t66=>opt (A6 σ'_8 ti3 t66) fun t67=>isI .i64 t67 fun t67_1=>opt (G4 61 (.pv (.int .i64 100))) fun t68=>opt (C2 σ'_8 G1 (.ptr (List.length σ) 0) t63) fun σ'_9=>((opt (A6 σ'_9 ti3 t66) fun t67_2=>((t67_2:AV)=(.pv (.int .i64 t67_1))))∧(opt (A6 σ'_9 G1 (.ptr (List.length σ) 0)) fun v=>D9 (cx w0) n (.tup [v,(.pv (.int .i64 t67_1)),t68]) σ'_9 R))) (opt (A3 B3 bq.td (.ptr (List.length σ'_7) 0) 1) fun t70=>opt (A6 σ'_8 ti3 t70) fun t71=>isI .i64 t71 fun t71_1=>A2 (cx w0) B6.id [r,(.pv (.int .u8 43)),(.pv (.int .i64 t71_1))] σ'_8 fun r_6 σ'_9=>A2 (cx w0) A8.id [r_4,r_6] σ'_9 fun r_7 σ'_10=>isTup r_7 fun vs_6=>opt ((vs_6)[0]?) fun t77=>isTup r_7 fun vs_7=>opt ((vs_7)[1]?) fun t78=>isB t78 fun t78_1=>opt (A3 B3 G1.td (.ptr (List.length σ'_1) 0) 5) fun t79=>opt (C2 σ'_10 lp t79 t77) fun σ'_11=>B1 (!t78_1) (opt (A6 σ'_11 G1 (.ptr (List.length σ'_1) 0)) fun t82=>opt (G4 61 (.pv (.int .i64 100))) fun t84=>opt (C2 σ'_11 G1 (.ptr (List.length σ) 0) t82) fun σ'_12=>opt (A6 σ'_12 G1 (.ptr (List.length σ) 0)) fun v=>D9 (cx w0) n (.tup [v,(.pv (.int .i64 t19_1)),t84]) σ'_12 R) (opt (A3 B3 G1.td (.ptr (List.length σ'_1) 0) 5) fun t85=>opt (A6 σ'_11 lp t85) fun t86=>opt (R5 lp.td t86) fun t87=>isI .i64 t87 fun t87_1=>n48 Z w0 n R σ'_11 (.ptr (List.length σ) 0) t19_1 (.ptr (List.length σ'_1) 0) (.ptr (List.length σ'_4) 0) (.ptr (List.length σ'_7) 0) t86 t87_1 0)))):=by kernel_rfl
theorem calls(h:b0 (X w0 (List.length σ)) w0 (List.length σ) R σ r):A2 (cx w0) C1.id [r] σ R:=
 D0 (I4 w0) (x:=fe) (S:=A7) (C1.ok w0) (by kernel_rfl) @h
attribute [irreducible] n48 b49 n65 b65 n70 b70 n71 b71 n74 b74 b0
end C1
namespace O6
def lvs:List (List Nat):=[[0,1],[0,1],[0,1],[0,1],[0,1],[0,6],[0],[0],[4],[0],[0],[0],[4]]
def lv:Nat→List Nat:=J8 lvs
noncomputable def code:Code:=F0 Tryz.f102
noncomputable def fe:FE:=⟨Tryz.f102,code,lv⟩
def A7:List Nat:=[]
abbrev X(w0:B4)(n:Nat):XT:=xr (cx w0) 10 lv n
theorem ok(w0:B4):FOK (cx w0) O6.id fe:=⟨Tryz.func102,by kernel_rfl,by kernel_rfl⟩
section
variable (Z:XT)(w0:B4)(n:Nat)(R:RT)(σ:A1)(at_ count:Int)
def b0:Prop:=
 A5 (cx w0) 10 lv n A7 Z code 0 (H3 0 [(.pv (.int .i64 at_)),(.pv (.int .i64 count))]) σ (B9 (cx w0) Tryz.f102 n R)
end
variable {Z:XT}{w0:B4}{n:Nat}{R:RT}{σ τ:A1}{at_ count:Int}
theorem b0_eq:b0 Z w0 n R σ at_ count=(
 B1 (decide ((count:Int)>0)) (D9 (cx w0) n (.pv (.int .i64 (IntKind.wrap .i64 (at_-1)))) σ R) (D9 (cx w0) n (.pv (.int .i64 at_)) σ R)):=by kernel_rfl
theorem calls(h:b0 (X w0 (List.length σ)) w0 (List.length σ) R σ at_ count):A2 (cx w0) O6.id [(.pv (.int .i64 at_)),(.pv (.int .i64 count))] σ R:=
 D0 (I4 w0) (x:=fe) (S:=A7) (O6.ok w0) (by kernel_rfl) @h
attribute [irreducible] b0
end O6
namespace M2
def lvs:List (List Nat):=[[0,1],[0,1],[2,3],[2,3],[4]]
def lv:Nat→List Nat:=J8 lvs
noncomputable def code:Code:=F0 Tryz.f67
noncomputable def fe:FE:=⟨Tryz.f67,code,lv⟩
def A7:List Nat:=[4]
abbrev X(w0:B4)(n:Nat):XT:=xr (cx w0) 35 lv n
theorem ok(w0:B4):FOK (cx w0) M2.id fe:=⟨Tryz.func67,by kernel_rfl,by kernel_rfl⟩
section
variable (Z:XT)(w0:B4)(n:Nat)(R:RT)(σ:A1)(t4:Bool)(g h_:AV)
def n4:Prop:=
 Z (cAt code 4) 4 [(4,(.pv (.bool t4)))] σ (B9 (cx w0) Tryz.f67 n R)
def b4:Prop:=
 A5 (cx w0) 35 lv n A7 Z (cAt code 4) 4 [(4,(.pv (.bool t4)))] σ (B9 (cx w0) Tryz.f67 n R)
def b0:Prop:=
 A5 (cx w0) 35 lv n A7 Z code 0 (H3 0 [g,h_]) σ (B9 (cx w0) Tryz.f67 n R)
end
variable {Z:XT}{w0:B4}{n:Nat}{R:RT}{σ τ:A1}{t4:Bool}{g h_:AV}
theorem b4_eq:b4 Z w0 n R σ t4=(
 D9 (cx w0) n (.pv (.bool t4)) σ R):=by kernel_rfl
theorem n4_in(h:b4 (X w0 n) w0 n R σ t4):n4 (X w0 n) w0 n R σ t4:=E1 (S:=A7) (by kernel_rfl) @h
theorem b0_eq:b0 Z w0 n R σ g h_=(
 ((AV.cells g).all AV.one=true∧(((AV.cells h_).all AV.one=true∧(opt (A3 B3 G1.td (.ptr (List.length (σ ++ [.cells 46 (AV.cells g)])) 0) 0) fun t5=>opt (A6 ((σ ++ [.cells 46 (AV.cells g)]) ++ [.cells 46 (AV.cells h_)]) ti3 t5) fun t6=>isI .i64 t6 fun t6_1=>opt (A3 B3 G1.td (.ptr (List.length (σ ++ [.cells 46 (AV.cells g)])) 0) 1) fun t7=>opt (A6 ((σ ++ [.cells 46 (AV.cells g)]) ++ [.cells 46 (AV.cells h_)]) ti3 t7) fun t8=>isI .i64 t8 fun t8_1=>opt (A3 B3 G1.td (.ptr (List.length σ) 0) 0) fun t10=>opt (A6 ((σ ++ [.cells 46 (AV.cells g)]) ++ [.cells 46 (AV.cells h_)]) ti3 t10) fun t11=>isI .i64 t11 fun t11_1=>opt (A3 B3 G1.td (.ptr (List.length σ) 0) 1) fun t12=>opt (A6 ((σ ++ [.cells 46 (AV.cells g)]) ++ [.cells 46 (AV.cells h_)]) ti3 t12) fun t13=>isI .i64 t13 fun t13_1=>opt (A3 B3 G1.td (.ptr (List.length σ) 0) 1) fun t15=>opt (A6 ((σ ++ [.cells 46 (AV.cells g)]) ++ [.cells 46 (AV.cells h_)]) ti3 t15) fun t16=>isI .i64 t16 fun t16_1=>A2 (cx w0) O6.id [(.pv (.int .i64 t6_1)),(.pv (.int .i64 t8_1))] ((σ ++ [.cells 46 (AV.cells g)]) ++ [.cells 46 (AV.cells h_)]) fun r σ'=>isI .i64 r fun t9=>((opt (A6 σ' ti3 t10) fun t11_2=>((t11_2:AV)=(.pv (.int .i64 t11_1))))∧(((opt (A6 σ' ti3 t12) fun t13_2=>((t13_2:AV)=(.pv (.int .i64 t13_1))))∧(((opt (A6 σ' ti3 t15) fun t16_2=>((t16_2:AV)=(.pv (.int .i64 t16_1))))∧(A2 (cx w0) O6.id [(.pv (.int .i64 t11_1)),(.pv (.int .i64 t13_1))] σ' fun r_1 σ'_1=>isI .i64 r_1 fun t14=>((opt (A6 σ'_1 ti3 t15) fun t16_3=>((t16_3:AV)=(.pv (.int .i64 t16_1))))∧(B1 (decide ((t9:Int)≥(IntKind.wrap .i64 (t14+t16_1)))) (opt (A3 B3 G1.td (.ptr (List.length (σ ++ [.cells 46 (AV.cells g)])) 0) 2) fun t20=>opt (A6 σ'_1 ti3 t20) fun t21=>isI .i64 t21 fun t21_1=>opt (A3 B3 G1.td (.ptr (List.length (σ ++ [.cells 46 (AV.cells g)])) 0) 3) fun t22=>opt (A6 σ'_1 ti3 t22) fun t23=>isI .i64 t23 fun t23_1=>opt (A3 B3 G1.td (.ptr (List.length σ) 0) 2) fun t25=>opt (A6 σ'_1 ti3 t25) fun t26=>isI .i64 t26 fun t26_1=>opt (A3 B3 G1.td (.ptr (List.length σ) 0) 3) fun t27=>opt (A6 σ'_1 ti3 t27) fun t28=>isI .i64 t28 fun t28_1=>opt (A3 B3 G1.td (.ptr (List.length σ) 0) 3) fun t30=>opt (A6 σ'_1 ti3 t30) fun t31=>isI .i64 t31 fun t31_1=>A2 (cx w0) O6.id [(.pv (.int .i64 t21_1)),(.pv (.int .i64 t23_1))] σ'_1 fun r_2 σ'_2=>isI .i64 r_2 fun t24=>((opt (A6 σ'_2 ti3 t25) fun t26_2=>((t26_2:AV)=(.pv (.int .i64 t26_1))))∧(((opt (A6 σ'_2 ti3 t27) fun t28_2=>((t28_2:AV)=(.pv (.int .i64 t28_1))))∧(((opt (A6 σ'_2 ti3 t30) fun t31_2=>((t31_2:AV)=(.pv (.int .i64 t31_1))))∧(A2 (cx w0) O6.id [(.pv (.int .i64 t26_1)),(.pv (.int .i64 t28_1))] σ'_2 fun r_3 σ'_3=>isI .i64 r_3 fun t29=>((opt (A6 σ'_3 ti3 t30) fun t31_3=>((t31_3:AV)=(.pv (.int .i64 t31_1))))∧(n4 Z w0 n R σ'_3 (decide ((t24:Int)≥(IntKind.wrap .i64 (t29+t31_1))))))))))))) (n4 Z w0 n R σ'_1 false)))))))))))))):=by kernel_rfl
theorem calls(h:b0 (X w0 (List.length σ)) w0 (List.length σ) R σ g h_):A2 (cx w0) M2.id [g,h_] σ R:=
 D0 (I4 w0) (x:=fe) (S:=A7) (M2.ok w0) (by kernel_rfl) @h
attribute [irreducible] n4 b4 b0
end M2
namespace C6
def lvs:List (List Nat):=[[0],[0],[0,2,3],[0,2,3],[0,2,3,8],[0,2,3,8],[0,2,3,8],[0,2,3,8,29],[2,3,8],[2,3,8],[2,3,4,5,6,7],[0,2,3,8],[0,2,3,8],[0,2,3,8],[0,2,3,8,9],[0,2,3,8,9],[0,2,3,8,9],[0,2,3,8,9,10],[0,2,3,8,9,10],[0,2,3,8,9,10,53],[0,2,3,8,9,10],[0,2,3,8,9],[0,2,3,8,9],[0,2,3,8,9],[0,2,3,8,11],[0,2,3,8,11],[0,2,3,8,11,12,13],[0,2,3,8,11,12,13],[0,2,3,8,11,12,13],[0,2,3,8,11,12,70],[2,3,8],[2,3,8],[2,3,4,5,6,7],[0,2,3,8,11,12],[0,2,3,8,11,12],[0,2,3,8,11,12],[0,2,3,8,11,12,13,14],[0,2,3,8,11,12,13,14],[0,2,3,8,11,12,13,14],[0,2,3,8,11,12,14,86],[2,3,8],[2,3,8],[2,3,4,5,6,7],[0,2,3,8,11,12,14],[0,2,3,8,11,12,14],[0,2,3,8,11,12,14],[0,2,3,8,11,12,14,15],[0,2,3,8,11,12,14,15],[0,2,3,8,11,12,14,15],[0,2,3,8,11,12,14,15],[0,2,3,8,11,12,14,15],[0,2,3,8,11,12,14,15],[0,2,3,8,11,12,14,15,16],[0,2,3,8,11,12,14,15,16],[0,2,3,8,11,12,14,15,18,19],[0,2,3,8,11,12,14,15,18,19],[0,2,3,8,11,12,14,15,18,19],[0,2,3,8,11,12,14,15,116],[0,2,3,8,11,12,14,15],[0,2,3,8,11,12,14,15],[0,2,3,8,11,12,14,15],[0,2,3,8,11,12,14,15],[0,2,3,8,11,12,14,15,20,21,22],[0,2,3,8,11,12,14,15,20,21,22],[0,2,3,8,11,12,14,15,20,21,22],[0,2,3,8,11,12,14,15,20,21,22,124],[2,3,8,21,22],[2,3,8,21,22],[2,3,4,5,6,7],[0,2,3,8,11,12,14,15,20,21],[0,2,3,8,11,12,14,15,20,21],[0,2,3,8,11,12,14,15,20,21],[0,2,3,8,11,12,14,15,20,21],[0,2,3,8,11,12,14,15,20,21,23],[0,2,3,8,11,12,14,15,20,21,23],[0,2,3,8,11,12,14,15,20,21,149],[2,3,8,21],[2,3,8,21],[2,3,4,5,6,7],[0,2,3,8,11,12,14,15,20],[0,2,3,8,11,12,14,15,20],[0,2,3,8,11,12,14,15],[0,2,3,8,11,12,14,15],[0,2,3,8,11,12,14,15],[0,2,3,8,11,12,14,15,167],[2,3,8,11],[2,3,8,11],[2,3,4,5,6,7],[0,2,3,11,12,14,15],[0,2,3,11,12,14,15],[0,2,3,11,12,14,15],[0,2,3,11,12,14,15,24],[0,2,3,11,12,14,15,24],[0,2,3,11,12,14,15,24],[0,2,3,12,14,15,24,190,191,192],[0,2,3,12,14,15,24,190,191,192],[0,2,3,12,14,15,24,190,191,192],[0,2,3,12,14,15,24,190,191,192],[0,2,3,12,14,15,24,190,191,192,193],[0,2,3,12,14,15,24,190,191,192,193],[0,2,3,12,14,15,24,190,191,192],[0,2,3,12,14,15,24],[0,2,3,12,14,15,24,190,191,192],[0,2,3,12,14,15,24,190,191,192],[0,2,3,12,14,15,24,190,191,192],[0,2,3,12,14,15,24,190,191,192],[0,2,3,12,14,15,24,26,190,191,192],[0,2,3,12,14,15,24,190,191,192],[0,2,3,12,14,15,24],[0,2,3,12,14,15,24],[2,3,4,5,6,7]]
def lv:Nat→List Nat:=J8 lvs
noncomputable def code:Code:=F0 Tryz.f27
noncomputable def fe:FE:=⟨Tryz.f27,code,lv⟩
def A7:List Nat:=[19,22,49,57,75,81,96,108]
abbrev X(w0:B4)(n:Nat):XT:=xr (cx w0) 210 lv n
theorem ok(w0:B4):FOK (cx w0) C6.id fe:=⟨Tryz.func27,by kernel_rfl,by kernel_rfl⟩
section
variable (Z:XT)(w0:B4)(n:Nat)(R:RT)(σ:A1)(text:List UInt8)(t2 t3 bad l_:AV)(n_:Int)(t53:Bool)(r old fresh out:AV)(t116:Bool)(h_:AV)(line:Int)(t149:Bool)(skip:Int)(t190:AV)(t191 t192:Int)
def q15:QT:=F2 (fun env σ=>Z (cAt code 22) 22 (prune (lv 22) env) σ (B9 (cx w0) Tryz.f27 n R)) (B9 (cx w0) Tryz.f27 n R)
def q47:QT:=F2 (fun env σ=>Z (cAt code 81) 81 (prune (lv 81) env) σ (B9 (cx w0) Tryz.f27 n R)) (B9 (cx w0) Tryz.f27 n R)
def q48:QT:=I3 0 (q47 Z w0 n R)
def q49:QT:=F2 (fun env σ=>Z (cAt code 48) 48 (prune (lv 48) env) σ (q48 Z w0 n R)) (q48 Z w0 n R)
def q50:QT:=I3 1 (q49 Z w0 n R)
def q55:QT:=F2 (fun env σ=>A5 (cx w0) 210 lv n A7 Z (cAt code 60) 60 (prune (lv 60) env) σ (q50 Z w0 n R)) (q50 Z w0 n R)
def q71:QT:=F2 (fun env σ=>A5 (cx w0) 210 lv n A7 Z (cAt code 80) 80 (prune (lv 80) env) σ (q50 Z w0 n R)) (q50 Z w0 n R)
def q92:QT:=F2 (fun env σ=>Z (cAt code 108) 108 (prune (lv 108) env) σ (B9 (cx w0) Tryz.f27 n R)) (B9 (cx w0) Tryz.f27 n R)
def q95:QT:=I3 2 (q92 Z w0 n R)
def q96:QT:=F2 (fun env σ=>Z (cAt code 95) 95 (prune (lv 95) env) σ (q95 Z w0 n R)) (q95 Z w0 n R)
def n19:Prop:=
 Z (cAt code 19) 19 [(0,(.pv (.str text))),(2,t2),(3,t3),(8,bad),(9,l_),(10,(.pv (.int .i64 n_))),(53,(.pv (.bool t53)))] σ (q15 Z w0 n R)
def b19:Prop:=
 A5 (cx w0) 210 lv n A7 Z (cAt code 19) 19 [(0,(.pv (.str text))),(2,t2),(3,t3),(8,bad),(9,l_),(10,(.pv (.int .i64 n_))),(53,(.pv (.bool t53)))] σ (q15 Z w0 n R)
def n22:Prop:=
 Z (cAt code 22) 22 [(0,(.pv (.str text))),(2,t2),(3,t3),(8,bad),(9,l_)] σ (B9 (cx w0) Tryz.f27 n R)
def b22:Prop:=
 A5 (cx w0) 210 lv n A7 Z (cAt code 22) 22 [(0,(.pv (.str text))),(2,t2),(3,t3),(8,bad),(9,l_)] σ (B9 (cx w0) Tryz.f27 n R)
def n48:Prop:=
 Z (cAt code 48) 48 [(0,(.pv (.str text))),(2,t2),(3,t3),(8,bad),(11,r),(12,old),(14,fresh),(15,out)] σ (q48 Z w0 n R)
def b49:Prop:=
 A5 (cx w0) 210 lv n A7 Z (cAt code 49) 49 [(0,(.pv (.str text))),(2,t2),(3,t3),(8,bad),(11,r),(12,old),(14,fresh),(15,out)] σ (q49 Z w0 n R)
def n57:Prop:=
 Z (cAt code 57) 57 [(0,(.pv (.str text))),(2,t2),(3,t3),(8,bad),(11,r),(12,old),(14,fresh),(15,out),(116,(.pv (.bool t116)))] σ (q55 Z w0 n R)
def b57:Prop:=
 A5 (cx w0) 210 lv n A7 Z (cAt code 57) 57 [(0,(.pv (.str text))),(2,t2),(3,t3),(8,bad),(11,r),(12,old),(14,fresh),(15,out),(116,(.pv (.bool t116)))] σ (q55 Z w0 n R)
def n75:Prop:=
 Z (cAt code 75) 75 [(0,(.pv (.str text))),(2,t2),(3,t3),(8,bad),(11,r),(12,old),(14,fresh),(15,out),(20,h_),(21,(.pv (.int .i64 line))),(149,(.pv (.bool t149)))] σ (q71 Z w0 n R)
def b75:Prop:=
 A5 (cx w0) 210 lv n A7 Z (cAt code 75) 75 [(0,(.pv (.str text))),(2,t2),(3,t3),(8,bad),(11,r),(12,old),(14,fresh),(15,out),(20,h_),(21,(.pv (.int .i64 line))),(149,(.pv (.bool t149)))] σ (q71 Z w0 n R)
def n81:Prop:=
 Z (cAt code 81) 81 [(0,(.pv (.str text))),(2,t2),(3,t3),(8,bad),(11,r),(12,old),(14,fresh),(15,out)] σ (B9 (cx w0) Tryz.f27 n R)
def b81:Prop:=
 A5 (cx w0) 210 lv n A7 Z (cAt code 81) 81 [(0,(.pv (.str text))),(2,t2),(3,t3),(8,bad),(11,r),(12,old),(14,fresh),(15,out)] σ (B9 (cx w0) Tryz.f27 n R)
def n95:Prop:=
 Z (cAt code 95) 95 [(0,(.pv (.str text))),(2,t2),(3,t3),(12,old),(14,fresh),(15,out),(24,(.pv (.int .i64 skip))),(190,t190),(191,(.pv (.int .i64 t191))),(192,(.pv (.int .i64 t192)))] σ (q95 Z w0 n R)
def b96:Prop:=
 A5 (cx w0) 210 lv n A7 Z (cAt code 96) 96 [(0,(.pv (.str text))),(2,t2),(3,t3),(12,old),(14,fresh),(15,out),(24,(.pv (.int .i64 skip))),(190,t190),(191,(.pv (.int .i64 t191))),(192,(.pv (.int .i64 t192)))] σ (q96 Z w0 n R)
def n108:Prop:=
 Z (cAt code 108) 108 [(0,(.pv (.str text))),(2,t2),(3,t3),(12,old),(14,fresh),(15,out),(24,(.pv (.int .i64 skip)))] σ (B9 (cx w0) Tryz.f27 n R)
def b108:Prop:=
 A5 (cx w0) 210 lv n A7 Z (cAt code 108) 108 [(0,(.pv (.str text))),(2,t2),(3,t3),(12,old),(14,fresh),(15,out),(24,(.pv (.int .i64 skip)))] σ (B9 (cx w0) Tryz.f27 n R)
def b0:Prop:=
 A5 (cx w0) 210 lv n A7 Z code 0 (H3 0 [(.pv (.str text))]) σ (B9 (cx w0) Tryz.f27 n R)
end
variable {Z:XT}{w0:B4}{n:Nat}{R:RT}{σ τ:A1}{text text':List UInt8}{t2 t3 bad l_ r old fresh out h_ t190 t2' t3' bad' r' old' fresh' out' t190':AV}{n_ line skip t191 t192 skip' t191' t192':Int}{t53 t116 t149:Bool}
theorem b19_eq:b19 Z w0 n R σ text t2 t3 bad l_ n_ t53=(
 B1 t53 (opt (D1 σ B3 J7.td l_ (IntKind.wrap .i64 (n_-1))) fun t57=>opt (A6 σ ti9 t57) fun t58=>isS t58 fun t58_1=>(List.length (t58_1:List UInt8)+List.length ([10]:List UInt8)≤9223372036854775807∧(opt (D1 σ B3 J7.td l_ (IntKind.wrap .i64 (n_-1))) fun t60=>opt (C2 σ ti9 t60 (.pv (.str (t58_1 ++ [10])))) fun σ'=>n22 Z w0 n R σ' text t2 t3 bad l_))) (n22 Z w0 n R σ text t2 t3 bad l_)):=by kernel_rfl
theorem n19_in(h:b19 (X w0 n) w0 n R σ text t2 t3 bad l_ n_ t53):n19 (X w0 n) w0 n R σ text t2 t3 bad l_ n_ t53:=E1 (S:=A7) (by kernel_rfl) @h
theorem b22_eq:b22 Z w0 n R σ text t2 t3 bad l_=(
 opt (N3 B3 Y3 [(0,l_)]) fun t62=>((AV.cells t62).all AV.one=true∧(A2 (cx w0) I1.id [(.ptr (List.length σ) 0),(.pv (.str [42,42,42,32]))] (σ ++ [.cells 117 (AV.cells t62)]) fun r σ'=>isTup r fun vs=>opt ((vs)[0]?) fun t67=>isTup r fun vs_1=>opt ((vs_1)[1]?) fun t68=>isB t68 fun t68_1=>opt (C2 (σ' ++ [.cells 28 (AV.ofValue F1.zero).cells]) F1 (.ptr (List.length σ') 0) t67) fun σ'_1=>B1 (!t68_1) (opt (G4 61 (.pv (.int .i64 110))) fun t72=>opt (eg bad [(.pv (.int .i64 1)),t72]) fun p=>A2 (cx w0) (Prod.fst p) (Prod.snd p) σ'_1 fun r_1 σ'_2=>isTup r_1 fun vs_2=>opt ((vs_2)[0]?) fun t74=>isTup r_1 fun vs_3=>opt ((vs_3)[1]?) fun t75=>isTup r_1 fun vs_4=>opt ((vs_4)[2]?) fun t76=>isTup r_1 fun vs_5=>opt ((vs_5)[3]?) fun t77=>isS t77 fun t77_1=>isTup r_1 fun vs_6=>opt ((vs_6)[4]?) fun t78=>isI .i64 t78 fun t78_1=>isTup r_1 fun vs_7=>opt ((vs_7)[5]?) fun t79=>opt (C2 σ'_2 F1 t2 t74) fun σ'_3=>opt (C2 σ'_3 F1 t3 t75) fun σ'_4=>opt (A6 σ'_4 F1 t2) fun v=>opt (A6 σ'_4 F1 t3) fun v_1=>D9 (cx w0) n (.tup [v,v_1,t76,(.pv (.str t77_1)),(.pv (.int .i64 t78_1)),t79]) σ'_4 R) (A2 (cx w0) I1.id [(.ptr (List.length σ) 0),(.pv (.str [45,45,45,32]))] σ'_1 fun r_1 σ'_2=>isTup r_1 fun vs_2=>opt ((vs_2)[0]?) fun t83=>isTup r_1 fun vs_3=>opt ((vs_3)[1]?) fun t84=>isB t84 fun t84_1=>opt (C2 (σ'_2 ++ [.cells 28 (AV.ofValue F1.zero).cells]) F1 (.ptr (List.length σ'_2) 0) t83) fun σ'_3=>B1 (!t84_1) (opt (G4 61 (.pv (.int .i64 110))) fun t88=>opt (eg bad [(.pv (.int .i64 2)),t88]) fun p=>A2 (cx w0) (Prod.fst p) (Prod.snd p) σ'_3 fun r_2 σ'_4=>isTup r_2 fun vs_4=>opt ((vs_4)[0]?) fun t90=>isTup r_2 fun vs_5=>opt ((vs_5)[1]?) fun t91=>isTup r_2 fun vs_6=>opt ((vs_6)[2]?) fun t92=>isTup r_2 fun vs_7=>opt ((vs_7)[3]?) fun t93=>isS t93 fun t93_1=>isTup r_2 fun vs_8=>opt ((vs_8)[4]?) fun t94=>isI .i64 t94 fun t94_1=>isTup r_2 fun vs_9=>opt ((vs_9)[5]?) fun t95=>opt (C2 σ'_4 F1 t2 t90) fun σ'_5=>opt (C2 σ'_5 F1 t3 t91) fun σ'_6=>opt (A6 σ'_6 F1 t2) fun v=>opt (A6 σ'_6 F1 t3) fun v_1=>D9 (cx w0) n (.tup [v,v_1,t92,(.pv (.str t93_1)),(.pv (.int .i64 t94_1)),t95]) σ'_6 R) (n48 Z w0 n R σ'_3 text t2 t3 bad (.ptr (List.length σ) 0) (.ptr (List.length σ') 0) (.ptr (List.length σ'_2) 0) .nilsl))))):=by kernel_rfl
theorem n22_in(h:b22 (X w0 n) w0 n R σ text t2 t3 bad l_):n22 (X w0 n) w0 n R σ text t2 t3 bad l_:=E1 (S:=A7) (by kernel_rfl) @h
theorem n48_in(h:b49 (X w0 n) w0 n R σ text t2 t3 bad r old fresh out):n48 (X w0 n) w0 n R σ text t2 t3 bad r old fresh out:=J9 (I4 w0) (S:=A7) (by kernel_rfl:cAt code 48 = .loop (cAt code 49)) @h
theorem n48_weak(e:N2 (cx w0) n [(0,(.pv (.str text))),(2,t2),(3,t3),(8,bad),(11,r),(12,old),(14,fresh),(15,out)] σ [(0,(.pv (.str text'))),(2,t2'),(3,t3'),(8,bad'),(11,r'),(12,old'),(14,fresh'),(15,out')] τ)(h:n48 (X w0 n) w0 n R τ text' t2' t3' bad' r' old' fresh' out'):n48 (X w0 n) w0 n R σ text t2 t3 bad r old fresh out:=U3 (L:=lv) (k:=48) (by kernel_rfl:cAt code 48 = .loop (cAt code 49)) @e @h
theorem b49_eq:b49 Z w0 n R σ text t2 t3 bad r old fresh out=(
 A2 (cx w0) I8.id [r] σ fun r_1 σ'=>isTup r_1 fun vs=>opt ((vs)[0]?) fun t99=>isS t99 fun t99_1=>isTup r_1 fun vs_1=>opt ((vs_1)[1]?) fun t100=>isB t100 fun t100_1=>A2 (cx w0) E8.id [(.pv (.str t99_1)),(.pv (.str [42,42,42,42,42,42,42,42,42,42,42,42,42,42,42]))] σ' fun r_2 σ'_1=>isTup r_2 fun vs_2=>opt ((vs_2)[0]?) fun t104=>isS t104 fun t104_1=>isTup r_2 fun vs_3=>opt ((vs_3)[1]?) fun t105=>isB t105 fun t105_1=>B1 (!t105_1) (n57 Z w0 n R σ'_1 text t2 t3 bad r old fresh out true) (B1 (!((t104_1:List UInt8) == [])) (opt (L7 B3 ti9.td (.pv (.str t104_1)) 0) fun t113=>isI .u8 t113 fun t113_1=>n57 Z w0 n R σ'_1 text t2 t3 bad r old fresh out ((t113_1:Int) != 32)) (n57 Z w0 n R σ'_1 text t2 t3 bad r old fresh out false))):=by kernel_rfl
theorem b57_eq:b57 Z w0 n R σ text t2 t3 bad r old fresh out t116=(
 B1 t116 (n81 Z w0 n R σ text t2 t3 bad r old fresh out) (A2 (cx w0) C1.id [r] σ fun r_1 σ'=>isTup r_1 fun vs=>opt ((vs)[0]?) fun t120=>isTup r_1 fun vs_1=>opt ((vs_1)[1]?) fun t121=>isI .i64 t121 fun t121_1=>isTup r_1 fun vs_2=>opt ((vs_2)[2]?) fun t122=>opt (C2 (σ' ++ [.cells 46 (AV.ofValue G1.zero).cells]) G1 (.ptr (List.length σ') 0) t120) fun σ'_1=>Q9 B3 24 true .neq t122 (.pv (.raw .nilIface)) fun v=>isB v fun b=>B1 b (opt (eg bad [(.pv (.int .i64 (IntKind.wrap .i64 (t121_1+1)))),t122]) fun p=>A2 (cx w0) (Prod.fst p) (Prod.snd p) σ'_1 fun r_2 σ'_2=>isTup r_2 fun vs_3=>opt ((vs_3)[0]?) fun t130=>isTup r_2 fun vs_4=>opt ((vs_4)[1]?) fun t131=>isTup r_2 fun vs_5=>opt ((vs_5)[2]?) fun t132=>isTup r_2 fun vs_6=>opt ((vs_6)[3]?) fun t133=>isS t133 fun t133_1=>isTup r_2 fun vs_7=>opt ((vs_7)[4]?) fun t134=>isI .i64 t134 fun t134_1=>isTup r_2 fun vs_8=>opt ((vs_8)[5]?) fun t135=>opt (C2 σ'_2 F1 t2 t130) fun σ'_3=>opt (C2 σ'_3 F1 t3 t131) fun σ'_4=>opt (A6 σ'_4 F1 t2) fun v_1=>opt (A6 σ'_4 F1 t3) fun v_2=>D9 (cx w0) n (.tup [v_1,v_2,t132,(.pv (.str t133_1)),(.pv (.int .i64 t134_1)),t135]) σ'_4 R) (opt (R5 ti29.td out) fun t137=>isI .i64 t137 fun t137_1=>B1 (decide ((t137_1:Int)>0)) (opt (D1 σ'_1 B3 ti29.td out (IntKind.wrap .i64 (t137_1-1))) fun t144=>opt (A6 σ'_1 G1 t144) fun t145=>opt (A6 σ'_1 G1 (.ptr (List.length σ') 0)) fun t146=>A2 (cx w0) M2.id [t145,t146] σ'_1 fun r_2 σ'_2=>isB r_2 fun t147=>n75 Z w0 n R σ'_2 text t2 t3 bad r old fresh out (.ptr (List.length σ') 0) t121_1 (!t147)) (n75 Z w0 n R σ'_1 text t2 t3 bad r old fresh out (.ptr (List.length σ') 0) t121_1 false)))):=by kernel_rfl
theorem n57_in(h:b57 (X w0 n) w0 n R σ text t2 t3 bad r old fresh out t116):n57 (X w0 n) w0 n R σ text t2 t3 bad r old fresh out t116:=E1 (S:=A7) (by kernel_rfl) @h
theorem b75_eq:b75 Z w0 n R σ text t2 t3 bad r old fresh out h_ line t149=(
 B1 t149 (opt (G4 61 (.pv (.int .i64 112))) fun t153=>opt (eg bad [(.pv (.int .i64 (IntKind.wrap .i64 (line+1)))),t153]) fun p=>A2 (cx w0) (Prod.fst p) (Prod.snd p) σ fun r_1 σ'=>isTup r_1 fun vs=>opt ((vs)[0]?) fun t155=>isTup r_1 fun vs_1=>opt ((vs_1)[1]?) fun t156=>isTup r_1 fun vs_2=>opt ((vs_2)[2]?) fun t157=>isTup r_1 fun vs_3=>opt ((vs_3)[3]?) fun t158=>isS t158 fun t158_1=>isTup r_1 fun vs_4=>opt ((vs_4)[4]?) fun t159=>isI .i64 t159 fun t159_1=>isTup r_1 fun vs_5=>opt ((vs_5)[5]?) fun t160=>opt (C2 σ' F1 t2 t155) fun σ'_1=>opt (C2 σ'_1 F1 t3 t156) fun σ'_2=>opt (A6 σ'_2 F1 t2) fun v=>opt (A6 σ'_2 F1 t3) fun v_1=>D9 (cx w0) n (.tup [v,v_1,t157,(.pv (.str t158_1)),(.pv (.int .i64 t159_1)),t160]) σ'_2 R) (opt (A6 σ G1 h_) fun t162=>opt2 (H9 σ G1 false 1 [(0,t162)]) fun t163 σ'=>opt2 (L0 σ' G1 out t163) fun t164 σ'_1=>n48 Z w0 n R σ'_1 text t2 t3 bad r old fresh t164)):=by kernel_rfl
theorem n75_in(h:b75 (X w0 n) w0 n R σ text t2 t3 bad r old fresh out h_ line t149):n75 (X w0 n) w0 n R σ text t2 t3 bad r old fresh out h_ line t149:=E1 (S:=A7) (by kernel_rfl) @h
theorem b81_eq:b81 Z w0 n R σ text t2 t3 bad r old fresh out=(
 opt (R5 ti29.td out) fun t166=>isI .i64 t166 fun t166_1=>B1 ((t166_1:Int)==0) (opt (B2 r) fun t170=>opt (A3 B3 Y3.td t170 1) fun t171=>opt (A6 σ ti3 t171) fun t172=>isI .i64 t172 fun t172_1=>opt (G4 61 (.pv (.int .i64 100))) fun t174=>opt (eg bad [(.pv (.int .i64 (IntKind.wrap .i64 (t172_1+1)))),t174]) fun p=>A2 (cx w0) (Prod.fst p) (Prod.snd p) σ fun r_1 σ'=>isTup r_1 fun vs=>opt ((vs)[0]?) fun t176=>isTup r_1 fun vs_1=>opt ((vs_1)[1]?) fun t177=>isTup r_1 fun vs_2=>opt ((vs_2)[2]?) fun t178=>isTup r_1 fun vs_3=>opt ((vs_3)[3]?) fun t179=>isS t179 fun t179_1=>isTup r_1 fun vs_4=>opt ((vs_4)[4]?) fun t180=>isI .i64 t180 fun t180_1=>isTup r_1 fun vs_5=>opt ((vs_5)[5]?) fun t181=>opt (C2 σ' F1 t2 t176) fun σ'_1=>opt (C2 σ'_1 F1 t3 t177) fun σ'_2=>opt (A6 σ'_2 F1 t2) fun v=>opt (A6 σ'_2 F1 t3) fun v_1=>D9 (cx w0) n (.tup [v,v_1,t178,(.pv (.str t179_1)),(.pv (.int .i64 t180_1)),t181]) σ'_2 R) (opt (B2 r) fun t183=>opt (A3 B3 Y3.td t183 0) fun t184=>opt (A6 σ J7 t184) fun t185=>opt (B2 r) fun t187=>opt (A3 B3 Y3.td t187 1) fun t188=>opt (A6 σ ti3 t188) fun t189=>isI .i64 t189 fun t189_1=>opt (G7 σ B3 J7.td t185 none (some (.pv (.int .i64 t189_1)))) fun t190=>opt (R5 J7.td t190) fun t191=>isI .i64 t191 fun t191_1=>n95 Z w0 n R σ text t2 t3 old fresh out 0 t190 t191_1 0)):=by kernel_rfl
theorem n81_in(h:b81 (X w0 n) w0 n R σ text t2 t3 bad r old fresh out):n81 (X w0 n) w0 n R σ text t2 t3 bad r old fresh out:=E1 (S:=A7) (by kernel_rfl) @h
theorem n95_in(h:b96 (X w0 n) w0 n R σ text t2 t3 old fresh out skip t190 t191 t192):n95 (X w0 n) w0 n R σ text t2 t3 old fresh out skip t190 t191 t192:=J9 (I4 w0) (S:=A7) (by kernel_rfl:cAt code 95 = .loop (cAt code 96)) @h
theorem b96_eq:b96 Z w0 n R σ text t2 t3 old fresh out skip t190 t191 t192=(
 B1 (decide ((t192:Int)<t191)) (opt (D1 σ B3 J7.td t190 t192) fun t194=>opt (A6 σ ti9 t194) fun t195=>isS t195 fun t195_1=>n95 Z w0 n R σ text t2 t3 old fresh out (IntKind.wrap .i64 (skip+(List.length (t195_1:List UInt8):Int))) t190 t191 (IntKind.wrap .i64 (t192+1))) (n108 Z w0 n R σ text t2 t3 old fresh out skip)):=by kernel_rfl
theorem b108_eq:b108 Z w0 n R σ text t2 t3 old fresh out skip=(
 opt (A6 σ F1 old) fun t201=>opt (A6 σ F1 fresh) fun t202=>opt (G7 σ B3 ti9.td (.pv (.str text)) (some (.pv (.int .i64 (if ((List.length (text:List UInt8):Int):Int)<skip then (List.length (text:List UInt8):Int) else skip)))) none) fun t209=>isS t209 fun t209_1=>opt (C2 σ F1 t2 t201) fun σ'=>((opt (A6 σ' F1 fresh) fun t202_1=>((t202_1:AV)=t202))∧(((opt (G7 σ' B3 ti9.td (.pv (.str text)) (some (.pv (.int .i64 (if ((List.length (text:List UInt8):Int):Int)<skip then (List.length (text:List UInt8):Int) else skip)))) none) fun t209_2=>((t209_2:AV)=(.pv (.str t209_1))))∧(opt (C2 σ' F1 t3 t202) fun σ'_1=>((opt (G7 σ'_1 B3 ti9.td (.pv (.str text)) (some (.pv (.int .i64 (if ((List.length (text:List UInt8):Int):Int)<skip then (List.length (text:List UInt8):Int) else skip)))) none) fun t209_3=>((t209_3:AV)=(.pv (.str t209_1))))∧(((opt (G7 σ'_1 B3 ti9.td (.pv (.str text)) (some (.pv (.int .i64 (if ((List.length (text:List UInt8):Int):Int)<skip then (List.length (text:List UInt8):Int) else skip)))) none) fun t209_4=>((t209_4:AV)=(.pv (.str t209_1))))∧(opt (A6 σ'_1 F1 t2) fun v=>opt (A6 σ'_1 F1 t3) fun v_1=>D9 (cx w0) n (.tup [v,v_1,out,(.pv (.str t209_1)),(.pv (.int .i64 0)),(.pv (.raw .nilIface))]) σ'_1 R))))))))):=by kernel_rfl
theorem n108_in(h:b108 (X w0 n) w0 n R σ text t2 t3 old fresh out skip):n108 (X w0 n) w0 n R σ text t2 t3 old fresh out skip:=E1 (S:=A7) (by kernel_rfl) @h
theorem b0_eq:b0 Z w0 n R σ text=(
 B1 (decide (((List.length (text:List UInt8):Int):Int)>4194304)) (opt (G4 61 (.pv (.int .i64 2))) fun t31=>A2 (cx w0) O9.id [(.pv (.int .i64 0)),t31] ((σ ++ [.cells 28 (AV.ofValue F1.zero).cells]) ++ [.cells 28 (AV.ofValue F1.zero).cells]) fun r σ'=>isTup r fun vs=>opt ((vs)[0]?) fun t33=>isTup r fun vs_1=>opt ((vs_1)[1]?) fun t34=>isTup r fun vs_2=>opt ((vs_2)[2]?) fun t35=>isTup r fun vs_3=>opt ((vs_3)[3]?) fun t36=>isS t36 fun t36_1=>isTup r fun vs_4=>opt ((vs_4)[4]?) fun t37=>isI .i64 t37 fun t37_1=>isTup r fun vs_5=>opt ((vs_5)[5]?) fun t38=>opt (C2 σ' F1 (.ptr (List.length σ) 0) t33) fun σ'_1=>opt (C2 σ'_1 F1 (.ptr (List.length (σ ++ [.cells 28 (AV.ofValue F1.zero).cells])) 0) t34) fun σ'_2=>opt (A6 σ'_2 F1 (.ptr (List.length σ) 0)) fun v=>opt (A6 σ'_2 F1 (.ptr (List.length (σ ++ [.cells 28 (AV.ofValue F1.zero).cells])) 0)) fun v_1=>D9 (cx w0) n (.tup [v,v_1,t35,(.pv (.str t36_1)),(.pv (.int .i64 t37_1)),t38]) σ'_2 R) (A2 (cx w0) C9.id [(.pv (.str text))] ((σ ++ [.cells 28 (AV.ofValue F1.zero).cells]) ++ [.cells 28 (AV.ofValue F1.zero).cells]) fun r σ'=>opt (R5 J7.td r) fun t42=>isI .i64 t42 fun t42_1=>B1 (decide ((t42_1:Int)>0)) (opt (D1 σ' B3 J7.td r (IntKind.wrap .i64 (t42_1-1))) fun t49=>opt (A6 σ' ti9 t49) fun t50=>isS t50 fun t50_1=>A2 (cx w0) M4.id [(.pv (.str t50_1))] σ' fun r_1 σ'_1=>isB r_1 fun t51=>n19 Z w0 n R σ'_1 text (.ptr (List.length σ) 0) (.ptr (List.length (σ ++ [.cells 28 (AV.ofValue F1.zero).cells])) 0) (.pv (.raw (.func (.func 62) #[] #[]))) r t42_1 (!t51)) (n19 Z w0 n R σ' text (.ptr (List.length σ) 0) (.ptr (List.length (σ ++ [.cells 28 (AV.ofValue F1.zero).cells])) 0) (.pv (.raw (.func (.func 62) #[] #[]))) r t42_1 false))):=by kernel_rfl
theorem calls(h:b0 (X w0 (List.length σ)) w0 (List.length σ) R σ text):A2 (cx w0) C6.id [(.pv (.str text))] σ R:=
 D0 (I4 w0) (x:=fe) (S:=A7) (C6.ok w0) (by kernel_rfl) @h
attribute [irreducible] n19 b19 n22 b22 n48 b49 n57 b57 n75 b75 n81 b81 n95 b96 n108 b108 b0
end C6
end Go.Sv
