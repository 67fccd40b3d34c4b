/- What the code of Go functions comes to over abstract stores, piece by piece; each equation by the kernel. Printed by a program of this session. -/
import Derived.Test.YtgdnoobpnhmpjaaGreatDoorSvT
import Derived.KernelRfl
set_option linter.unusedVariables false
set_option maxRecDepth 100000
namespace Go.Sv
attribute [local irreducible] A5 V7 xr
open Go Go.Proofs
namespace normal_number
def lvs:List (List Nat):=[[0],[0],[0],[0],[0,5,6],[0,5,6],[0,5,6],[0,5,6],[0,5,6],[0,5,6],[0,5,6,22],[0,5,6],[0,5,6],[0,5,6],[0,5,6],[0,5,6],[0,5,6],[0,5,6],[0,5,6],[2,3,4]]
def lv:Nat→List Nat:=J8 lvs
noncomputable def code:Code:=F0 Tryz.f168
noncomputable def fe:FE:=⟨Tryz.f168,code,lv⟩
def A7:List Nat:=[7,10,17,19]
abbrev X(w0:B4)(n:Nat):XT:=xr (cx w0) 44 lv n
theorem ok(w0:B4):FOK (cx w0) normal_number.id fe:=⟨Tryz.func168,by kernel_rfl,by kernel_rfl⟩
section
variable (Z:XT)(w0:B4)(n:Nat)(R:RT)(σ:A1)(s:List UInt8)(n_ i:Int)(t22:Bool)(t2:Int)(t3:List UInt8)(t4:Bool)
def q5:QT:=F2 (fun env σ=>Z (cAt code 17) 17 (prune (lv 17) env) σ (B9 (cx w0) Tryz.f168 n R)) (B9 (cx w0) Tryz.f168 n R)
def q6:QT:=I3 0 (q5 Z w0 n R)
def q7:QT:=F2 (fun env σ=>Z (cAt code 6) 6 (prune (lv 6) env) σ (q6 Z w0 n R)) (q6 Z w0 n R)
def q8:QT:=F2 (fun env σ=>A5 (cx w0) 44 lv n A7 Z (cAt code 13) 13 (prune (lv 13) env) σ (q7 Z w0 n R)) (q7 Z w0 n R)
def n6:Prop:=
 Z (cAt code 6) 6 [(0,(.pv (.str s))),(5,(.pv (.int .i64 n_))),(6,(.pv (.int .i64 i)))] σ (q6 Z w0 n R)
def b7:Prop:=
 A5 (cx w0) 44 lv n A7 Z (cAt code 7) 7 [(0,(.pv (.str s))),(5,(.pv (.int .i64 n_))),(6,(.pv (.int .i64 i)))] σ (q7 Z w0 n R)
def n10:Prop:=
 Z (cAt code 10) 10 [(0,(.pv (.str s))),(5,(.pv (.int .i64 n_))),(6,(.pv (.int .i64 i))),(22,(.pv (.bool t22)))] σ (q8 Z w0 n R)
def b10:Prop:=
 A5 (cx w0) 44 lv n A7 Z (cAt code 10) 10 [(0,(.pv (.str s))),(5,(.pv (.int .i64 n_))),(6,(.pv (.int .i64 i))),(22,(.pv (.bool t22)))] σ (q8 Z w0 n R)
def n17:Prop:=
 Z (cAt code 17) 17 [(0,(.pv (.str s))),(5,(.pv (.int .i64 n_))),(6,(.pv (.int .i64 i)))] σ (B9 (cx w0) Tryz.f168 n R)
def b17:Prop:=
 A5 (cx w0) 44 lv n A7 Z (cAt code 17) 17 [(0,(.pv (.str s))),(5,(.pv (.int .i64 n_))),(6,(.pv (.int .i64 i)))] σ (B9 (cx w0) Tryz.f168 n R)
def n19:Prop:=
 Z (cAt code 19) 19 [(2,(.pv (.int .i64 t2))),(3,(.pv (.str t3))),(4,(.pv (.bool t4)))] σ (B9 (cx w0) Tryz.f168 n R)
def b19:Prop:=
 A5 (cx w0) 44 lv n A7 Z (cAt code 19) 19 [(2,(.pv (.int .i64 t2))),(3,(.pv (.str t3))),(4,(.pv (.bool t4)))] σ (B9 (cx w0) Tryz.f168 n R)
def b0:Prop:=
 A5 (cx w0) 44 lv n A7 Z code 0 (H3 0 [(.pv (.str s))]) σ (B9 (cx w0) Tryz.f168 n R)
end
variable {Z:XT}{w0:B4}{n:Nat}{R:RT}{σ τ:A1}{s t3 s':List UInt8}{n_ i t2 n_' i':Int}{t22 t4:Bool}
theorem n6_in(h:b7 (X w0 n) w0 n R σ s n_ i):n6 (X w0 n) w0 n R σ s n_ i:=J9 (I4 w0) (S:=A7) (by kernel_rfl:cAt code 6 = .loop (cAt code 7)) @h
theorem b7_eq:b7 Z w0 n R σ s n_ i=(
 B1 (decide ((i:Int)<(List.length (s:List UInt8):Int))) (opt (L7 B3 ti9.td (.pv (.str s)) i) fun t14=>isI .u8 t14 fun t14_1=>B1 (decide ((t14_1:Int)≥48)) (opt (L7 B3 ti9.td (.pv (.str s)) i) fun t20=>isI .u8 t20 fun t20_1=>n10 Z w0 n R σ s n_ i (decide ((t20_1:Int)≤57))) (n10 Z w0 n R σ s n_ i false)) (n10 Z w0 n R σ s n_ i false)):=by kernel_rfl
theorem b10_eq:b10 Z w0 n R σ s n_ i t22=(
 B1 t22 (opt (L7 B3 ti9.td (.pv (.str s)) i) fun t27=>isI .u8 t27 fun t27_1=>n6 Z w0 n R σ s (if (2147483648:Int)<(IntKind.wrap .i64 ((IntKind.wrap .i64 (n_*10))+(IntKind.wrap .i64 (IntKind.wrap .u8 (t27_1-48))))) then 2147483648 else (IntKind.wrap .i64 ((IntKind.wrap .i64 (n_*10))+(IntKind.wrap .i64 (IntKind.wrap .u8 (t27_1-48)))))) (IntKind.wrap .i64 (i+1))) (n17 Z w0 n R σ s n_ i)):=by kernel_rfl
theorem n10_in(h:b10 (X w0 n) w0 n R σ s n_ i t22):n10 (X w0 n) w0 n R σ s n_ i t22:=E1 (S:=A7) (by kernel_rfl) @h
theorem b17_eq:b17 Z w0 n R σ s n_ i=(
 opt (G7 σ B3 ti9.td (.pv (.str s)) (some (.pv (.int .i64 i))) none) fun t37=>isS t37 fun t37_1=>B1 (decide ((i:Int)>0)) (((opt (G7 σ B3 ti9.td (.pv (.str s)) (some (.pv (.int .i64 i))) none) fun t37_2=>((t37_2:AV)=(.pv (.str t37_1))))∧(n19 Z w0 n R σ n_ t37_1 (decide ((n_:Int)≤2147483647))))) (((opt (G7 σ B3 ti9.td (.pv (.str s)) (some (.pv (.int .i64 i))) none) fun t37_2=>((t37_2:AV)=(.pv (.str t37_1))))∧(n19 Z w0 n R σ n_ t37_1 false)))):=by kernel_rfl
theorem n17_in(h:b17 (X w0 n) w0 n R σ s n_ i):n17 (X w0 n) w0 n R σ s n_ i:=E1 (S:=A7) (by kernel_rfl) @h
theorem b19_eq:b19 Z w0 n R σ t2 t3 t4=(
 D9 (cx w0) n (.tup [(.pv (.int .i64 t2)),(.pv (.str t3)),(.pv (.bool t4))]) σ R):=by kernel_rfl
theorem n19_in(h:b19 (X w0 n) w0 n R σ t2 t3 t4):n19 (X w0 n) w0 n R σ t2 t3 t4:=E1 (S:=A7) (by kernel_rfl) @h
theorem b0_eq:b0 Z w0 n R σ s=(
 n6 Z w0 n R σ s 0 0):=by kernel_rfl
theorem calls(h:b0 (X w0 (List.length σ)) w0 (List.length σ) R σ s):A2 (cx w0) normal_number.id [(.pv (.str s))] σ R:=
 D0 (I4 w0) (x:=fe) (S:=A7) (normal_number.ok w0) (by kernel_rfl) @h
attribute [irreducible] n6 b7 n10 b10 n17 b17 n19 b19 b0
end normal_number
namespace normal_ranged
def lvs:List (List Nat):=[[0],[0],[0],[0],[0,7,8],[0,7,8],[0,7,8],[0,7,8,22],[0,7,8],[0,7,8],[2,3,4,5,6],[0,7],[0,7],[0,7],[0,7,8,9],[0,7,8,9],[2,3,4,5,6]]
def lv:Nat→List Nat:=J8 lvs
noncomputable def code:Code:=F0 Tryz.f143
noncomputable def fe:FE:=⟨Tryz.f143,code,lv⟩
def A7:List Nat:=[7,16]
abbrev X(w0:B4)(n:Nat):XT:=xr (cx w0) 45 lv n
theorem ok(w0:B4):FOK (cx w0) normal_ranged.id fe:=⟨Tryz.func143,by kernel_rfl,by kernel_rfl⟩
section
variable (Z:XT)(w0:B4)(n:Nat)(R:RT)(σ:A1)(s:List UInt8)(p:Int)(ok t22:Bool)(t2 t3:Int)(t4:Bool)(t5:List UInt8)(t6:Bool)
def q5:QT:=F2 (fun env σ=>A5 (cx w0) 45 lv n A7 Z (cAt code 12) 12 (prune (lv 12) env) σ (B9 (cx w0) Tryz.f143 n R)) (B9 (cx w0) Tryz.f143 n R)
def n7:Prop:=
 Z (cAt code 7) 7 [(0,(.pv (.str s))),(7,(.pv (.int .i64 p))),(8,(.pv (.bool ok))),(22,(.pv (.bool t22)))] σ (q5 Z w0 n R)
def b7:Prop:=
 A5 (cx w0) 45 lv n A7 Z (cAt code 7) 7 [(0,(.pv (.str s))),(7,(.pv (.int .i64 p))),(8,(.pv (.bool ok))),(22,(.pv (.bool t22)))] σ (q5 Z w0 n R)
def n16:Prop:=
 Z (cAt code 16) 16 [(2,(.pv (.int .i64 t2))),(3,(.pv (.int .i64 t3))),(4,(.pv (.bool t4))),(5,(.pv (.str t5))),(6,(.pv (.bool t6)))] σ (B9 (cx w0) Tryz.f143 n R)
def b16:Prop:=
 A5 (cx w0) 45 lv n A7 Z (cAt code 16) 16 [(2,(.pv (.int .i64 t2))),(3,(.pv (.int .i64 t3))),(4,(.pv (.bool t4))),(5,(.pv (.str t5))),(6,(.pv (.bool t6)))] σ (B9 (cx w0) Tryz.f143 n R)
def b0:Prop:=
 A5 (cx w0) 45 lv n A7 Z code 0 (H3 0 [(.pv (.str s))]) σ (B9 (cx w0) Tryz.f143 n R)
end
variable {Z:XT}{w0:B4}{n:Nat}{R:RT}{σ τ:A1}{s t5:List UInt8}{p t2 t3:Int}{ok t22 t4 t6:Bool}
theorem b7_eq:b7 Z w0 n R σ s p ok t22=(
 B1 t22 (D9 (cx w0) n (.tup [(.pv (.int .i64 p)),(.pv (.int .i64 1)),(.pv (.bool false)),(.pv (.str s)),(.pv (.bool ok))]) σ R) (opt (G7 σ B3 ti9.td (.pv (.str s)) (some (.pv (.int .i64 1))) none) fun t28=>isS t28 fun t28_1=>A2 (cx w0) normal_number.id [(.pv (.str t28_1))] σ fun r σ'=>isTup r fun vs=>opt ((vs)[0]?) fun t30=>isI .i64 t30 fun t30_1=>isTup r fun vs_1=>opt ((vs_1)[1]?) fun t31=>isS t31 fun t31_1=>isTup r fun vs_2=>opt ((vs_2)[2]?) fun t32=>isB t32 fun t32_1=>B1 t32_1 (n16 Z w0 n R σ' p (IntKind.wrap .i64 ((IntKind.wrap .i64 (t30_1-p))+1)) true t31_1 (decide ((t30_1:Int)≥p))) (n16 Z w0 n R σ' p (IntKind.wrap .i64 ((IntKind.wrap .i64 (t30_1-p))+1)) true t31_1 false))):=by kernel_rfl
theorem n7_in(h:b7 (X w0 n) w0 n R σ s p ok t22):n7 (X w0 n) w0 n R σ s p ok t22:=E1 (S:=A7) (by kernel_rfl) @h
theorem b16_eq:b16 Z w0 n R σ t2 t3 t4 t5 t6=(
 D9 (cx w0) n (.tup [(.pv (.int .i64 t2)),(.pv (.int .i64 t3)),(.pv (.bool t4)),(.pv (.str t5)),(.pv (.bool t6))]) σ R):=by kernel_rfl
theorem n16_in(h:b16 (X w0 n) w0 n R σ t2 t3 t4 t5 t6):n16 (X w0 n) w0 n R σ t2 t3 t4 t5 t6:=E1 (S:=A7) (by kernel_rfl) @h
theorem b0_eq:b0 Z w0 n R σ s=(
 A2 (cx w0) normal_number.id [(.pv (.str s))] σ fun r σ'=>isTup r fun vs=>opt ((vs)[0]?) fun t13=>isI .i64 t13 fun t13_1=>isTup r fun vs_1=>opt ((vs_1)[1]?) fun t14=>isS t14 fun t14_1=>isTup r fun vs_2=>opt ((vs_2)[2]?) fun t15=>isB t15 fun t15_1=>B1 (!t15_1) (n7 Z w0 n R σ' t14_1 t13_1 t15_1 true) (A2 (cx w0) strings_HasPrefix.id [(.pv (.str t14_1)),(.pv (.str [44]))] σ' fun r_1 σ'_1=>isB r_1 fun t20=>n7 Z w0 n R σ'_1 t14_1 t13_1 t15_1 (!t20))):=by kernel_rfl
theorem calls(h:b0 (X w0 (List.length σ)) w0 (List.length σ) R σ s):A2 (cx w0) normal_ranged.id [(.pv (.str s))] σ R:=
 D0 (I4 w0) (x:=fe) (S:=A7) (normal_ranged.ok w0) (by kernel_rfl) @h
attribute [irreducible] n7 b7 n16 b16 b0
end normal_ranged
namespace normal_command
def lvs:List (List Nat):=[[0],[0],[0,2],[0,2],[0,2,4],[0,2,4],[0,2,4],[0,2,4],[0,2,4,5,7,8,9],[0,2,4,5,7,8,9],[0,2,4,5,7,8,9],[0,2,4,5,7,8,26],[2,4],[2,4],[2,3],[0,2,4,5,7,8],[0,2,4,5,7,8],[0,2,4,5,7,8],[0,2,4,5,7,8,10],[0,2,4,5,7,8,10],[0,2,4,5,6,7,8,9,10,11,12],[0,2,4,5,6,7,8,9,10,11,12],[0,2,4,5,6,7,8,9,10,11,12],[2,4,5,6,7,8,10,11,12,44],[2,4],[2,4],[2,3],[2,4,5,6,7,8,10,11,12],[2,4,5,6,7,8,10,11,12],[2,4,5,6,7,8,10,11,12],[2,4,5,6,7,8,10,11,12],[2,4,5,6,7,8,11,12,46],[2,4,5,6,7,8,11,12,46],[2,4,5,6,7,8,11,12,46],[2,4,5,6,7,8,11,12,46,48],[2,5,7,11,12],[2,4,6,7,8,11,12,46],[2,4,6,7,8,11,12,46],[2,4,6,7,8,11,12,46,56],[2,6,7,8,11],[2,4,7,8,11,12,46],[2,4,7,8,11,12,46],[2,4,7,8,11,12,64],[2,7,8,11,12],[2,4],[2,4],[2,3],[2,7,8,9,11,12],[2,7,8,9,11,12],[2,3]]
def lv:Nat→List Nat:=J8 lvs
noncomputable def code:Code:=F0 Tryz.f103
noncomputable def fe:FE:=⟨Tryz.f103,code,lv⟩
def A7:List Nat:=[11,23,47]
abbrev X(w0:B4)(n:Nat):XT:=xr (cx w0) 78 lv n
theorem ok(w0:B4):FOK (cx w0) normal_command.id fe:=⟨Tryz.func103,by kernel_rfl,by kernel_rfl⟩
section
variable (Z:XT)(w0:B4)(n:Nat)(R:RT)(σ:A1)(s:List UInt8)(t2 h_:AV)(two both:Bool)(p n_:Int)(t26:Bool)(word:Int)(ok:Bool)(q m:Int)(t44:Bool)
def q9:QT:=F2 (fun env σ=>A5 (cx w0) 78 lv n A7 Z (cAt code 16) 16 (prune (lv 16) env) σ (B9 (cx w0) Tryz.f103 n R)) (B9 (cx w0) Tryz.f103 n R)
def q21:QT:=F2 (fun env σ=>A5 (cx w0) 78 lv n A7 Z (cAt code 28) 28 (prune (lv 28) env) σ (B9 (cx w0) Tryz.f103 n R)) (B9 (cx w0) Tryz.f103 n R)
def n11:Prop:=
 Z (cAt code 11) 11 [(0,(.pv (.str s))),(2,t2),(4,h_),(5,(.pv (.bool two))),(7,(.pv (.int .i64 p))),(8,(.pv (.int .i64 n_))),(26,(.pv (.bool t26)))] σ (q9 Z w0 n R)
def b11:Prop:=
 A5 (cx w0) 78 lv n A7 Z (cAt code 11) 11 [(0,(.pv (.str s))),(2,t2),(4,h_),(5,(.pv (.bool two))),(7,(.pv (.int .i64 p))),(8,(.pv (.int .i64 n_))),(26,(.pv (.bool t26)))] σ (q9 Z w0 n R)
def n23:Prop:=
 Z (cAt code 23) 23 [(2,t2),(4,h_),(5,(.pv (.bool two))),(6,(.pv (.bool both))),(7,(.pv (.int .i64 p))),(8,(.pv (.int .i64 n_))),(10,(.pv (.int .u8 word))),(11,(.pv (.int .i64 q))),(12,(.pv (.int .i64 m))),(44,(.pv (.bool t44)))] σ (q21 Z w0 n R)
def b23:Prop:=
 A5 (cx w0) 78 lv n A7 Z (cAt code 23) 23 [(2,t2),(4,h_),(5,(.pv (.bool two))),(6,(.pv (.bool both))),(7,(.pv (.int .i64 p))),(8,(.pv (.int .i64 n_))),(10,(.pv (.int .u8 word))),(11,(.pv (.int .i64 q))),(12,(.pv (.int .i64 m))),(44,(.pv (.bool t44)))] σ (q21 Z w0 n R)
def n47:Prop:=
 Z (cAt code 47) 47 [(2,t2),(7,(.pv (.int .i64 p))),(8,(.pv (.int .i64 n_))),(9,(.pv (.bool ok))),(11,(.pv (.int .i64 q))),(12,(.pv (.int .i64 m)))] σ (B9 (cx w0) Tryz.f103 n R)
def b47:Prop:=
 A5 (cx w0) 78 lv n A7 Z (cAt code 47) 47 [(2,t2),(7,(.pv (.int .i64 p))),(8,(.pv (.int .i64 n_))),(9,(.pv (.bool ok))),(11,(.pv (.int .i64 q))),(12,(.pv (.int .i64 m)))] σ (B9 (cx w0) Tryz.f103 n R)
def b0:Prop:=
 A5 (cx w0) 78 lv n A7 Z code 0 (H3 0 [(.pv (.str s))]) σ (B9 (cx w0) Tryz.f103 n R)
end
variable {Z:XT}{w0:B4}{n:Nat}{R:RT}{σ τ:A1}{s:List UInt8}{t2 h_:AV}{two t26 both t44 ok:Bool}{p n_ word q m:Int}
theorem b11_eq:b11 Z w0 n R σ s t2 h_ two p n_ t26=(
 B1 t26 (opt (A6 σ G1 h_) fun t27=>opt (C2 σ G1 t2 t27) fun σ'=>opt (A6 σ' G1 t2) fun v=>D9 (cx w0) n (.tup [v,(.pv (.bool false))]) σ' R) (opt (L7 B3 ti9.td (.pv (.str s)) 0) fun t29=>isI .u8 t29 fun t29_1=>opt (G7 σ B3 ti9.td (.pv (.str s)) (some (.pv (.int .i64 1))) none) fun t32=>isS t32 fun t32_1=>A2 (cx w0) normal_ranged.id [(.pv (.str t32_1))] σ fun r σ'=>isTup r fun vs=>opt ((vs)[0]?) fun t34=>isI .i64 t34 fun t34_1=>isTup r fun vs_1=>opt ((vs_1)[1]?) fun t35=>isI .i64 t35 fun t35_1=>isTup r fun vs_2=>opt ((vs_2)[2]?) fun t36=>isB t36 fun t36_1=>isTup r fun vs_3=>opt ((vs_3)[3]?) fun t37=>isS t37 fun t37_1=>isTup r fun vs_4=>opt ((vs_4)[4]?) fun t38=>isB t38 fun t38_1=>B1 (!t38_1) (n23 Z w0 n R σ' t2 h_ two t36_1 p n_ t29_1 t34_1 t35_1 true) (n23 Z w0 n R σ' t2 h_ two t36_1 p n_ t29_1 t34_1 t35_1 (!((t37_1:List UInt8) == []))))):=by kernel_rfl
theorem n11_in(h:b11 (X w0 n) w0 n R σ s t2 h_ two p n_ t26):n11 (X w0 n) w0 n R σ s t2 h_ two p n_ t26:=E1 (S:=A7) (by kernel_rfl) @h
theorem b23_eq:b23 Z w0 n R σ t2 h_ two both p n_ word q m t44=(
 B1 t44 (opt (A6 σ G1 h_) fun t45=>opt (C2 σ G1 t2 t45) fun σ'=>opt (A6 σ' G1 t2) fun v=>D9 (cx w0) n (.tup [v,(.pv (.bool false))]) σ' R) (B1 ((word:Int)==97) (B1 (!two) (n47 Z w0 n R σ t2 p 0 (decide ((q:Int)>0)) q m) (n47 Z w0 n R σ t2 p 0 false q m)) (B1 ((word:Int)==100) (B1 (!both) (n47 Z w0 n R σ t2 p n_ (decide ((p:Int)>0)) q 0) (n47 Z w0 n R σ t2 p n_ false q 0)) (B1 ((word:Int)==99) (B1 (decide ((p:Int)>0)) (n47 Z w0 n R σ t2 p n_ (decide ((q:Int)>0)) q m) (n47 Z w0 n R σ t2 p n_ false q m)) (opt (A6 σ G1 h_) fun t47=>opt (C2 σ G1 t2 t47) fun σ'=>opt (A6 σ' G1 t2) fun v=>D9 (cx w0) n (.tup [v,(.pv (.bool false))]) σ' R))))):=by kernel_rfl
theorem n23_in(h:b23 (X w0 n) w0 n R σ t2 h_ two both p n_ word q m t44):n23 (X w0 n) w0 n R σ t2 h_ two both p n_ word q m t44:=E1 (S:=A7) (by kernel_rfl) @h
theorem b47_eq:b47 Z w0 n R σ t2 p n_ ok q m=(
 opt (N3 B3 G1 [(0,(.pv (.int .i64 p))),(1,(.pv (.int .i64 n_))),(2,(.pv (.int .i64 q))),(3,(.pv (.int .i64 m)))]) fun t76=>opt (C2 σ G1 t2 t76) fun σ'=>opt (A6 σ' G1 t2) fun v=>D9 (cx w0) n (.tup [v,(.pv (.bool ok))]) σ' R):=by kernel_rfl
theorem n47_in(h:b47 (X w0 n) w0 n R σ t2 p n_ ok q m):n47 (X w0 n) w0 n R σ t2 p n_ ok q m:=E1 (S:=A7) (by kernel_rfl) @h
theorem b0_eq:b0 Z w0 n R σ s=(
 A2 (cx w0) normal_ranged.id [(.pv (.str s))] ((σ ++ [.cells 46 (AV.ofValue G1.zero).cells]) ++ [.cells 46 (AV.ofValue G1.zero).cells]) fun r σ'=>isTup r fun vs=>opt ((vs)[0]?) fun t16=>isI .i64 t16 fun t16_1=>isTup r fun vs_1=>opt ((vs_1)[1]?) fun t17=>isI .i64 t17 fun t17_1=>isTup r fun vs_2=>opt ((vs_2)[2]?) fun t18=>isB t18 fun t18_1=>isTup r fun vs_3=>opt ((vs_3)[3]?) fun t19=>isS t19 fun t19_1=>isTup r fun vs_4=>opt ((vs_4)[4]?) fun t20=>isB t20 fun t20_1=>B1 (!t20_1) (n11 Z w0 n R σ' t19_1 (.ptr (List.length σ) 0) (.ptr (List.length (σ ++ [.cells 46 (AV.ofValue G1.zero).cells])) 0) t18_1 t16_1 t17_1 true) (n11 Z w0 n R σ' t19_1 (.ptr (List.length σ) 0) (.ptr (List.length (σ ++ [.cells 46 (AV.ofValue G1.zero).cells])) 0) t18_1 t16_1 t17_1 ((t19_1:List UInt8) == []))):=by kernel_rfl
theorem calls(h:b0 (X w0 (List.length σ)) w0 (List.length σ) R σ s):A2 (cx w0) normal_command.id [(.pv (.str s))] σ R:=
 D0 (I4 w0) (x:=fe) (S:=A7) (normal_command.ok w0) (by kernel_rfl) @h
attribute [irreducible] n11 b11 n23 b23 n47 b47 b0
end normal_command
namespace normal_place
def lvs:List (List Nat):=[[0,1],[0,1],[0,1],[0,1],[0,1],[0,6],[0],[0],[4],[0],[0],[0],[4]]
def lv:Nat→List Nat:=J8 lvs
noncomputable def code:Code:=F0 Tryz.f144
noncomputable def fe:FE:=⟨Tryz.f144,code,lv⟩
def A7:List Nat:=[]
abbrev X(w0:B4)(n:Nat):XT:=xr (cx w0) 10 lv n
theorem ok(w0:B4):FOK (cx w0) normal_place.id fe:=⟨Tryz.func144,by kernel_rfl,by kernel_rfl⟩
section
variable (Z:XT)(w0:B4)(n:Nat)(R:RT)(σ:A1)(a n_:Int)
def b0:Prop:=
 A5 (cx w0) 10 lv n A7 Z code 0 (H3 0 [(.pv (.int .i64 a)),(.pv (.int .i64 n_))]) σ (B9 (cx w0) Tryz.f144 n R)
end
variable {Z:XT}{w0:B4}{n:Nat}{R:RT}{σ τ:A1}{a n_:Int}
theorem b0_eq:b0 Z w0 n R σ a n_=(
 B1 ((n_:Int)==0) (D9 (cx w0) n (.pv (.int .i64 a)) σ R) (D9 (cx w0) n (.pv (.int .i64 (IntKind.wrap .i64 (a-1)))) σ R)):=by kernel_rfl
theorem calls(h:b0 (X w0 (List.length σ)) w0 (List.length σ) R σ a n_):A2 (cx w0) normal_place.id [(.pv (.int .i64 a)),(.pv (.int .i64 n_))] σ R:=
 D0 (I4 w0) (x:=fe) (S:=A7) (normal_place.ok w0) (by kernel_rfl) @h
attribute [irreducible] b0
end normal_place
namespace normal_follows
def lvs:List (List Nat):=[[0,1],[0,1],[2,3],[2,3],[4]]
def lv:Nat→List Nat:=J8 lvs
noncomputable def code:Code:=F0 Tryz.f105
noncomputable def fe:FE:=⟨Tryz.f105,code,lv⟩
def A7:List Nat:=[4]
abbrev X(w0:B4)(n:Nat):XT:=xr (cx w0) 35 lv n
theorem ok(w0:B4):FOK (cx w0) normal_follows.id fe:=⟨Tryz.func105,by kernel_rfl,by kernel_rfl⟩
section
variable (Z:XT)(w0:B4)(n:Nat)(R:RT)(σ:A1)(t4:Bool)(g h_:AV)
def n4:Prop:=
 Z (cAt code 4) 4 [(4,(.pv (.bool t4)))] σ (B9 (cx w0) Tryz.f105 n R)
def b4:Prop:=
 A5 (cx w0) 35 lv n A7 Z (cAt code 4) 4 [(4,(.pv (.bool t4)))] σ (B9 (cx w0) Tryz.f105 n R)
def b0:Prop:=
 A5 (cx w0) 35 lv n A7 Z code 0 (H3 0 [g,h_]) σ (B9 (cx w0) Tryz.f105 n R)
end
variable {Z:XT}{w0:B4}{n:Nat}{R:RT}{σ τ:A1}{t4:Bool}{g h_:AV}
theorem b4_eq:b4 Z w0 n R σ t4=(
 D9 (cx w0) n (.pv (.bool t4)) σ R):=by kernel_rfl
theorem n4_in(h:b4 (X w0 n) w0 n R σ t4):n4 (X w0 n) w0 n R σ t4:=E1 (S:=A7) (by kernel_rfl) @h
theorem b0_eq:b0 Z w0 n R σ g h_=(
 ((AV.cells g).all AV.one=true∧(((AV.cells h_).all AV.one=true∧(opt (A3 B3 G1.td (.ptr (List.length (σ ++ [.cells 46 (AV.cells g)])) 0) 0) fun t5=>opt (A6 ((σ ++ [.cells 46 (AV.cells g)]) ++ [.cells 46 (AV.cells h_)]) ti3 t5) fun t6=>isI .i64 t6 fun t6_1=>opt (A3 B3 G1.td (.ptr (List.length (σ ++ [.cells 46 (AV.cells g)])) 0) 1) fun t7=>opt (A6 ((σ ++ [.cells 46 (AV.cells g)]) ++ [.cells 46 (AV.cells h_)]) ti3 t7) fun t8=>isI .i64 t8 fun t8_1=>opt (A3 B3 G1.td (.ptr (List.length σ) 0) 0) fun t10=>opt (A6 ((σ ++ [.cells 46 (AV.cells g)]) ++ [.cells 46 (AV.cells h_)]) ti3 t10) fun t11=>isI .i64 t11 fun t11_1=>opt (A3 B3 G1.td (.ptr (List.length σ) 0) 1) fun t12=>opt (A6 ((σ ++ [.cells 46 (AV.cells g)]) ++ [.cells 46 (AV.cells h_)]) ti3 t12) fun t13=>isI .i64 t13 fun t13_1=>opt (A3 B3 G1.td (.ptr (List.length σ) 0) 1) fun t15=>opt (A6 ((σ ++ [.cells 46 (AV.cells g)]) ++ [.cells 46 (AV.cells h_)]) ti3 t15) fun t16=>isI .i64 t16 fun t16_1=>A2 (cx w0) normal_place.id [(.pv (.int .i64 t6_1)),(.pv (.int .i64 t8_1))] ((σ ++ [.cells 46 (AV.cells g)]) ++ [.cells 46 (AV.cells h_)]) fun r σ'=>isI .i64 r fun t9=>((opt (A6 σ' ti3 t10) fun t11_2=>((t11_2:AV)=(.pv (.int .i64 t11_1))))∧(((opt (A6 σ' ti3 t12) fun t13_2=>((t13_2:AV)=(.pv (.int .i64 t13_1))))∧(((opt (A6 σ' ti3 t15) fun t16_2=>((t16_2:AV)=(.pv (.int .i64 t16_1))))∧(A2 (cx w0) normal_place.id [(.pv (.int .i64 t11_1)),(.pv (.int .i64 t13_1))] σ' fun r_1 σ'_1=>isI .i64 r_1 fun t14=>((opt (A6 σ'_1 ti3 t15) fun t16_3=>((t16_3:AV)=(.pv (.int .i64 t16_1))))∧(B1 (decide ((t9:Int)≥(IntKind.wrap .i64 (t14+t16_1)))) (opt (A3 B3 G1.td (.ptr (List.length (σ ++ [.cells 46 (AV.cells g)])) 0) 2) fun t20=>opt (A6 σ'_1 ti3 t20) fun t21=>isI .i64 t21 fun t21_1=>opt (A3 B3 G1.td (.ptr (List.length (σ ++ [.cells 46 (AV.cells g)])) 0) 3) fun t22=>opt (A6 σ'_1 ti3 t22) fun t23=>isI .i64 t23 fun t23_1=>opt (A3 B3 G1.td (.ptr (List.length σ) 0) 2) fun t25=>opt (A6 σ'_1 ti3 t25) fun t26=>isI .i64 t26 fun t26_1=>opt (A3 B3 G1.td (.ptr (List.length σ) 0) 3) fun t27=>opt (A6 σ'_1 ti3 t27) fun t28=>isI .i64 t28 fun t28_1=>opt (A3 B3 G1.td (.ptr (List.length σ) 0) 3) fun t30=>opt (A6 σ'_1 ti3 t30) fun t31=>isI .i64 t31 fun t31_1=>A2 (cx w0) normal_place.id [(.pv (.int .i64 t21_1)),(.pv (.int .i64 t23_1))] σ'_1 fun r_2 σ'_2=>isI .i64 r_2 fun t24=>((opt (A6 σ'_2 ti3 t25) fun t26_2=>((t26_2:AV)=(.pv (.int .i64 t26_1))))∧(((opt (A6 σ'_2 ti3 t27) fun t28_2=>((t28_2:AV)=(.pv (.int .i64 t28_1))))∧(((opt (A6 σ'_2 ti3 t30) fun t31_2=>((t31_2:AV)=(.pv (.int .i64 t31_1))))∧(A2 (cx w0) normal_place.id [(.pv (.int .i64 t26_1)),(.pv (.int .i64 t28_1))] σ'_2 fun r_3 σ'_3=>isI .i64 r_3 fun t29=>((opt (A6 σ'_3 ti3 t30) fun t31_3=>((t31_3:AV)=(.pv (.int .i64 t31_1))))∧(n4 Z w0 n R σ'_3 (decide ((t24:Int)≥(IntKind.wrap .i64 (t29+t31_1))))))))))))) (n4 Z w0 n R σ'_1 false)))))))))))))):=by kernel_rfl
theorem calls(h:b0 (X w0 (List.length σ)) w0 (List.length σ) R σ g h_):A2 (cx w0) normal_follows.id [g,h_] σ R:=
 D0 (I4 w0) (x:=fe) (S:=A7) (normal_follows.ok w0) (by kernel_rfl) @h
attribute [irreducible] n4 b4 b0
end normal_follows
namespace normal_reader_take
def lvs:List (List Nat):=[[0,1,2,3,4],[0,1,2,3,4],[0,1,2,3,4],[0,1,2,3,4],[0,1,2,3,4],[0,1,3,4,12,13],[0,1,3,4,12,13],[0,1,3,4,12,13],[0,1,3,4,12,13],[0,1,3,4,12,13,14],[0,1,3,4,12,13,14],[0,1,3,4,12,13],[],[0,1,3,4,12,13],[0,1,3,4,12,13],[0,1,3,4,12,13],[0,1,3,4,12,13],[0,1,3,4,12,13],[0,1,3,4,12,13,39],[],[],[10],[0,1,3,4,12,13],[0,1,3,4,12,13],[0,1,3,4,12,13],[0,1,3,4,11,12,13],[0,1,3,4,11,12,13],[0,1,3,4,11,12,13],[0,1,3,4,11,12,13],[0,1,3,4,11,12,13],[0,1,3,4,11,12,13,83],[0,1,3,4,11,12,13],[0,1,3,4,11,12,13],[0,1,3,4,11,12,13],[0,1,3,4,11,12,13],[0,1,3,4,11,12,13],[0,1,3,4,12,13],[],[],[10]]
def lv:Nat→List Nat:=J8 lvs
noncomputable def code:Code:=F0 Tryz.f104
noncomputable def fe:FE:=⟨Tryz.f104,code,lv⟩
def A7:List Nat:=[7,18,30,35,37]
abbrev X(w0:B4)(n:Nat):XT:=xr (cx w0) 106 lv n
theorem ok(w0:B4):FOK (cx w0) normal_reader_take.id fe:=⟨Tryz.func104,by kernel_rfl,by kernel_rfl⟩
section
variable (Z:XT)(w0:B4)(n:Nat)(R:RT)(σ:A1)(r h_:AV)(n_:Int)(mark_:List UInt8)(kind:Int)(s:List UInt8)(t12 t13:Int)(t39 t83:Bool)
def q3:QT:=F2 (fun env σ=>Z (cAt code 37) 37 (prune (lv 37) env) σ (B9 (cx w0) Tryz.f104 n R)) (B9 (cx w0) Tryz.f104 n R)
def q6:QT:=I3 0 (q3 Z w0 n R)
def q7:QT:=F2 (fun env σ=>Z (cAt code 6) 6 (prune (lv 6) env) σ (q6 Z w0 n R)) (q6 Z w0 n R)
def q14:QT:=F2 (fun env σ=>A5 (cx w0) 106 lv n A7 Z (cAt code 36) 36 (prune (lv 36) env) σ (q7 Z w0 n R)) (q7 Z w0 n R)
def q15:QT:=I3 1 (q14 Z w0 n R)
def q16:QT:=F2 (fun env σ=>A5 (cx w0) 106 lv n A7 Z (cAt code 23) 23 (prune (lv 23) env) σ (q15 Z w0 n R)) (q15 Z w0 n R)
def q28:QT:=F2 (fun env σ=>Z (cAt code 35) 35 (prune (lv 35) env) σ (q15 Z w0 n R)) (q15 Z w0 n R)
def n6:Prop:=
 Z (cAt code 6) 6 [(0,r),(1,h_),(3,(.pv (.str mark_))),(4,(.pv (.int .i64 kind))),(12,(.pv (.int .i64 t12))),(13,(.pv (.int .i64 t13)))] σ (q6 Z w0 n R)
def b7:Prop:=
 A5 (cx w0) 106 lv n A7 Z (cAt code 7) 7 [(0,r),(1,h_),(3,(.pv (.str mark_))),(4,(.pv (.int .i64 kind))),(12,(.pv (.int .i64 t12))),(13,(.pv (.int .i64 t13)))] σ (q7 Z w0 n R)
def n18:Prop:=
 Z (cAt code 18) 18 [(0,r),(1,h_),(3,(.pv (.str mark_))),(4,(.pv (.int .i64 kind))),(12,(.pv (.int .i64 t12))),(13,(.pv (.int .i64 t13))),(39,(.pv (.bool t39)))] σ (q16 Z w0 n R)
def b18:Prop:=
 A5 (cx w0) 106 lv n A7 Z (cAt code 18) 18 [(0,r),(1,h_),(3,(.pv (.str mark_))),(4,(.pv (.int .i64 kind))),(12,(.pv (.int .i64 t12))),(13,(.pv (.int .i64 t13))),(39,(.pv (.bool t39)))] σ (q16 Z w0 n R)
def n30:Prop:=
 Z (cAt code 30) 30 [(0,r),(1,h_),(3,(.pv (.str mark_))),(4,(.pv (.int .i64 kind))),(11,(.pv (.str s))),(12,(.pv (.int .i64 t12))),(13,(.pv (.int .i64 t13))),(83,(.pv (.bool t83)))] σ (q28 Z w0 n R)
def b30:Prop:=
 A5 (cx w0) 106 lv n A7 Z (cAt code 30) 30 [(0,r),(1,h_),(3,(.pv (.str mark_))),(4,(.pv (.int .i64 kind))),(11,(.pv (.str s))),(12,(.pv (.int .i64 t12))),(13,(.pv (.int .i64 t13))),(83,(.pv (.bool t83)))] σ (q28 Z w0 n R)
def n35:Prop:=
 Z (cAt code 35) 35 [(0,r),(1,h_),(3,(.pv (.str mark_))),(4,(.pv (.int .i64 kind))),(11,(.pv (.str s))),(12,(.pv (.int .i64 t12))),(13,(.pv (.int .i64 t13)))] σ (q15 Z w0 n R)
def b35:Prop:=
 A5 (cx w0) 106 lv n A7 Z (cAt code 35) 35 [(0,r),(1,h_),(3,(.pv (.str mark_))),(4,(.pv (.int .i64 kind))),(11,(.pv (.str s))),(12,(.pv (.int .i64 t12))),(13,(.pv (.int .i64 t13)))] σ (q15 Z w0 n R)
def n37:Prop:=
 Z (cAt code 37) 37 [] σ (B9 (cx w0) Tryz.f104 n R)
def b37:Prop:=
 A5 (cx w0) 106 lv n A7 Z (cAt code 37) 37 [] σ (B9 (cx w0) Tryz.f104 n R)
def b0:Prop:=
 A5 (cx w0) 106 lv n A7 Z code 0 (H3 0 [r,h_,(.pv (.int .i64 n_)),(.pv (.str mark_)),(.pv (.int .i64 kind))]) σ (B9 (cx w0) Tryz.f104 n R)
end
variable {Z:XT}{w0:B4}{n:Nat}{R:RT}{σ τ:A1}{r h_ r' h_':AV}{mark_ s mark_':List UInt8}{kind t12 t13 n_ kind' t12' t13':Int}{t39 t83:Bool}
theorem n6_in(h:b7 (X w0 n) w0 n R σ r h_ mark_ kind t12 t13):n6 (X w0 n) w0 n R σ r h_ mark_ kind t12 t13:=J9 (I4 w0) (S:=A7) (by kernel_rfl:cAt code 6 = .loop (cAt code 7)) @h
theorem n6_weak(e:N2 (cx w0) n [(0,r),(1,h_),(3,(.pv (.str mark_))),(4,(.pv (.int .i64 kind))),(12,(.pv (.int .i64 t12))),(13,(.pv (.int .i64 t13)))] σ [(0,r'),(1,h_'),(3,(.pv (.str mark_'))),(4,(.pv (.int .i64 kind'))),(12,(.pv (.int .i64 t12'))),(13,(.pv (.int .i64 t13')))] τ)(h:n6 (X w0 n) w0 n R τ r' h_' mark_' kind' t12' t13'):n6 (X w0 n) w0 n R σ r h_ mark_ kind t12 t13:=U3 (L:=lv) (k:=6) (by kernel_rfl:cAt code 6 = .loop (cAt code 7)) @e @h
theorem b7_eq:b7 Z w0 n R σ r h_ mark_ kind t12 t13=(
 B1 (decide ((t13:Int)<t12)) (opt (B2 r) fun t16=>opt (A3 B3 T4.td t16 1) fun t17=>opt (A6 σ ti3 t17) fun t18=>isI .i64 t18 fun t18_1=>opt (B2 r) fun t20=>opt (A3 B3 T4.td t20 0) fun t21=>opt (A6 σ J7 t21) fun t22=>opt (R5 J7.td t22) fun t23=>isI .i64 t23 fun t23_1=>B1 (decide ((t18_1:Int)≥t23_1)) (n18 Z w0 n R σ r h_ mark_ kind t12 t13 true) (opt (B2 r) fun t27=>opt (A3 B3 T4.td t27 0) fun t28=>opt (A6 σ J7 t28) fun t29=>opt (B2 r) fun t31=>opt (A3 B3 T4.td t31 1) fun t32=>opt (A6 σ ti3 t32) fun t33=>isI .i64 t33 fun t33_1=>opt (D1 σ B3 J7.td t29 t33_1) fun t34=>opt (A6 σ ti9 t34) fun t35=>isS t35 fun t35_1=>A2 (cx w0) strings_HasPrefix.id [(.pv (.str t35_1)),(.pv (.str mark_))] σ fun r_1 σ'=>isB r_1 fun t37=>n18 Z w0 n R σ' r h_ mark_ kind t12 t13 (!t37))) (n37 Z w0 n R σ)):=by kernel_rfl
theorem b18_eq:b18 Z w0 n R σ r h_ mark_ kind t12 t13 t39=(
 B1 t39 (D9 (cx w0) n (.pv (.bool false)) σ R) (opt (B2 r) fun t41=>opt (A3 B3 T4.td t41 0) fun t42=>opt (A6 σ J7 t42) fun t43=>opt (B2 r) fun t45=>opt (A3 B3 T4.td t45 1) fun t46=>opt (A6 σ ti3 t46) fun t47=>isI .i64 t47 fun t47_1=>opt (D1 σ B3 J7.td t43 t47_1) fun t48=>opt (A6 σ ti9 t48) fun t49=>isS t49 fun t49_1=>opt (G7 σ B3 ti9.td (.pv (.str t49_1)) (some (.pv (.int .i64 (List.length (mark_:List UInt8):Int)))) none) fun t52=>isS t52 fun t52_1=>opt (B2 r) fun t54=>opt (A3 B3 T4.td t54 1) fun t55=>opt (A6 σ ti3 t55) fun t56=>isI .i64 t56 fun t56_1=>opt (B2 r) fun t58=>opt (A3 B3 T4.td t58 1) fun t59=>opt (C2 σ ti3 t59 (.pv (.int .i64 (IntKind.wrap .i64 (t56_1+1))))) fun σ'=>opt (B2 r) fun t61=>opt (A3 B3 T4.td t61 1) fun t62=>opt (A6 σ' ti3 t62) fun t63=>isI .i64 t63 fun t63_1=>opt (B2 r) fun t65=>opt (A3 B3 T4.td t65 0) fun t66=>opt (A6 σ' J7 t66) fun t67=>opt (R5 J7.td t67) fun t68=>isI .i64 t68 fun t68_1=>B1 (decide ((t63_1:Int)<t68_1)) (opt (B2 r) fun t72=>opt (A3 B3 T4.td t72 0) fun t73=>opt (A6 σ' J7 t73) fun t74=>opt (B2 r) fun t76=>opt (A3 B3 T4.td t76 1) fun t77=>opt (A6 σ' ti3 t77) fun t78=>isI .i64 t78 fun t78_1=>opt (D1 σ' B3 J7.td t74 t78_1) fun t79=>opt (A6 σ' ti9 t79) fun t80=>isS t80 fun t80_1=>opt (L7 B3 ti9.td (.pv (.str t80_1)) 0) fun t81=>isI .u8 t81 fun t81_1=>n30 Z w0 n R σ' r h_ mark_ kind t52_1 t12 t13 ((t81_1:Int)==92)) (n30 Z w0 n R σ' r h_ mark_ kind t52_1 t12 t13 false))):=by kernel_rfl
theorem n18_in(h:b18 (X w0 n) w0 n R σ r h_ mark_ kind t12 t13 t39):n18 (X w0 n) w0 n R σ r h_ mark_ kind t12 t13 t39:=E1 (S:=A7) (by kernel_rfl) @h
theorem b30_eq:b30 Z w0 n R σ r h_ mark_ kind s t12 t13 t83=(
 B1 t83 (A2 (cx w0) L6.id [(.pv (.str s))] σ fun r_1 σ'=>isS r_1 fun t85=>opt (B2 r) fun t87=>opt (A3 B3 T4.td t87 1) fun t88=>opt (A6 σ' ti3 t88) fun t89=>isI .i64 t89 fun t89_1=>opt (B2 r) fun t91=>opt (A3 B3 T4.td t91 1) fun t92=>opt (C2 σ' ti3 t92 (.pv (.int .i64 (IntKind.wrap .i64 (t89_1+1))))) fun σ'_1=>n35 Z w0 n R σ'_1 r h_ mark_ kind t85 t12 t13) (n35 Z w0 n R σ r h_ mark_ kind s t12 t13)):=by kernel_rfl
theorem n30_in(h:b30 (X w0 n) w0 n R σ r h_ mark_ kind s t12 t13 t83):n30 (X w0 n) w0 n R σ r h_ mark_ kind s t12 t13 t83:=E1 (S:=A7) (by kernel_rfl) @h
theorem b35_eq:b35 Z w0 n R σ r h_ mark_ kind s t12 t13=(
 opt (B2 h_) fun t95=>opt (A3 B3 G1.td t95 5) fun t96=>opt (A6 σ lp t96) fun t97=>opt (N3 B3 T8 [(0,(.pv (.int .i64 kind))),(1,(.pv (.str s)))]) fun t100=>opt2 (H9 σ T8 false 1 [(0,t100)]) fun t101 σ'=>opt2 (L0 σ' T8 t97 t101) fun t102 σ'_1=>opt (B2 h_) fun t103=>opt (A3 B3 G1.td t103 5) fun t104=>opt (C2 σ'_1 lp t104 t102) fun σ'_2=>n6 Z w0 n R σ'_2 r h_ mark_ kind t12 (IntKind.wrap .i64 (t13+1))):=by kernel_rfl
theorem n35_in(h:b35 (X w0 n) w0 n R σ r h_ mark_ kind s t12 t13):n35 (X w0 n) w0 n R σ r h_ mark_ kind s t12 t13:=E1 (S:=A7) (by kernel_rfl) @h
theorem b37_eq:b37 Z w0 n R σ=(
 D9 (cx w0) n (.pv (.bool true)) σ R):=by kernel_rfl
theorem n37_in(h:b37 (X w0 n) w0 n R σ):n37 (X w0 n) w0 n R σ:=E1 (S:=A7) (by kernel_rfl) @h
theorem b0_eq:b0 Z w0 n R σ r h_ n_ mark_ kind=(
 n6 Z w0 n R σ r h_ mark_ kind n_ 0):=by kernel_rfl
theorem calls(h:b0 (X w0 (List.length σ)) w0 (List.length σ) R σ r h_ n_ mark_ kind):A2 (cx w0) normal_reader_take.id [r,h_,(.pv (.int .i64 n_)),(.pv (.str mark_)),(.pv (.int .i64 kind))] σ R:=
 D0 (I4 w0) (x:=fe) (S:=A7) (normal_reader_take.ok w0) (by kernel_rfl) @h
attribute [irreducible] n6 b7 n18 b18 n30 b30 n35 b35 n37 b37 b0
end normal_reader_take
namespace normal_Parse
def lvs:List (List Nat):=[[0],[0],[0],[0],[0],[0,18],[],[],[2,3,4,5],[0],[0],[0],[0,6],[0,6],[0,6],[0,6,27],[0,6],[0,6],[0,6],[0,6],[0,7],[0,7],[0,7,8],[0,7,8],[0,7,8],[0,7,8],[0,7,8],[0,7,8],[0,7,8,43],[0,7,8],[0,7,8],[0,7,8],[0,7,8],[0,7,8],[0,7,8,9],[0,7,8,9],[0,7,8,9],[0,7,8,64],[0,7,8],[0,7,8],[0,7,8],[0,7,8],[0,7,8,10],[0,7,8,10],[0,7,8,10,11,12],[0,7,8,10,11,12],[0,7,8,10,11,12],[0,7,8,10,11,86],[10],[10],[2,3,4,5],[0,7,8,10,11],[0,7,8,10,11],[0,7,8,10,11],[0,7,8,10,11],[0,7,8,10,11],[0,7,8,10,11,12],[0,7,8,10,11,12],[0,7,8,10,11,12],[0,7,8,10,11,12,110],[0,7,8,10,11],[0,7,8,10,11],[0,7,8,10,11,12],[0,7,8,10,11,12],[0,7,8,10,11,12,134],[0,7,8,10,11,12],[0,7,8,10,11,12],[0,7,8,10,11,12],[0,7,8,10,11,12],[0,7,8,10,11,12],[0,7,8,10,11,12],[0,7,8,10,11,150],[7],[7],[2,3,4,5],[0,7,8,10,11],[0,7,8,10,11],[0,7,8,10,11],[0,7,8,10,11],[0,7,8,10,11],[0,7,8,10,11,157],[10],[10],[2,3,4,5],[0,7,8,10,11],[0,7,8,10,11],[0,7,8,10,11,163],[10],[10],[2,3,4,5],[0,7,8,11],[0,7,8,11],[0,7,8],[0,7,8],[0,7,8,13],[0,7,8,13],[0,7,8,13],[0,8,13,192,193,194],[0,8,13,192,193,194],[0,8,13,192,193,194],[0,8,13,192,193,194],[0,8,13,192,193,194,195],[0,8,13,192,193,194,195],[0,8,13,192,193,194],[0,8,13],[0,8,13,192,193,194],[0,8,13,192,193,194],[0,8,13,192,193,194],[0,8,13,192,193,194],[0,8,13,15,192,193,194],[0,8,13,192,193,194],[0,8,13],[0,8,13],[2,3,4,5]]
def lv:Nat→List Nat:=J8 lvs
noncomputable def code:Code:=F0 Tryz.f68
noncomputable def fe:FE:=⟨Tryz.f68,code,lv⟩
def A7:List Nat:=[15,18,25,37,59,62,68,71,86,92,99,111]
abbrev X(w0:B4)(n:Nat):XT:=xr (cx w0) 210 lv n
theorem ok(w0:B4):FOK (cx w0) normal_Parse.id fe:=⟨Tryz.func68,by kernel_rfl,by kernel_rfl⟩
section
variable (Z:XT)(w0:B4)(n:Nat)(R:RT)(σ:A1)(text whole:List UInt8)(t27:Bool)(r out:AV)(t64:Bool)(first:Int)(h_:AV)(ok t110 t150 t163:Bool)(size:Int)(t192:AV)(t193 t194:Int)
def q13:QT:=F2 (fun env σ=>Z (cAt code 18) 18 (prune (lv 18) env) σ (B9 (cx w0) Tryz.f68 n R)) (B9 (cx w0) Tryz.f68 n R)
def q23:QT:=F2 (fun env σ=>Z (cAt code 92) 92 (prune (lv 92) env) σ (B9 (cx w0) Tryz.f68 n R)) (B9 (cx w0) Tryz.f68 n R)
def q24:QT:=I3 0 (q23 Z w0 n R)
def q25:QT:=F2 (fun env σ=>Z (cAt code 24) 24 (prune (lv 24) env) σ (q24 Z w0 n R)) (q24 Z w0 n R)
def q32:QT:=I3 1 (q25 Z w0 n R)
def q35:QT:=F2 (fun env σ=>A5 (cx w0) 210 lv n A7 Z (cAt code 40) 40 (prune (lv 40) env) σ (q32 Z w0 n R)) (q32 Z w0 n R)
def q57:QT:=F2 (fun env σ=>Z (cAt code 68) 68 (prune (lv 68) env) σ (q32 Z w0 n R)) (q32 Z w0 n R)
def q69:QT:=F2 (fun env σ=>A5 (cx w0) 210 lv n A7 Z (cAt code 76) 76 (prune (lv 76) env) σ (q32 Z w0 n R)) (q32 Z w0 n R)
def q77:QT:=F2 (fun env σ=>A5 (cx w0) 210 lv n A7 Z (cAt code 91) 91 (prune (lv 91) env) σ (q32 Z w0 n R)) (q32 Z w0 n R)
def q78:QT:=I3 2 (q77 Z w0 n R)
def q95:QT:=F2 (fun env σ=>Z (cAt code 111) 111 (prune (lv 111) env) σ (B9 (cx w0) Tryz.f68 n R)) (B9 (cx w0) Tryz.f68 n R)
def q98:QT:=I3 3 (q95 Z w0 n R)
def q99:QT:=F2 (fun env σ=>Z (cAt code 98) 98 (prune (lv 98) env) σ (q98 Z w0 n R)) (q98 Z w0 n R)
def n15:Prop:=
 Z (cAt code 15) 15 [(0,(.pv (.str text))),(6,(.pv (.str whole))),(27,(.pv (.bool t27)))] σ (q13 Z w0 n R)
def b15:Prop:=
 A5 (cx w0) 210 lv n A7 Z (cAt code 15) 15 [(0,(.pv (.str text))),(6,(.pv (.str whole))),(27,(.pv (.bool t27)))] σ (q13 Z w0 n R)
def n18:Prop:=
 Z (cAt code 18) 18 [(0,(.pv (.str text))),(6,(.pv (.str whole)))] σ (B9 (cx w0) Tryz.f68 n R)
def b18:Prop:=
 A5 (cx w0) 210 lv n A7 Z (cAt code 18) 18 [(0,(.pv (.str text))),(6,(.pv (.str whole)))] σ (B9 (cx w0) Tryz.f68 n R)
def n24:Prop:=
 Z (cAt code 24) 24 [(0,(.pv (.str text))),(7,r),(8,out)] σ (q24 Z w0 n R)
def b25:Prop:=
 A5 (cx w0) 210 lv n A7 Z (cAt code 25) 25 [(0,(.pv (.str text))),(7,r),(8,out)] σ (q25 Z w0 n R)
def n37:Prop:=
 Z (cAt code 37) 37 [(0,(.pv (.str text))),(7,r),(8,out),(64,(.pv (.bool t64)))] σ (q35 Z w0 n R)
def b37:Prop:=
 A5 (cx w0) 210 lv n A7 Z (cAt code 37) 37 [(0,(.pv (.str text))),(7,r),(8,out),(64,(.pv (.bool t64)))] σ (q35 Z w0 n R)
def n59:Prop:=
 Z (cAt code 59) 59 [(0,(.pv (.str text))),(7,r),(8,out),(10,(.pv (.int .i64 first))),(11,h_),(12,(.pv (.bool ok))),(110,(.pv (.bool t110)))] σ (q57 Z w0 n R)
def b59:Prop:=
 A5 (cx w0) 210 lv n A7 Z (cAt code 59) 59 [(0,(.pv (.str text))),(7,r),(8,out),(10,(.pv (.int .i64 first))),(11,h_),(12,(.pv (.bool ok))),(110,(.pv (.bool t110)))] σ (q57 Z w0 n R)
def n62:Prop:=
 Z (cAt code 62) 62 [(0,(.pv (.str text))),(7,r),(8,out),(10,(.pv (.int .i64 first))),(11,h_),(12,(.pv (.bool ok)))] σ (q57 Z w0 n R)
def b62:Prop:=
 A5 (cx w0) 210 lv n A7 Z (cAt code 62) 62 [(0,(.pv (.str text))),(7,r),(8,out),(10,(.pv (.int .i64 first))),(11,h_),(12,(.pv (.bool ok)))] σ (q57 Z w0 n R)
def n68:Prop:=
 Z (cAt code 68) 68 [(0,(.pv (.str text))),(7,r),(8,out),(10,(.pv (.int .i64 first))),(11,h_),(12,(.pv (.bool ok)))] σ (q32 Z w0 n R)
def b68:Prop:=
 A5 (cx w0) 210 lv n A7 Z (cAt code 68) 68 [(0,(.pv (.str text))),(7,r),(8,out),(10,(.pv (.int .i64 first))),(11,h_),(12,(.pv (.bool ok)))] σ (q32 Z w0 n R)
def n71:Prop:=
 Z (cAt code 71) 71 [(0,(.pv (.str text))),(7,r),(8,out),(10,(.pv (.int .i64 first))),(11,h_),(150,(.pv (.bool t150)))] σ (q69 Z w0 n R)
def b71:Prop:=
 A5 (cx w0) 210 lv n A7 Z (cAt code 71) 71 [(0,(.pv (.str text))),(7,r),(8,out),(10,(.pv (.int .i64 first))),(11,h_),(150,(.pv (.bool t150)))] σ (q69 Z w0 n R)
def n86:Prop:=
 Z (cAt code 86) 86 [(0,(.pv (.str text))),(7,r),(8,out),(10,(.pv (.int .i64 first))),(11,h_),(163,(.pv (.bool t163)))] σ (q78 Z w0 n R)
def b86:Prop:=
 A5 (cx w0) 210 lv n A7 Z (cAt code 86) 86 [(0,(.pv (.str text))),(7,r),(8,out),(10,(.pv (.int .i64 first))),(11,h_),(163,(.pv (.bool t163)))] σ (q78 Z w0 n R)
def n92:Prop:=
 Z (cAt code 92) 92 [(0,(.pv (.str text))),(7,r),(8,out)] σ (B9 (cx w0) Tryz.f68 n R)
def b92:Prop:=
 A5 (cx w0) 210 lv n A7 Z (cAt code 92) 92 [(0,(.pv (.str text))),(7,r),(8,out)] σ (B9 (cx w0) Tryz.f68 n R)
def n98:Prop:=
 Z (cAt code 98) 98 [(0,(.pv (.str text))),(8,out),(13,(.pv (.int .i64 size))),(192,t192),(193,(.pv (.int .i64 t193))),(194,(.pv (.int .i64 t194)))] σ (q98 Z w0 n R)
def b99:Prop:=
 A5 (cx w0) 210 lv n A7 Z (cAt code 99) 99 [(0,(.pv (.str text))),(8,out),(13,(.pv (.int .i64 size))),(192,t192),(193,(.pv (.int .i64 t193))),(194,(.pv (.int .i64 t194)))] σ (q99 Z w0 n R)
def n111:Prop:=
 Z (cAt code 111) 111 [(0,(.pv (.str text))),(8,out),(13,(.pv (.int .i64 size)))] σ (B9 (cx w0) Tryz.f68 n R)
def b111:Prop:=
 A5 (cx w0) 210 lv n A7 Z (cAt code 111) 111 [(0,(.pv (.str text))),(8,out),(13,(.pv (.int .i64 size)))] σ (B9 (cx w0) Tryz.f68 n R)
def b0:Prop:=
 A5 (cx w0) 210 lv n A7 Z code 0 (H3 0 [(.pv (.str text))]) σ (B9 (cx w0) Tryz.f68 n R)
end
variable {Z:XT}{w0:B4}{n:Nat}{R:RT}{σ τ:A1}{text whole text':List UInt8}{t27 t64 ok t110 t150 t163:Bool}{r out h_ t192 r' out' t192':AV}{first size t193 t194 size' t193' t194':Int}
theorem b15_eq:b15 Z w0 n R σ text whole t27=(
 B1 t27 ((List.length (whole:List UInt8)+List.length ([10]:List UInt8)≤9223372036854775807∧(n18 Z w0 n R σ text (whole ++ [10])))) (n18 Z w0 n R σ text whole)):=by kernel_rfl
theorem n15_in(h:b15 (X w0 n) w0 n R σ text whole t27):n15 (X w0 n) w0 n R σ text whole t27:=E1 (S:=A7) (by kernel_rfl) @h
theorem b18_eq:b18 Z w0 n R σ text whole=(
 A2 (cx w0) C9.id [(.pv (.str whole))] σ fun r σ'=>opt (N3 B3 T4 [(0,r)]) fun t32=>((AV.cells t32).all AV.one=true∧(n24 Z w0 n R (σ' ++ [.cells 167 (AV.cells t32)]) text (.ptr (List.length σ') 0) .nilsl))):=by kernel_rfl
theorem n18_in(h:b18 (X w0 n) w0 n R σ text whole):n18 (X w0 n) w0 n R σ text whole:=E1 (S:=A7) (by kernel_rfl) @h
theorem n24_in(h:b25 (X w0 n) w0 n R σ text r out):n24 (X w0 n) w0 n R σ text r out:=J9 (I4 w0) (S:=A7) (by kernel_rfl:cAt code 24 = .loop (cAt code 25)) @h
theorem n24_weak(e:N2 (cx w0) n [(0,(.pv (.str text))),(7,r),(8,out)] σ [(0,(.pv (.str text'))),(7,r'),(8,out')] τ)(h:n24 (X w0 n) w0 n R τ text' r' out'):n24 (X w0 n) w0 n R σ text r out:=U3 (L:=lv) (k:=24) (by kernel_rfl:cAt code 24 = .loop (cAt code 25)) @e @h
theorem b25_eq:b25 Z w0 n R σ text r out=(
 opt (B2 r) fun t35=>opt (A3 B3 T4.td t35 1) fun t36=>opt (A6 σ ti3 t36) fun t37=>isI .i64 t37 fun t37_1=>opt (B2 r) fun t39=>opt (A3 B3 T4.td t39 0) fun t40=>opt (A6 σ J7 t40) fun t41=>opt (R5 J7.td t41) fun t42=>isI .i64 t42 fun t42_1=>B1 (decide ((t37_1:Int)<t42_1)) (opt (B2 r) fun t45=>opt (A3 B3 T4.td t45 0) fun t46=>opt (A6 σ J7 t46) fun t47=>opt (B2 r) fun t49=>opt (A3 B3 T4.td t49 1) fun t50=>opt (A6 σ ti3 t50) fun t51=>isI .i64 t51 fun t51_1=>opt (D1 σ B3 J7.td t47 t51_1) fun t52=>opt (A6 σ ti9 t52) fun t53=>isS t53 fun t53_1=>opt (L7 B3 ti9.td (.pv (.str t53_1)) 0) fun t54=>isI .u8 t54 fun t54_1=>B1 ((t54_1:Int) != 92) (B1 (decide ((t54_1:Int)<48)) (n37 Z w0 n R σ text r out true) (n37 Z w0 n R σ text r out (decide ((t54_1:Int)>57)))) (n37 Z w0 n R σ text r out false)) (n92 Z w0 n R σ text r out)):=by kernel_rfl
theorem b37_eq:b37 Z w0 n R σ text r out t64=(
 B1 t64 (n92 Z w0 n R σ text r out) (opt (B2 r) fun t66=>opt (A3 B3 T4.td t66 1) fun t67=>opt (A6 σ ti3 t67) fun t68=>isI .i64 t68 fun t68_1=>opt (B2 r) fun t72=>opt (A3 B3 T4.td t72 0) fun t73=>opt (A6 σ J7 t73) fun t74=>opt (B2 r) fun t76=>opt (A3 B3 T4.td t76 1) fun t77=>opt (A6 σ ti3 t77) fun t78=>isI .i64 t78 fun t78_1=>opt (D1 σ B3 J7.td t74 t78_1) fun t79=>opt (A6 σ ti9 t79) fun t80=>isS t80 fun t80_1=>aloneK (cx w0) L6.id [(.pv (.str t80_1))] fun r_1=>isS r_1 fun t81=>aloneK (cx w0) normal_command.id [(.pv (.str t81))] fun r_2=>isTup r_2 fun vs=>opt ((vs)[0]?) fun t83=>isTup r_2 fun vs_1=>opt ((vs_1)[1]?) fun t84=>isB t84 fun t84_1=>opt (C2 (σ ++ [.cells 46 (AV.ofValue G1.zero).cells]) G1 (.ptr (List.length σ+0) 0) t83) fun σ'=>B1 (!t84_1) (opt (G4 61 (.pv (.int .i64 130))) fun t88=>D9 (cx w0) n (.tup [.nilsl,(.pv (.str [])),(.pv (.int .i64 (IntKind.wrap .i64 (t68_1+1)))),t88]) σ' R) (opt (B2 r) fun t90=>opt (A3 B3 T4.td t90 1) fun t91=>opt (A6 σ' ti3 t91) fun t92=>isI .i64 t92 fun t92_1=>opt (B2 r) fun t94=>opt (A3 B3 T4.td t94 1) fun t95=>opt (C2 σ' ti3 t95 (.pv (.int .i64 (IntKind.wrap .i64 (t92_1+1))))) fun σ'_1=>opt (A3 B3 G1.td (.ptr (List.length σ+0) 0) 1) fun t97=>opt (A6 σ'_1 ti3 t97) fun t98=>isI .i64 t98 fun t98_1=>A2 (cx w0) normal_reader_take.id [r,(.ptr (List.length σ+0) 0),(.pv (.int .i64 t98_1)),(.pv (.str [60,32])),(.pv (.int .i64 2))] σ'_1 fun r_3 σ'_2=>isB r_3 fun t99=>B1 t99 (opt (A3 B3 G1.td (.ptr (List.length σ+0) 0) 1) fun t102=>opt (A6 σ'_2 ti3 t102) fun t103=>isI .i64 t103 fun t103_1=>B1 (decide ((t103_1:Int)>0)) (opt (A3 B3 G1.td (.ptr (List.length σ+0) 0) 3) fun t107=>opt (A6 σ'_2 ti3 t107) fun t108=>isI .i64 t108 fun t108_1=>n59 Z w0 n R σ'_2 text r out (IntKind.wrap .i64 (t68_1+1)) (.ptr (List.length σ+0) 0) t99 (decide ((t108_1:Int)>0))) (n59 Z w0 n R σ'_2 text r out (IntKind.wrap .i64 (t68_1+1)) (.ptr (List.length σ+0) 0) t99 false)) (n59 Z w0 n R σ'_2 text r out (IntKind.wrap .i64 (t68_1+1)) (.ptr (List.length σ+0) 0) t99 false)))):=by kernel_rfl
theorem n37_in(h:b37 (X w0 n) w0 n R σ text r out t64):n37 (X w0 n) w0 n R σ text r out t64:=E1 (S:=A7) (by kernel_rfl) @h
theorem b59_eq:b59 Z w0 n R σ text r out first h_ ok t110=(
 B1 t110 (opt (B2 r) fun t112=>opt (A3 B3 T4.td t112 1) fun t113=>opt (A6 σ ti3 t113) fun t114=>isI .i64 t114 fun t114_1=>opt (B2 r) fun t116=>opt (A3 B3 T4.td t116 0) fun t117=>opt (A6 σ J7 t117) fun t118=>opt (R5 J7.td t118) fun t119=>isI .i64 t119 fun t119_1=>B1 (decide ((t114_1:Int)<t119_1)) (opt (B2 r) fun t123=>opt (A3 B3 T4.td t123 0) fun t124=>opt (A6 σ J7 t124) fun t125=>opt (B2 r) fun t127=>opt (A3 B3 T4.td t127 1) fun t128=>opt (A6 σ ti3 t128) fun t129=>isI .i64 t129 fun t129_1=>opt (D1 σ B3 J7.td t125 t129_1) fun t130=>opt (A6 σ ti9 t130) fun t131=>isS t131 fun t131_1=>n62 Z w0 n R σ text r out first h_ ((t131_1:List UInt8) == [45,45,45,10])) (n62 Z w0 n R σ text r out first h_ false)) (n68 Z w0 n R σ text r out first h_ ok)):=by kernel_rfl
theorem n59_in(h:b59 (X w0 n) w0 n R σ text r out first h_ ok t110):n59 (X w0 n) w0 n R σ text r out first h_ ok t110:=E1 (S:=A7) (by kernel_rfl) @h
theorem b62_eq:b62 Z w0 n R σ text r out first h_ ok=(
 B1 ok (opt (B2 r) fun t136=>opt (A3 B3 T4.td t136 1) fun t137=>opt (A6 σ ti3 t137) fun t138=>isI .i64 t138 fun t138_1=>opt (B2 r) fun t140=>opt (A3 B3 T4.td t140 1) fun t141=>opt (C2 σ ti3 t141 (.pv (.int .i64 (IntKind.wrap .i64 (t138_1+1))))) fun σ'=>n68 Z w0 n R σ' text r out first h_ ok) (n68 Z w0 n R σ text r out first h_ ok)):=by kernel_rfl
theorem n62_in(h:b62 (X w0 n) w0 n R σ text r out first h_ ok):n62 (X w0 n) w0 n R σ text r out first h_ ok:=E1 (S:=A7) (by kernel_rfl) @h
theorem b68_eq:b68 Z w0 n R σ text r out first h_ ok=(
 B1 (!ok) (n71 Z w0 n R σ text r out first h_ true) (opt (A3 B3 G1.td h_ 3) fun t146=>opt (A6 σ ti3 t146) fun t147=>isI .i64 t147 fun t147_1=>A2 (cx w0) normal_reader_take.id [r,h_,(.pv (.int .i64 t147_1)),(.pv (.str [62,32])),(.pv (.int .i64 3))] σ fun r_1 σ'=>isB r_1 fun t148=>n71 Z w0 n R σ' text r out first h_ (!t148))):=by kernel_rfl
theorem n68_in(h:b68 (X w0 n) w0 n R σ text r out first h_ ok):n68 (X w0 n) w0 n R σ text r out first h_ ok:=E1 (S:=A7) (by kernel_rfl) @h
theorem b71_eq:b71 Z w0 n R σ text r out first h_ t150=(
 B1 t150 (opt (B2 r) fun t152=>opt (A3 B3 T4.td t152 1) fun t153=>opt (A6 σ ti3 t153) fun t154=>isI .i64 t154 fun t154_1=>opt (G4 61 (.pv (.int .i64 130))) fun t156=>((opt (A6 σ ti3 t153) fun t154_2=>((t154_2:AV)=(.pv (.int .i64 t154_1))))∧(((opt (A6 σ ti3 t153) fun t154_3=>((t154_3:AV)=(.pv (.int .i64 t154_1))))∧(D9 (cx w0) n (.tup [.nilsl,(.pv (.str [])),(.pv (.int .i64 (IntKind.wrap .i64 (t154_1+1)))),t156]) σ R))))) (opt (A6 σ G1 h_) fun t158=>A2 (cx w0) M0.id [t158] σ fun r_1 σ'=>Q9 B3 24 true .neq r_1 (.pv (.raw .nilIface)) fun v=>isB v fun b=>B1 b (opt (G4 61 (.pv (.int .i64 130))) fun t162=>D9 (cx w0) n (.tup [.nilsl,(.pv (.str [])),(.pv (.int .i64 first)),t162]) σ' R) (opt (R5 ti29.td out) fun t165=>isI .i64 t165 fun t165_1=>B1 (decide ((t165_1:Int)>0)) (opt (R5 ti29.td out) fun t170=>isI .i64 t170 fun t170_1=>opt (D1 σ' B3 ti29.td out (IntKind.wrap .i64 (t170_1-1))) fun t172=>opt (A6 σ' G1 t172) fun t173=>opt (A6 σ' G1 h_) fun t174=>A2 (cx w0) normal_follows.id [t173,t174] σ' fun r_2 σ'_1=>isB r_2 fun t175=>n86 Z w0 n R σ'_1 text r out first h_ (!t175)) (n86 Z w0 n R σ' text r out first h_ false)))):=by kernel_rfl
theorem n71_in(h:b71 (X w0 n) w0 n R σ text r out first h_ t150):n71 (X w0 n) w0 n R σ text r out first h_ t150:=E1 (S:=A7) (by kernel_rfl) @h
theorem b86_eq:b86 Z w0 n R σ text r out first h_ t163=(
 B1 t163 (opt (G4 61 (.pv (.int .i64 112))) fun t179=>D9 (cx w0) n (.tup [.nilsl,(.pv (.str [])),(.pv (.int .i64 first)),t179]) σ R) (opt (A6 σ G1 h_) fun t181=>opt2 (H9 σ G1 false 1 [(0,t181)]) fun t182 σ'=>opt2 (L0 σ' G1 out t182) fun t183 σ'_1=>n24 Z w0 n R σ'_1 text r t183)):=by kernel_rfl
theorem n86_in(h:b86 (X w0 n) w0 n R σ text r out first h_ t163):n86 (X w0 n) w0 n R σ text r out first h_ t163:=E1 (S:=A7) (by kernel_rfl) @h
theorem b92_eq:b92 Z w0 n R σ text r out=(
 opt (B2 r) fun t185=>opt (A3 B3 T4.td t185 0) fun t186=>opt (A6 σ J7 t186) fun t187=>opt (B2 r) fun t189=>opt (A3 B3 T4.td t189 1) fun t190=>opt (A6 σ ti3 t190) fun t191=>isI .i64 t191 fun t191_1=>opt (G7 σ B3 J7.td t187 none (some (.pv (.int .i64 t191_1)))) fun t192=>opt (R5 J7.td t192) fun t193=>isI .i64 t193 fun t193_1=>n98 Z w0 n R σ text out 0 t192 t193_1 0):=by kernel_rfl
theorem n92_in(h:b92 (X w0 n) w0 n R σ text r out):n92 (X w0 n) w0 n R σ text r out:=E1 (S:=A7) (by kernel_rfl) @h
theorem n98_in(h:b99 (X w0 n) w0 n R σ text out size t192 t193 t194):n98 (X w0 n) w0 n R σ text out size t192 t193 t194:=J9 (I4 w0) (S:=A7) (by kernel_rfl:cAt code 98 = .loop (cAt code 99)) @h
theorem b99_eq:b99 Z w0 n R σ text out size t192 t193 t194=(
 B1 (decide ((t194:Int)<t193)) (opt (D1 σ B3 J7.td t192 t194) fun t196=>opt (A6 σ ti9 t196) fun t197=>isS t197 fun t197_1=>n98 Z w0 n R σ text out (IntKind.wrap .i64 (size+(List.length (t197_1:List UInt8):Int))) t192 t193 (IntKind.wrap .i64 (t194+1))) (n111 Z w0 n R σ text out size)):=by kernel_rfl
theorem b111_eq:b111 Z w0 n R σ text out size=(
 opt (G7 σ B3 ti9.td (.pv (.str text)) (some (.pv (.int .i64 (if ((List.length (text:List UInt8):Int):Int)<size then (List.length (text:List UInt8):Int) else size)))) none) fun t209=>isS t209 fun t209_1=>((opt (G7 σ B3 ti9.td (.pv (.str text)) (some (.pv (.int .i64 (if ((List.length (text:List UInt8):Int):Int)<size then (List.length (text:List UInt8):Int) else size)))) none) fun t209_2=>((t209_2:AV)=(.pv (.str t209_1))))∧(D9 (cx w0) n (.tup [out,(.pv (.str t209_1)),(.pv (.int .i64 0)),(.pv (.raw .nilIface))]) σ R))):=by kernel_rfl
theorem n111_in(h:b111 (X w0 n) w0 n R σ text out size):n111 (X w0 n) w0 n R σ text out size:=E1 (S:=A7) (by kernel_rfl) @h
theorem b0_eq:b0 Z w0 n R σ text=(
 B1 (decide (((List.length (text:List UInt8):Int):Int)>4194304)) (opt (G4 61 (.pv (.int .i64 2))) fun t19=>D9 (cx w0) n (.tup [.nilsl,(.pv (.str [])),(.pv (.int .i64 0)),t19]) σ R) (B1 (!((text:List UInt8) == [])) (A2 (cx w0) M4.id [(.pv (.str text))] σ fun r σ'=>isB r fun t25=>n15 Z w0 n R σ' text text (!t25)) (n15 Z w0 n R σ text text false))):=by kernel_rfl
theorem calls(h:b0 (X w0 (List.length σ)) w0 (List.length σ) R σ text):A2 (cx w0) normal_Parse.id [(.pv (.str text))] σ R:=
 D0 (I4 w0) (x:=fe) (S:=A7) (normal_Parse.ok w0) (by kernel_rfl) @h
attribute [irreducible] n15 b15 n18 b18 n24 b25 n37 b37 n59 b59 n62 b62 n68 b68 n71 b71 n86 b86 n92 b92 n98 b99 n111 b111 b0
end normal_Parse
end Go.Sv
