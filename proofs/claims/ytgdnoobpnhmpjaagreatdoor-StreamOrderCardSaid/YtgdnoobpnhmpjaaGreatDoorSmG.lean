/- What the code of Go functions comes to over abstract stores, piece by piece; each equation by the kernel. Printed by a program of this session. -/
import Derived.Test.YtgdnoobpnhmpjaaGreatDoorSvT
import Derived.KernelRfl
set_option linter.unusedVariables false
set_option maxRecDepth 100000
namespace Go.Sv
open Go Go.Proofs
namespace stream_header
def lvs:List (List Nat):=[[0],[0],[0],[0],[2]]
def lv:Nat→List Nat:=J8 lvs
noncomputable def code:Code:=F0 Tryz.f41
noncomputable def fe:FE:=⟨Tryz.f41,code,lv⟩
def A7:List Nat:=[4]
abbrev X(w0:B4)(n:Nat):XT:=xr (cx w0) 18 lv n
theorem ok(w0:B4):FOK (cx w0) stream_header.id fe:=⟨Tryz.func41,by kernel_rfl,by kernel_rfl⟩
section
variable (Z:XT)(w0:B4)(n:Nat)(R:RT)(σ:A1)(t2:Bool)(l_:AV)
def n4:Prop:=
 Z (cAt code 4) 4 [(2,(.pv (.bool t2)))] σ (B9 (cx w0) Tryz.f41 n R)
def b4:Prop:=
 A5 (cx w0) 18 lv n A7 Z (cAt code 4) 4 [(2,(.pv (.bool t2)))] σ (B9 (cx w0) Tryz.f41 n R)
def b0:Prop:=
 A5 (cx w0) 18 lv n A7 Z code 0 (H3 0 [l_]) σ (B9 (cx w0) Tryz.f41 n R)
end
variable {Z:XT}{w0:B4}{n:Nat}{R:RT}{σ τ:A1}{t2:Bool}{l_:AV}
theorem b4_eq:b4 Z w0 n R σ t2=(
 D9 (cx w0) n (.pv (.bool t2)) σ R):=by kernel_rfl
theorem n4_in(h:b4 (X w0 n) w0 n R σ t2):n4 (X w0 n) w0 n R σ t2:=E1 (S:=A7) (by kernel_rfl) @h
theorem b0_eq:b0 Z w0 n R σ l_=(
 opt (R5 J7.td l_) fun t4=>isI .i64 t4 fun t4_1=>B1 (decide ((t4_1:Int)>1)) (opt (D1 σ B3 J7.td l_ 0) fun t8=>opt (A6 σ ti9 t8) fun t9=>isS t9 fun t9_1=>A2 (cx w0) strings_HasPrefix.id [(.pv (.str t9_1)),(.pv (.str [45,45,45,32]))] σ fun r σ'=>isB r fun t10=>B1 t10 (opt (D1 σ' B3 J7.td l_ 1) fun t14=>opt (A6 σ' ti9 t14) fun t15=>isS t15 fun t15_1=>A2 (cx w0) strings_HasPrefix.id [(.pv (.str t15_1)),(.pv (.str [43,43,43,32]))] σ' fun r_1 σ'_1=>isB r_1 fun t16=>n4 Z w0 n R σ'_1 t16) (n4 Z w0 n R σ' false)) (n4 Z w0 n R σ false)):=by kernel_rfl
theorem calls(h:b0 (X w0 (List.length σ)) w0 (List.length σ) R σ l_):A2 (cx w0) stream_header.id [l_] σ R:=
 D0 (I4 w0) (x:=fe) (S:=A7) (stream_header.ok w0) (by kernel_rfl) @h
attribute [irreducible] n4 b4 b0
end stream_header
namespace stream_first
def lvs:List (List Nat):=[[0],[0],[0],[0],[0,6],[0,6],[0,6],[0,16],[],[],[2,3,4,5],[0],[0],[0],[0,6,7],[0,6,7],[0,6,7],[0,6,7,23],[0,7],[0,6,7],[0,6,7],[0,6,7],[0,6,7],[0,7,30],[],[],[2,3,4,5],[0,7],[0,7],[0,7],[0,6,7,8],[0,6,7,8],[0,6,7,8],[0,6,7,8,37],[0,7,8],[0,6,7,8],[0,6,7,8],[0,6,7,8],[2,3,4,5]]
def lv:Nat→List Nat:=J8 lvs
noncomputable def code:Code:=F0 Tryz.f42
noncomputable def fe:FE:=⟨Tryz.f42,code,lv⟩
def A7:List Nat:=[20,36,38]
abbrev X(w0:B4)(n:Nat):XT:=xr (cx w0) 56 lv n
theorem ok(w0:B4):FOK (cx w0) stream_first.id fe:=⟨Tryz.func42,by kernel_rfl,by kernel_rfl⟩
section
variable (Z:XT)(w0:B4)(n:Nat)(R:RT)(σ:A1)(s:List UInt8)(ok:Bool)(a b t2 t3:Int)(t4:List UInt8)(t5:Bool)
def n20:Prop:=
 Z (cAt code 20) 20 [(0,(.pv (.str s))),(6,(.pv (.bool ok))),(7,(.pv (.int .i64 a)))] σ (B9 (cx w0) Tryz.f42 n R)
def b20:Prop:=
 A5 (cx w0) 56 lv n A7 Z (cAt code 20) 20 [(0,(.pv (.str s))),(6,(.pv (.bool ok))),(7,(.pv (.int .i64 a)))] σ (B9 (cx w0) Tryz.f42 n R)
def n36:Prop:=
 Z (cAt code 36) 36 [(0,(.pv (.str s))),(6,(.pv (.bool ok))),(7,(.pv (.int .i64 a))),(8,(.pv (.int .i64 b)))] σ (B9 (cx w0) Tryz.f42 n R)
def b36:Prop:=
 A5 (cx w0) 56 lv n A7 Z (cAt code 36) 36 [(0,(.pv (.str s))),(6,(.pv (.bool ok))),(7,(.pv (.int .i64 a))),(8,(.pv (.int .i64 b)))] σ (B9 (cx w0) Tryz.f42 n R)
def n38:Prop:=
 Z (cAt code 38) 38 [(2,(.pv (.int .i64 t2))),(3,(.pv (.int .i64 t3))),(4,(.pv (.str t4))),(5,(.pv (.bool t5)))] σ (B9 (cx w0) Tryz.f42 n R)
def b38:Prop:=
 A5 (cx w0) 56 lv n A7 Z (cAt code 38) 38 [(2,(.pv (.int .i64 t2))),(3,(.pv (.int .i64 t3))),(4,(.pv (.str t4))),(5,(.pv (.bool t5)))] σ (B9 (cx w0) Tryz.f42 n R)
def b0:Prop:=
 A5 (cx w0) 56 lv n A7 Z code 0 (H3 0 [(.pv (.str s))]) σ (B9 (cx w0) Tryz.f42 n R)
end
variable {Z:XT}{w0:B4}{n:Nat}{R:RT}{σ τ:A1}{s t4:List UInt8}{ok t5:Bool}{a b t2 t3:Int}
theorem b20_eq:b20 Z w0 n R σ s ok a=(
 B1 (!ok) (D9 (cx w0) n (.tup [(.pv (.int .i64 0)),(.pv (.int .i64 0)),(.pv (.str [])),(.pv (.bool false))]) σ R) (A2 (cx w0) stream_span.id [(.pv (.str s))] σ fun r σ'=>isTup r fun vs=>opt ((vs)[0]?) fun t34=>isI .i64 t34 fun t34_1=>isTup r fun vs_1=>opt ((vs_1)[1]?) fun t35=>isS t35 fun t35_1=>isTup r fun vs_2=>opt ((vs_2)[2]?) fun t36=>isB t36 fun t36_1=>B1 t36_1 (A2 (cx w0) E8.id [(.pv (.str t35_1)),(.pv (.str [32,64,64]))] σ' fun r_1 σ'_1=>isTup r_1 fun vs_3=>opt ((vs_3)[0]?) fun t41=>isS t41 fun t41_1=>isTup r_1 fun vs_4=>opt ((vs_4)[1]?) fun t42=>isB t42 fun t42_1=>n36 Z w0 n R σ'_1 t41_1 t42_1 a t34_1) (n36 Z w0 n R σ' t35_1 t36_1 a t34_1))):=by kernel_rfl
theorem n20_in(h:b20 (X w0 n) w0 n R σ s ok a):n20 (X w0 n) w0 n R σ s ok a:=E1 (S:=A7) (by kernel_rfl) @h
theorem b36_eq:b36 Z w0 n R σ s ok a b=(
 B1 ok (B1 ((s:List UInt8) == []) (n38 Z w0 n R σ a b s true) (opt (L7 B3 ti9.td (.pv (.str s)) 0) fun t52=>isI .u8 t52 fun t52_1=>n38 Z w0 n R σ a b s ((t52_1:Int)==32))) (n38 Z w0 n R σ a b s false)):=by kernel_rfl
theorem n36_in(h:b36 (X w0 n) w0 n R σ s ok a b):n36 (X w0 n) w0 n R σ s ok a b:=E1 (S:=A7) (by kernel_rfl) @h
theorem b38_eq:b38 Z w0 n R σ t2 t3 t4 t5=(
 D9 (cx w0) n (.tup [(.pv (.int .i64 t2)),(.pv (.int .i64 t3)),(.pv (.str t4)),(.pv (.bool t5))]) σ R):=by kernel_rfl
theorem n38_in(h:b38 (X w0 n) w0 n R σ t2 t3 t4 t5):n38 (X w0 n) w0 n R σ t2 t3 t4 t5:=E1 (S:=A7) (by kernel_rfl) @h
theorem b0_eq:b0 Z w0 n R σ s=(
 A2 (cx w0) L6.id [(.pv (.str s))] σ fun r σ'=>isS r fun t11=>A2 (cx w0) E8.id [(.pv (.str t11)),(.pv (.str [64,64,32,45]))] σ' fun r_1 σ'_1=>isTup r_1 fun vs=>opt ((vs)[0]?) fun t13=>isS t13 fun t13_1=>isTup r_1 fun vs_1=>opt ((vs_1)[1]?) fun t14=>isB t14 fun t14_1=>B1 (!t14_1) (D9 (cx w0) n (.tup [(.pv (.int .i64 0)),(.pv (.int .i64 0)),(.pv (.str [])),(.pv (.bool false))]) σ'_1 R) (A2 (cx w0) stream_span.id [(.pv (.str t13_1))] σ'_1 fun r_2 σ'_2=>isTup r_2 fun vs_2=>opt ((vs_2)[0]?) fun t20=>isI .i64 t20 fun t20_1=>isTup r_2 fun vs_3=>opt ((vs_3)[1]?) fun t21=>isS t21 fun t21_1=>isTup r_2 fun vs_4=>opt ((vs_4)[2]?) fun t22=>isB t22 fun t22_1=>B1 t22_1 (A2 (cx w0) E8.id [(.pv (.str t21_1)),(.pv (.str [32,43]))] σ'_2 fun r_3 σ'_3=>isTup r_3 fun vs_5=>opt ((vs_5)[0]?) fun t27=>isS t27 fun t27_1=>isTup r_3 fun vs_6=>opt ((vs_6)[1]?) fun t28=>isB t28 fun t28_1=>n20 Z w0 n R σ'_3 t27_1 t28_1 t20_1) (n20 Z w0 n R σ'_2 t21_1 t22_1 t20_1))):=by kernel_rfl
theorem calls(h:b0 (X w0 (List.length σ)) w0 (List.length σ) R σ s):A2 (cx w0) stream_first.id [(.pv (.str s))] σ R:=
 D0 (I4 w0) (x:=fe) (S:=A7) (stream_first.ok w0) (by kernel_rfl) @h
attribute [irreducible] n20 b20 n36 b36 n38 b38 b0
end stream_first
namespace stream_rows
def lvs:List (List Nat):=[[0],[0],[0],[0],[0,5,6,7],[0,5,6,7],[0,5,6,7],[0,5,6,7],[0,5,6,7],[0,5,6,7],[0,5,6,7,18],[0,5,6,7],[5,6,7],[0,5,6,7],[0,5,6,7],[0,5,6,7],[0,5,6,7],[0,5,6,7,23],[0,5,6,7,23],[0,5,6,7,23],[0,5,6,7,23],[0,5,6,7,23,27],[0,5,6,7,23,27],[0,5,6,7,23],[0,5,6,7,23,27],[0,5,6,7],[0,5,6,7],[0,5,6,7],[0,5,6,7,23],[0,5,6,7,23],[0,5,6,7,23,34],[0,5,6,7],[0,5,6,7,23],[0,5,6,7,23],[0,5,6,7,23,38],[0,5,6,7],[0,5,6,7,23],[0,5,6,7,23],[0,5,6,7,42],[0,5,6,7],[5,6,7],[5,6,7],[2,3,4],[0,5,6,7],[5,6,7],[5,6,7],[2,3,4]]
def lv:Nat→List Nat:=J8 lvs
noncomputable def code:Code:=F0 Tryz.f43
noncomputable def fe:FE:=⟨Tryz.f43,code,lv⟩
def A7:List Nat:=[7,10,24,43,44]
abbrev X(w0:B4)(n:Nat):XT:=xr (cx w0) 49 lv n
theorem ok(w0:B4):FOK (cx w0) stream_rows.id fe:=⟨Tryz.func43,by kernel_rfl,by kernel_rfl⟩
section
variable (Z:XT)(w0:B4)(n:Nat)(R:RT)(σ:A1)(l_:AV)(n_ old new_:Int)(t18:Bool)(t23:Int)(t27:Bool)
def q5:QT:=F2 (fun env σ=>Z (cAt code 44) 44 (prune (lv 44) env) σ (B9 (cx w0) Tryz.f43 n R)) (B9 (cx w0) Tryz.f43 n R)
def q6:QT:=I3 0 (q5 Z w0 n R)
def q7:QT:=F2 (fun env σ=>Z (cAt code 6) 6 (prune (lv 6) env) σ (q6 Z w0 n R)) (q6 Z w0 n R)
def q8:QT:=F2 (fun env σ=>A5 (cx w0) 49 lv n A7 Z (cAt code 13) 13 (prune (lv 13) env) σ (q7 Z w0 n R)) (q7 Z w0 n R)
def q14:QT:=I3 1 (q7 Z w0 n R)
def q15:QT:=F2 (fun env σ=>Z (cAt code 43) 43 (prune (lv 43) env) σ (q14 Z w0 n R)) (q14 Z w0 n R)
def q18:QT:=I3 2 (q15 Z w0 n R)
def n6:Prop:=
 Z (cAt code 6) 6 [(0,l_),(5,(.pv (.int .i64 n_))),(6,(.pv (.int .i64 old))),(7,(.pv (.int .i64 new_)))] σ (q6 Z w0 n R)
def b7:Prop:=
 A5 (cx w0) 49 lv n A7 Z (cAt code 7) 7 [(0,l_),(5,(.pv (.int .i64 n_))),(6,(.pv (.int .i64 old))),(7,(.pv (.int .i64 new_)))] σ (q7 Z w0 n R)
def n10:Prop:=
 Z (cAt code 10) 10 [(0,l_),(5,(.pv (.int .i64 n_))),(6,(.pv (.int .i64 old))),(7,(.pv (.int .i64 new_))),(18,(.pv (.bool t18)))] σ (q8 Z w0 n R)
def b10:Prop:=
 A5 (cx w0) 49 lv n A7 Z (cAt code 10) 10 [(0,l_),(5,(.pv (.int .i64 n_))),(6,(.pv (.int .i64 old))),(7,(.pv (.int .i64 new_))),(18,(.pv (.bool t18)))] σ (q8 Z w0 n R)
def n24:Prop:=
 Z (cAt code 24) 24 [(0,l_),(5,(.pv (.int .i64 n_))),(6,(.pv (.int .i64 old))),(7,(.pv (.int .i64 new_))),(23,(.pv (.int .u8 t23))),(27,(.pv (.bool t27)))] σ (q18 Z w0 n R)
def b24:Prop:=
 A5 (cx w0) 49 lv n A7 Z (cAt code 24) 24 [(0,l_),(5,(.pv (.int .i64 n_))),(6,(.pv (.int .i64 old))),(7,(.pv (.int .i64 new_))),(23,(.pv (.int .u8 t23))),(27,(.pv (.bool t27)))] σ (q18 Z w0 n R)
def n43:Prop:=
 Z (cAt code 43) 43 [(0,l_),(5,(.pv (.int .i64 n_))),(6,(.pv (.int .i64 old))),(7,(.pv (.int .i64 new_)))] σ (q14 Z w0 n R)
def b43:Prop:=
 A5 (cx w0) 49 lv n A7 Z (cAt code 43) 43 [(0,l_),(5,(.pv (.int .i64 n_))),(6,(.pv (.int .i64 old))),(7,(.pv (.int .i64 new_)))] σ (q14 Z w0 n R)
def n44:Prop:=
 Z (cAt code 44) 44 [(5,(.pv (.int .i64 n_))),(6,(.pv (.int .i64 old))),(7,(.pv (.int .i64 new_)))] σ (B9 (cx w0) Tryz.f43 n R)
def b44:Prop:=
 A5 (cx w0) 49 lv n A7 Z (cAt code 44) 44 [(5,(.pv (.int .i64 n_))),(6,(.pv (.int .i64 old))),(7,(.pv (.int .i64 new_)))] σ (B9 (cx w0) Tryz.f43 n R)
def b0:Prop:=
 A5 (cx w0) 49 lv n A7 Z code 0 (H3 0 [l_]) σ (B9 (cx w0) Tryz.f43 n R)
end
variable {Z:XT}{w0:B4}{n:Nat}{R:RT}{σ τ:A1}{l_ l_':AV}{n_ old new_ t23 n_' old' new_':Int}{t18 t27:Bool}
theorem n6_in(h:b7 (X w0 n) w0 n R σ l_ n_ old new_):n6 (X w0 n) w0 n R σ l_ n_ old new_:=J9 (I4 w0) (S:=A7) (by kernel_rfl:cAt code 6 = .loop (cAt code 7)) @h
theorem b7_eq:b7 Z w0 n R σ l_ n_ old new_=(
 opt (R5 J7.td l_) fun t10=>isI .i64 t10 fun t10_1=>B1 (decide ((n_:Int)<t10_1)) (opt (G7 σ B3 J7.td l_ (some (.pv (.int .i64 n_))) none) fun t15=>A2 (cx w0) stream_header.id [t15] σ fun r σ'=>isB r fun t16=>n10 Z w0 n R σ' l_ n_ old new_ (!t16)) (n10 Z w0 n R σ l_ n_ old new_ false)):=by kernel_rfl
theorem b10_eq:b10 Z w0 n R σ l_ n_ old new_ t18=(
 B1 t18 (opt (D1 σ B3 J7.td l_ n_) fun t21=>opt (A6 σ ti9 t21) fun t22=>isS t22 fun t22_1=>opt (L7 B3 ti9.td (.pv (.str t22_1)) 0) fun t23=>isI .u8 t23 fun t23_1=>B1 ((t23_1:Int)==32) (n24 Z w0 n R σ l_ n_ old new_ t23_1 ((t23_1:Int)==32)) (n24 Z w0 n R σ l_ n_ old new_ t23_1 ((t23_1:Int)==10))) (n44 Z w0 n R σ n_ old new_)):=by kernel_rfl
theorem n10_in(h:b10 (X w0 n) w0 n R σ l_ n_ old new_ t18):n10 (X w0 n) w0 n R σ l_ n_ old new_ t18:=E1 (S:=A7) (by kernel_rfl) @h
theorem b24_eq:b24 Z w0 n R σ l_ n_ old new_ t23 t27=(
 B1 t27 (n43 Z w0 n R σ l_ n_ (IntKind.wrap .i64 (old+1)) (IntKind.wrap .i64 (new_+1))) (B1 ((t23:Int)==45) (n43 Z w0 n R σ l_ n_ (IntKind.wrap .i64 (old+1)) new_) (B1 ((t23:Int)==43) (n43 Z w0 n R σ l_ n_ old (IntKind.wrap .i64 (new_+1))) (B1 ((t23:Int)==92) (n43 Z w0 n R σ l_ n_ old new_) (D9 (cx w0) n (.tup [(.pv (.int .i64 n_)),(.pv (.int .i64 old)),(.pv (.int .i64 new_))]) σ R))))):=by kernel_rfl
theorem n24_in(h:b24 (X w0 n) w0 n R σ l_ n_ old new_ t23 t27):n24 (X w0 n) w0 n R σ l_ n_ old new_ t23 t27:=E1 (S:=A7) (by kernel_rfl) @h
theorem b43_eq:b43 Z w0 n R σ l_ n_ old new_=(
 n6 Z w0 n R σ l_ (IntKind.wrap .i64 (n_+1)) old new_):=by kernel_rfl
theorem n43_in(h:b43 (X w0 n) w0 n R σ l_ n_ old new_):n43 (X w0 n) w0 n R σ l_ n_ old new_:=E1 (S:=A7) (by kernel_rfl) @h
theorem b44_eq:b44 Z w0 n R σ n_ old new_=(
 D9 (cx w0) n (.tup [(.pv (.int .i64 n_)),(.pv (.int .i64 old)),(.pv (.int .i64 new_))]) σ R):=by kernel_rfl
theorem n44_in(h:b44 (X w0 n) w0 n R σ n_ old new_):n44 (X w0 n) w0 n R σ n_ old new_:=E1 (S:=A7) (by kernel_rfl) @h
theorem b0_eq:b0 Z w0 n R σ l_=(
 n6 Z w0 n R σ l_ 0 0 0):=by kernel_rfl
theorem calls(h:b0 (X w0 (List.length σ)) w0 (List.length σ) R σ l_):A2 (cx w0) stream_rows.id [l_] σ R:=
 D0 (I4 w0) (x:=fe) (S:=A7) (stream_rows.ok w0) (by kernel_rfl) @h
attribute [irreducible] n6 b7 n10 b10 n24 b24 n43 b43 n44 b44 b0
end stream_rows
namespace stream_span
def lvs:List (List Nat):=[[0],[0],[0],[0],[0,5,6],[0,5,6],[0,5,6],[0,5,18],[],[],[2,3,4],[0,5],[0,5],[0,5],[5,7,8,9],[5,7,8,9],[5,7,8,9],[5,7,41],[],[],[2,3,4],[5,7],[5,7],[5,7],[5,10],[5,10],[2,3,4]]
def lv:Nat→List Nat:=J8 lvs
noncomputable def code:Code:=F0 Tryz.f80
noncomputable def fe:FE:=⟨Tryz.f80,code,lv⟩
def A7:List Nat:=[17]
abbrev X(w0:B4)(n:Nat):XT:=xr (cx w0) 49 lv n
theorem ok(w0:B4):FOK (cx w0) stream_span.id fe:=⟨Tryz.func80,by kernel_rfl,by kernel_rfl⟩
section
variable (Z:XT)(w0:B4)(n:Nat)(R:RT)(σ:A1)(H8 first:List UInt8)(t41:Bool)(s:List UInt8)
def q15:QT:=F2 (fun env σ=>A5 (cx w0) 49 lv n A7 Z (cAt code 22) 22 (prune (lv 22) env) σ (B9 (cx w0) Tryz.f80 n R)) (B9 (cx w0) Tryz.f80 n R)
def n17:Prop:=
 Z (cAt code 17) 17 [(5,(.pv (.str H8))),(7,(.pv (.str first))),(41,(.pv (.bool t41)))] σ (q15 Z w0 n R)
def b17:Prop:=
 A5 (cx w0) 49 lv n A7 Z (cAt code 17) 17 [(5,(.pv (.str H8))),(7,(.pv (.str first))),(41,(.pv (.bool t41)))] σ (q15 Z w0 n R)
def b0:Prop:=
 A5 (cx w0) 49 lv n A7 Z code 0 (H3 0 [(.pv (.str s))]) σ (B9 (cx w0) Tryz.f80 n R)
end
variable {Z:XT}{w0:B4}{n:Nat}{R:RT}{σ τ:A1}{H8 first s:List UInt8}{t41:Bool}
theorem b17_eq:b17 Z w0 n R σ H8 first t41=(
 B1 t41 (D9 (cx w0) n (.tup [(.pv (.int .i64 0)),(.pv (.str [])),(.pv (.bool false))]) σ R) (A2 (cx w0) strconv_Atoi.id [(.pv (.str first))] σ fun r σ'=>isTup r fun vs=>opt ((vs)[0]?) fun t45=>isI .i64 t45 fun t45_1=>isTup r fun vs_1=>opt ((vs_1)[1]?) fun t46=>D9 (cx w0) n (.tup [(.pv (.int .i64 t45_1)),(.pv (.str H8)),(.pv (.bool true))]) σ' R)):=by kernel_rfl
theorem n17_in(h:b17 (X w0 n) w0 n R σ H8 first t41):n17 (X w0 n) w0 n R σ H8 first t41:=E1 (S:=A7) (by kernel_rfl) @h
theorem b0_eq:b0 Z w0 n R σ s=(
 A2 (cx w0) stream_numbers.id [(.pv (.str s))] σ fun r σ'=>isTup r fun vs=>opt ((vs)[0]?) fun t15=>isS t15 fun t15_1=>isTup r fun vs_1=>opt ((vs_1)[1]?) fun t16=>isB t16 fun t16_1=>B1 (!t16_1) (D9 (cx w0) n (.tup [(.pv (.int .i64 0)),(.pv (.str [])),(.pv (.bool false))]) σ' R) (opt (G7 σ' B3 ti9.td (.pv (.str s)) none (some (.pv (.int .i64 (IntKind.wrap .i64 ((List.length (s:List UInt8):Int)-(List.length (t15_1:List UInt8):Int))))))) fun t26=>isS t26 fun t26_1=>A2 (cx w0) K8.id [(.pv (.str t26_1)),(.pv (.str [44]))] σ' fun r_1 σ'_1=>isTup r_1 fun vs_2=>opt ((vs_2)[0]?) fun t28=>isS t28 fun t28_1=>isTup r_1 fun vs_3=>opt ((vs_3)[1]?) fun t29=>isS t29 fun t29_1=>isTup r_1 fun vs_4=>opt ((vs_4)[2]?) fun t30=>isB t30 fun t30_1=>A2 (cx w0) stream_small.id [(.pv (.str t28_1))] σ'_1 fun r_2 σ'_2=>isB r_2 fun t32=>B1 (!t32) (n17 Z w0 n R σ'_2 t15_1 t28_1 true) (B1 t30_1 (A2 (cx w0) stream_small.id [(.pv (.str t29_1))] σ'_2 fun r_3 σ'_3=>isB r_3 fun t38=>n17 Z w0 n R σ'_3 t15_1 t28_1 (!t38)) (n17 Z w0 n R σ'_2 t15_1 t28_1 false)))):=by kernel_rfl
theorem calls(h:b0 (X w0 (List.length σ)) w0 (List.length σ) R σ s):A2 (cx w0) stream_span.id [(.pv (.str s))] σ R:=
 D0 (I4 w0) (x:=fe) (S:=A7) (stream_span.ok w0) (by kernel_rfl) @h
attribute [irreducible] n17 b17 b0
end stream_span
namespace stream_small
def lvs:List (List Nat):=[[0],[0],[0],[0],[0],[0],[0],[0,9],[],[],[2],[0],[0],[0],[3],[3],[2]]
def lv:Nat→List Nat:=J8 lvs
noncomputable def code:Code:=F0 Tryz.f123
noncomputable def fe:FE:=⟨Tryz.f123,code,lv⟩
def A7:List Nat:=[]
abbrev X(w0:B4)(n:Nat):XT:=xr (cx w0) 18 lv n
theorem ok(w0:B4):FOK (cx w0) stream_small.id fe:=⟨Tryz.func123,by kernel_rfl,by kernel_rfl⟩
section
variable (Z:XT)(w0:B4)(n:Nat)(R:RT)(σ:A1)(s:List UInt8)
def b0:Prop:=
 A5 (cx w0) 18 lv n A7 Z code 0 (H3 0 [(.pv (.str s))]) σ (B9 (cx w0) Tryz.f123 n R)
end
variable {Z:XT}{w0:B4}{n:Nat}{R:RT}{σ τ:A1}{s:List UInt8}
theorem b0_eq:b0 Z w0 n R σ s=(
 A2 (cx w0) F6.id [(.pv (.str s)),(.pv (.str [48]))] σ fun r σ'=>isS r fun t6=>B1 (decide (((List.length (t6:List UInt8):Int):Int)>10)) (D9 (cx w0) n (.pv (.bool false)) σ' R) ((List.length ([48]:List UInt8)+List.length (t6:List UInt8)≤9223372036854775807∧(A2 (cx w0) strconv_Atoi.id [(.pv (.str ([48]++t6)))] σ' fun r_1 σ'_1=>isTup r_1 fun vs=>opt ((vs)[0]?) fun t14=>isI .i64 t14 fun t14_1=>isTup r_1 fun vs_1=>opt ((vs_1)[1]?) fun t15=>D9 (cx w0) n (.pv (.bool (decide ((t14_1:Int)≤2147483647)))) σ'_1 R)))):=by kernel_rfl
theorem calls(h:b0 (X w0 (List.length σ)) w0 (List.length σ) R σ s):A2 (cx w0) stream_small.id [(.pv (.str s))] σ R:=
 D0 (I4 w0) (x:=fe) (S:=A7) (stream_small.ok w0) (by kernel_rfl) @h
attribute [irreducible] b0
end stream_small
namespace stream_numbers
def lvs:List (List Nat):=[[0],[0],[0],[0],[4,5],[4,5],[4,5],[4,5,6,7],[4,5,6,7],[4,5,6,21],[6],[6],[2,3],[4,5],[4,5],[4,5],[2,3]]
def lv:Nat→List Nat:=J8 lvs
noncomputable def code:Code:=F0 Tryz.f90
noncomputable def fe:FE:=⟨Tryz.f90,code,lv⟩
def A7:List Nat:=[9]
abbrev X(w0:B4)(n:Nat):XT:=xr (cx w0) 28 lv n
theorem ok(w0:B4):FOK (cx w0) stream_numbers.id fe:=⟨Tryz.func90,by kernel_rfl,by kernel_rfl⟩
section
variable (Z:XT)(w0:B4)(n:Nat)(R:RT)(σ:A1)(H8:List UInt8)(ok:Bool)(more:List UInt8)(t21:Bool)(s:List UInt8)
def q5:QT:=F2 (fun env σ=>A5 (cx w0) 28 lv n A7 Z (cAt code 14) 14 (prune (lv 14) env) σ (B9 (cx w0) Tryz.f90 n R)) (B9 (cx w0) Tryz.f90 n R)
def n9:Prop:=
 Z (cAt code 9) 9 [(4,(.pv (.str H8))),(5,(.pv (.bool ok))),(6,(.pv (.str more))),(21,(.pv (.bool t21)))] σ (q5 Z w0 n R)
def b9:Prop:=
 A5 (cx w0) 28 lv n A7 Z (cAt code 9) 9 [(4,(.pv (.str H8))),(5,(.pv (.bool ok))),(6,(.pv (.str more))),(21,(.pv (.bool t21)))] σ (q5 Z w0 n R)
def b0:Prop:=
 A5 (cx w0) 28 lv n A7 Z code 0 (H3 0 [(.pv (.str s))]) σ (B9 (cx w0) Tryz.f90 n R)
end
variable {Z:XT}{w0:B4}{n:Nat}{R:RT}{σ τ:A1}{H8 more s:List UInt8}{ok t21:Bool}
theorem b9_eq:b9 Z w0 n R σ H8 ok more t21=(
 B1 t21 (A2 (cx w0) stream_digits.id [(.pv (.str more))] σ fun r σ'=>isTup r fun vs=>opt ((vs)[0]?) fun t24=>isS t24 fun t24_1=>isTup r fun vs_1=>opt ((vs_1)[1]?) fun t25=>isB t25 fun t25_1=>D9 (cx w0) n (.tup [(.pv (.str t24_1)),(.pv (.bool t25_1))]) σ' R) (D9 (cx w0) n (.tup [(.pv (.str H8)),(.pv (.bool ok))]) σ R)):=by kernel_rfl
theorem n9_in(h:b9 (X w0 n) w0 n R σ H8 ok more t21):n9 (X w0 n) w0 n R σ H8 ok more t21:=E1 (S:=A7) (by kernel_rfl) @h
theorem b0_eq:b0 Z w0 n R σ s=(
 A2 (cx w0) stream_digits.id [(.pv (.str s))] σ fun r σ'=>isTup r fun vs=>opt ((vs)[0]?) fun t11=>isS t11 fun t11_1=>isTup r fun vs_1=>opt ((vs_1)[1]?) fun t12=>isB t12 fun t12_1=>A2 (cx w0) E8.id [(.pv (.str t11_1)),(.pv (.str [44]))] σ' fun r_1 σ'_1=>isTup r_1 fun vs_2=>opt ((vs_2)[0]?) fun t16=>isS t16 fun t16_1=>isTup r_1 fun vs_3=>opt ((vs_3)[1]?) fun t17=>isB t17 fun t17_1=>B1 t12_1 (n9 Z w0 n R σ'_1 t11_1 t12_1 t16_1 t17_1) (n9 Z w0 n R σ'_1 t11_1 t12_1 t16_1 false)):=by kernel_rfl
theorem calls(h:b0 (X w0 (List.length σ)) w0 (List.length σ) R σ s):A2 (cx w0) stream_numbers.id [(.pv (.str s))] σ R:=
 D0 (I4 w0) (x:=fe) (S:=A7) (stream_numbers.ok w0) (by kernel_rfl) @h
attribute [irreducible] n9 b9 b0
end stream_numbers
namespace stream_digits
def lvs:List (List Nat):=[[0],[0],[0],[0],[0,4],[0,4],[2,3]]
def lv:Nat→List Nat:=J8 lvs
noncomputable def code:Code:=F0 Tryz.f91
noncomputable def fe:FE:=⟨Tryz.f91,code,lv⟩
def A7:List Nat:=[]
abbrev X(w0:B4)(n:Nat):XT:=xr (cx w0) 13 lv n
theorem ok(w0:B4):FOK (cx w0) stream_digits.id fe:=⟨Tryz.func91,by kernel_rfl,by kernel_rfl⟩
section
variable (Z:XT)(w0:B4)(n:Nat)(R:RT)(σ:A1)(s:List UInt8)
def b0:Prop:=
 A5 (cx w0) 13 lv n A7 Z code 0 (H3 0 [(.pv (.str s))]) σ (B9 (cx w0) Tryz.f91 n R)
end
variable {Z:XT}{w0:B4}{n:Nat}{R:RT}{σ τ:A1}{s:List UInt8}
theorem b0_eq:b0 Z w0 n R σ s=(
 A2 (cx w0) F6.id [(.pv (.str s)),(.pv (.str [48,49,50,51,52,53,54,55,56,57]))] σ fun r σ'=>isS r fun t6=>D9 (cx w0) n (.tup [(.pv (.str t6)),(.pv (.bool (decide (((List.length (t6:List UInt8):Int):Int)<(List.length (s:List UInt8):Int)))))]) σ' R):=by kernel_rfl
theorem calls(h:b0 (X w0 (List.length σ)) w0 (List.length σ) R σ s):A2 (cx w0) stream_digits.id [(.pv (.str s))] σ R:=
 D0 (I4 w0) (x:=fe) (S:=A7) (stream_digits.ok w0) (by kernel_rfl) @h
attribute [irreducible] b0
end stream_digits
namespace stream_ranged
def lvs:List (List Nat):=[[0,1],[0,1],[0,1],[0,1],[0,1],[0,1,6],[0],[0],[4],[0,1],[0,1],[0,1],[4]]
def lv:Nat→List Nat:=J8 lvs
noncomputable def code:Code:=F0 Tryz.f45
noncomputable def fe:FE:=⟨Tryz.f45,code,lv⟩
def A7:List Nat:=[]
abbrev X(w0:B4)(n:Nat):XT:=xr (cx w0) 15 lv n
theorem ok(w0:B4):FOK (cx w0) stream_ranged.id fe:=⟨Tryz.func45,by kernel_rfl,by kernel_rfl⟩
section
variable (Z:XT)(w0:B4)(n:Nat)(R:RT)(σ:A1)(at_ count:Int)
def b0:Prop:=
 A5 (cx w0) 15 lv n A7 Z code 0 (H3 0 [(.pv (.int .i64 at_)),(.pv (.int .i64 count))]) σ (B9 (cx w0) Tryz.f45 n R)
end
variable {Z:XT}{w0:B4}{n:Nat}{R:RT}{σ τ:A1}{at_ count:Int}
theorem b0_eq:b0 Z w0 n R σ at_ count=(
 B1 ((count:Int)==1) (A2 (cx w0) strconv_Itoa.id [(.pv (.int .i64 at_))] σ fun r σ'=>isS r fun t8=>D9 (cx w0) n (.pv (.str t8)) σ' R) (A2 (cx w0) strconv_Itoa.id [(.pv (.int .i64 at_))] σ fun r σ'=>isS r fun t10=>(List.length (t10:List UInt8)+List.length ([44]:List UInt8)≤9223372036854775807∧(A2 (cx w0) strconv_Itoa.id [(.pv (.int .i64 count))] σ' fun r_1 σ'_1=>isS r_1 fun t13=>(List.length ((t10 ++ [44]):List UInt8)+List.length (t13:List UInt8)≤9223372036854775807∧(D9 (cx w0) n (.pv (.str ((t10 ++ [44])++t13))) σ'_1 R)))))):=by kernel_rfl
theorem calls(h:b0 (X w0 (List.length σ)) w0 (List.length σ) R σ at_ count):A2 (cx w0) stream_ranged.id [(.pv (.int .i64 at_)),(.pv (.int .i64 count))] σ R:=
 D0 (I4 w0) (x:=fe) (S:=A7) (stream_ranged.ok w0) (by kernel_rfl) @h
attribute [irreducible] b0
end stream_ranged
namespace stream_Recount
variable {Z:XT}{w0:B4}{n:Nat}{R:RT}{σ τ:A1}{l_ l_':AV}{in_ t46 in_':Bool}{i a b i':Int}{H8 text:List UInt8}
end stream_Recount
namespace C9
def lvs:List (List Nat):=[[0],[0],[0],[0],[0,3],[0,3],[0,3],[0,3],[0,3],[0,3],[0,3,6],[0,3],[3],[0,3],[0,3],[0,3],[0,3,4],[0,3,4],[0,3,4],[0,3,4,11],[0,3],[0,3,4],[0,3,4],[0,3,4],[0,3,4],[3],[3],[2]]
def lv:Nat→List Nat:=J8 lvs
noncomputable def code:Code:=F0 Tryz.f21
noncomputable def fe:FE:=⟨Tryz.f21,code,lv⟩
def A7:List Nat:=[7,22,25]
abbrev X(w0:B4)(n:Nat):XT:=xr (cx w0) 24 lv n
theorem ok(w0:B4):FOK (cx w0) C9.id fe:=⟨Tryz.func21,by kernel_rfl,by kernel_rfl⟩
section
variable (Z:XT)(w0:B4)(n:Nat)(R:RT)(σ:A1)(s:List UInt8)(out:AV)(at_:Int)
def q5:QT:=F2 (fun env σ=>Z (cAt code 25) 25 (prune (lv 25) env) σ (B9 (cx w0) Tryz.f21 n R)) (B9 (cx w0) Tryz.f21 n R)
def q6:QT:=I3 0 (q5 Z w0 n R)
def q7:QT:=F2 (fun env σ=>Z (cAt code 6) 6 (prune (lv 6) env) σ (q6 Z w0 n R)) (q6 Z w0 n R)
def q14:QT:=I3 1 (q7 Z w0 n R)
def n6:Prop:=
 Z (cAt code 6) 6 [(0,(.pv (.str s))),(3,out)] σ (q6 Z w0 n R)
def b7:Prop:=
 A5 (cx w0) 24 lv n A7 Z (cAt code 7) 7 [(0,(.pv (.str s))),(3,out)] σ (q7 Z w0 n R)
def n22:Prop:=
 Z (cAt code 22) 22 [(0,(.pv (.str s))),(3,out),(4,(.pv (.int .i64 at_)))] σ (q14 Z w0 n R)
def b22:Prop:=
 A5 (cx w0) 24 lv n A7 Z (cAt code 22) 22 [(0,(.pv (.str s))),(3,out),(4,(.pv (.int .i64 at_)))] σ (q14 Z w0 n R)
def n25:Prop:=
 Z (cAt code 25) 25 [(3,out)] σ (B9 (cx w0) Tryz.f21 n R)
def b25:Prop:=
 A5 (cx w0) 24 lv n A7 Z (cAt code 25) 25 [(3,out)] σ (B9 (cx w0) Tryz.f21 n R)
def b0:Prop:=
 A5 (cx w0) 24 lv n A7 Z code 0 (H3 0 [(.pv (.str s))]) σ (B9 (cx w0) Tryz.f21 n R)
end
variable {Z:XT}{w0:B4}{n:Nat}{R:RT}{σ τ:A1}{s s':List UInt8}{out out':AV}{at_:Int}
theorem n6_in(h:b7 (X w0 n) w0 n R σ s out):n6 (X w0 n) w0 n R σ s out:=J9 (I4 w0) (S:=A7) (by kernel_rfl:cAt code 6 = .loop (cAt code 7)) @h
theorem n6_weak(e:N2 (cx w0) n [(0,(.pv (.str s))),(3,out)] σ [(0,(.pv (.str s'))),(3,out')] τ)(h:n6 (X w0 n) w0 n R τ s' out'):n6 (X w0 n) w0 n R σ s out:=U3 (L:=lv) (k:=6) (by kernel_rfl:cAt code 6 = .loop (cAt code 7)) @e @h
theorem b7_eq:b7 Z w0 n R σ s out=(
 B1 (!((s:List UInt8) == [])) (A2 (cx w0) strings_IndexByte.id [(.pv (.str s)),(.pv (.int .u8 10))] σ fun r σ'=>isI .i64 r fun t8=>B1 (((IntKind.wrap .i64 (t8+1)):Int)==0) (n22 Z w0 n R σ' s out (List.length (s:List UInt8):Int)) (n22 Z w0 n R σ' s out (IntKind.wrap .i64 (t8+1)))) (n25 Z w0 n R σ out)):=by kernel_rfl
theorem b22_eq:b22 Z w0 n R σ s out at_=(
 opt (G7 σ B3 ti9.td (.pv (.str s)) none (some (.pv (.int .i64 at_)))) fun t17=>isS t17 fun t17_1=>opt2 (H9 σ ti9 false 1 [(0,(.pv (.str t17_1)))]) fun t18 σ'=>opt2 (L0 σ' ti9 out t18) fun t19 σ'_1=>opt (G7 σ'_1 B3 ti9.td (.pv (.str s)) (some (.pv (.int .i64 at_))) none) fun t22=>isS t22 fun t22_1=>n6 Z w0 n R σ'_1 t22_1 t19):=by kernel_rfl
theorem n22_in(h:b22 (X w0 n) w0 n R σ s out at_):n22 (X w0 n) w0 n R σ s out at_:=E1 (S:=A7) (by kernel_rfl) @h
theorem b25_eq:b25 Z w0 n R σ out=(
 D9 (cx w0) n out σ R):=by kernel_rfl
theorem n25_in(h:b25 (X w0 n) w0 n R σ out):n25 (X w0 n) w0 n R σ out:=E1 (S:=A7) (by kernel_rfl) @h
theorem b0_eq:b0 Z w0 n R σ s=(
 n6 Z w0 n R σ s .nilsl):=by kernel_rfl
theorem calls(h:b0 (X w0 (List.length σ)) w0 (List.length σ) R σ s):A2 (cx w0) C9.id [(.pv (.str s))] σ R:=
 D0 (I4 w0) (x:=fe) (S:=A7) (C9.ok w0) (by kernel_rfl) @h
attribute [irreducible] n6 b7 n22 b22 n25 b25 b0
end C9
namespace R6
def lvs:List (List Nat):=[[0],[0],[0],[0],[2]]
def lv:Nat→List Nat:=J8 lvs
noncomputable def code:Code:=F0 Tryz.f46
noncomputable def fe:FE:=⟨Tryz.f46,code,lv⟩
def A7:List Nat:=[]
abbrev X(w0:B4)(n:Nat):XT:=xr (cx w0) 5 lv n
theorem ok(w0:B4):FOK (cx w0) R6.id fe:=⟨Tryz.func46,by kernel_rfl,by kernel_rfl⟩
section
variable (Z:XT)(w0:B4)(n:Nat)(R:RT)(σ:A1)(l_:AV)
def b0:Prop:=
 A5 (cx w0) 5 lv n A7 Z code 0 (H3 0 [l_]) σ (B9 (cx w0) Tryz.f46 n R)
end
variable {Z:XT}{w0:B4}{n:Nat}{R:RT}{σ τ:A1}{l_:AV}
theorem b0_eq:b0 Z w0 n R σ l_=(
 A2 (cx w0) strings_Join.id [l_,(.pv (.str []))] σ fun r σ'=>isS r fun t4=>D9 (cx w0) n (.pv (.str t4)) σ' R):=by kernel_rfl
theorem calls(h:b0 (X w0 (List.length σ)) w0 (List.length σ) R σ l_):A2 (cx w0) R6.id [l_] σ R:=
 D0 (I4 w0) (x:=fe) (S:=A7) (R6.ok w0) (by kernel_rfl) @h
attribute [irreducible] b0
end R6
end Go.Sv
