/- What the code of Go functions comes to over abstract stores, piece by piece; each equation by the kernel. Printed by a program of this session. -/
import Derived.Test.YtebgkjjbbnbnlaaGreatDoorSvT
import Derived.KernelRfl
set_option linter.unusedVariables false
set_option maxRecDepth 100000
namespace Go.Sv
open Go Go.Proofs
namespace J5
def lvs:List (List Nat):=[[0],[0],[1],[1],[1],[1,17],[],[],[2,3],[1],[1],[1],[1,4],[1,4],[1,4],[1,4,23],[1,4],[4],[4],[4],[2,3]]
def lv:Nat→List Nat:=O9 lvs
noncomputable def code:Code:=F3 Tryz.f50
noncomputable def fe:FE:=⟨Tryz.f50,code,lv⟩
def A5:List Nat:=[5,18]
abbrev X(w0:B5)(n:Nat):XT:=xr (cx w0) 30 lv n
theorem ok(w0:B5):FOK (cx w0) J5.id fe:=⟨Tryz.func50,by kernel_rfl,by kernel_rfl⟩
section
variable (Z:XT)(w0:B5)(n:Nat)(R:RT)(σ:A2)(n_:AV)(t17:Bool)(s:List UInt8)
def q3:QT:=D6 (fun env σ=>A6 (cx w0) 30 lv n A5 Z (cAt code 10) 10 (prune (lv 10) env) σ (B7 (cx w0) Tryz.f50 n R)) (B7 (cx w0) Tryz.f50 n R)
def n5:Prop:=
 Z (cAt code 5) 5 [(1,n_),(17,(.pv (.bool t17)))] σ (q3 Z w0 n R)
def b5:Prop:=
 A6 (cx w0) 30 lv n A5 Z (cAt code 5) 5 [(1,n_),(17,(.pv (.bool t17)))] σ (q3 Z w0 n R)
def n18:Prop:=
 Z (cAt code 18) 18 [(4,(.pv (.str s)))] σ (B7 (cx w0) Tryz.f50 n R)
def b18:Prop:=
 A6 (cx w0) 30 lv n A5 Z (cAt code 18) 18 [(4,(.pv (.str s)))] σ (B7 (cx w0) Tryz.f50 n R)
def b0:Prop:=
 A6 (cx w0) 30 lv n A5 Z code 0 (J6 0 [n_]) σ (B7 (cx w0) Tryz.f50 n R)
end
variable {Z:XT}{w0:B5}{n:Nat}{R:RT}{σ τ:A2}{n_:AV}{t17:Bool}{s:List UInt8}
theorem b5_eq:b5 Z w0 n R σ n_ t17=(
 B1 t17 (F2 (cx w0) n (.tup [(.pv (.str [])),(.pv (.bool false))]) σ R) (opt (A3 B2 D5.td n_ 0) fun t18=>opt (A4 σ ti9 t18) fun t19=>isS t19 fun t19_1=>A1 (cx w0) J0.id [(.pv (.str t19_1))] σ fun r σ'=>isS r fun t20=>opt (A3 B2 D5.td n_ 1) fun t21=>opt (A4 σ' ti9 t21) fun t22=>isS t22 fun t22_1=>B1 (!((t22_1:List UInt8) == [])) (opt (A3 B2 D5.td n_ 1) fun t25=>opt (A4 σ' ti9 t25) fun t26=>isS t26 fun t26_1=>(List.length ([9]:List UInt8)+List.length (t26_1:List UInt8)≤9223372036854775807∧((List.length (t20:List UInt8)+List.length (([9]++t26_1):List UInt8)≤9223372036854775807∧(n18 Z w0 n R σ' (t20++([9]++t26_1))))))) (n18 Z w0 n R σ' t20))):=by kernel_rfl
theorem n5_in(h:b5 (X w0 n) w0 n R σ n_ t17):n5 (X w0 n) w0 n R σ n_ t17:=E0 (S:=A5) (by kernel_rfl) h
theorem b18_eq:b18 Z w0 n R σ s=(
 F2 (cx w0) n (.tup [(.pv (.str s)),(.pv (.bool true))]) σ R):=by kernel_rfl
theorem n18_in(h:b18 (X w0 n) w0 n R σ s):n18 (X w0 n) w0 n R σ s:=E0 (S:=A5) (by kernel_rfl) h
theorem b0_eq:b0 Z w0 n R σ n_=(
 ((AV.cells n_).all AV.one=true∧(opt (A3 B2 D5.td (.ptr (List.length σ) 0) 0) fun t5=>opt (A4 (σ ++ [.cells 23 (AV.cells n_)]) ti9 t5) fun t6=>isS t6 fun t6_1=>B1 ((t6_1:List UInt8) == []) (n5 Z w0 n R (σ ++ [.cells 23 (AV.cells n_)]) (.ptr (List.length σ) 0) true) (opt (A3 B2 D5.td (.ptr (List.length σ) 0) 0) fun t9=>opt (A4 (σ ++ [.cells 23 (AV.cells n_)]) ti9 t9) fun t10=>isS t10 fun t10_1=>A1 (cx w0) strings_Contains.id [(.pv (.str t10_1)),(.pv (.str [0]))] (σ ++ [.cells 23 (AV.cells n_)]) fun r σ'=>isB r fun t11=>B1 t11 (n5 Z w0 n R σ' (.ptr (List.length σ) 0) true) (opt (A3 B2 D5.td (.ptr (List.length σ) 0) 1) fun t14=>opt (A4 σ' ti9 t14) fun t15=>isS t15 fun t15_1=>A1 (cx w0) strings_ContainsAny.id [(.pv (.str t15_1)),(.pv (.str [9,10,0]))] σ' fun r_1 σ'_1=>isB r_1 fun t16=>n5 Z w0 n R σ'_1 (.ptr (List.length σ) 0) t16))))):=by kernel_rfl
theorem calls(h:b0 (X w0 (List.length σ)) w0 (List.length σ) R σ n_):A1 (cx w0) J5.id [n_] σ R:=
 D3 (J9 w0) (x:=fe) (S:=A5) (J5.ok w0) (by kernel_rfl) h
end J5
namespace S8
def lvs:List (List Nat):=[[0,1],[0,1],[0,1],[0,1],[0,1],[0,1,6],[0],[0],[4],[0,1],[0,1],[0,1],[4]]
def lv:Nat→List Nat:=O9 lvs
noncomputable def code:Code:=F3 Tryz.f97
noncomputable def fe:FE:=⟨Tryz.f97,code,lv⟩
def A5:List Nat:=[]
abbrev X(w0:B5)(n:Nat):XT:=xr (cx w0) 15 lv n
theorem ok(w0:B5):FOK (cx w0) S8.id fe:=⟨Tryz.func97,by kernel_rfl,by kernel_rfl⟩
section
variable (Z:XT)(w0:B5)(n:Nat)(R:RT)(σ:A2)(a n_:Int)
def b0:Prop:=
 A6 (cx w0) 15 lv n A5 Z code 0 (J6 0 [(.pv (.int .i64 a)),(.pv (.int .i64 n_))]) σ (B7 (cx w0) Tryz.f97 n R)
end
variable {Z:XT}{w0:B5}{n:Nat}{R:RT}{σ τ:A2}{a n_:Int}
theorem b0_eq:b0 Z w0 n R σ a n_=(
 B1 ((n_:Int)==1) (A1 (cx w0) strconv_Itoa.id [(.pv (.int .i64 a))] σ fun r σ'=>isS r fun t8=>F2 (cx w0) n (.pv (.str t8)) σ' R) (A1 (cx w0) strconv_Itoa.id [(.pv (.int .i64 a))] σ fun r σ'=>isS r fun t10=>(List.length (t10:List UInt8)+List.length ([44]:List UInt8)≤9223372036854775807∧(A1 (cx w0) strconv_Itoa.id [(.pv (.int .i64 n_))] σ' fun r_1 σ'_1=>isS r_1 fun t13=>(List.length ((t10 ++ [44]):List UInt8)+List.length (t13:List UInt8)≤9223372036854775807∧(F2 (cx w0) n (.pv (.str ((t10 ++ [44])++t13))) σ'_1 R)))))):=by kernel_rfl
theorem calls(h:b0 (X w0 (List.length σ)) w0 (List.length σ) R σ a n_):A1 (cx w0) S8.id [(.pv (.int .i64 a)),(.pv (.int .i64 n_))] σ R:=
 D3 (J9 w0) (x:=fe) (S:=A5) (S8.ok w0) (by kernel_rfl) h
end S8
namespace P4
def lvs:List (List Nat):=[[0,1],[0,1],[0,1],[0,1],[0,1],[0,6],[0],[0],[4],[0],[0],[0],[4]]
def lv:Nat→List Nat:=O9 lvs
noncomputable def code:Code:=F3 Tryz.f96
noncomputable def fe:FE:=⟨Tryz.f96,code,lv⟩
def A5:List Nat:=[]
abbrev X(w0:B5)(n:Nat):XT:=xr (cx w0) 10 lv n
theorem ok(w0:B5):FOK (cx w0) P4.id fe:=⟨Tryz.func96,by kernel_rfl,by kernel_rfl⟩
section
variable (Z:XT)(w0:B5)(n:Nat)(R:RT)(σ:A2)(a n_:Int)
def b0:Prop:=
 A6 (cx w0) 10 lv n A5 Z code 0 (J6 0 [(.pv (.int .i64 a)),(.pv (.int .i64 n_))]) σ (B7 (cx w0) Tryz.f96 n R)
end
variable {Z:XT}{w0:B5}{n:Nat}{R:RT}{σ τ:A2}{a n_:Int}
theorem b0_eq:b0 Z w0 n R σ a n_=(
 B1 ((n_:Int)==0) (F2 (cx w0) n (.pv (.int .i64 a)) σ R) (F2 (cx w0) n (.pv (.int .i64 (IntKind.wrap .i64 (a-1)))) σ R)):=by kernel_rfl
theorem calls(h:b0 (X w0 (List.length σ)) w0 (List.length σ) R σ a n_):A1 (cx w0) P4.id [(.pv (.int .i64 a)),(.pv (.int .i64 n_))] σ R:=
 D3 (J9 w0) (x:=fe) (S:=A5) (P4.ok w0) (by kernel_rfl) h
end P4
namespace L8
def lvs:List (List Nat):=[[0,1],[0,1],[2,3],[2,3],[4]]
def lv:Nat→List Nat:=O9 lvs
noncomputable def code:Code:=F3 Tryz.f51
noncomputable def fe:FE:=⟨Tryz.f51,code,lv⟩
def A5:List Nat:=[4]
abbrev X(w0:B5)(n:Nat):XT:=xr (cx w0) 35 lv n
theorem ok(w0:B5):FOK (cx w0) L8.id fe:=⟨Tryz.func51,by kernel_rfl,by kernel_rfl⟩
section
variable (Z:XT)(w0:B5)(n:Nat)(R:RT)(σ:A2)(t4:Bool)(g h_:AV)
def n4:Prop:=
 Z (cAt code 4) 4 [(4,(.pv (.bool t4)))] σ (B7 (cx w0) Tryz.f51 n R)
def b4:Prop:=
 A6 (cx w0) 35 lv n A5 Z (cAt code 4) 4 [(4,(.pv (.bool t4)))] σ (B7 (cx w0) Tryz.f51 n R)
def b0:Prop:=
 A6 (cx w0) 35 lv n A5 Z code 0 (J6 0 [g,h_]) σ (B7 (cx w0) Tryz.f51 n R)
end
variable {Z:XT}{w0:B5}{n:Nat}{R:RT}{σ τ:A2}{t4:Bool}{g h_:AV}
theorem b4_eq:b4 Z w0 n R σ t4=(
 F2 (cx w0) n (.pv (.bool t4)) σ R):=by kernel_rfl
theorem n4_in(h:b4 (X w0 n) w0 n R σ t4):n4 (X w0 n) w0 n R σ t4:=E0 (S:=A5) (by kernel_rfl) h
theorem b0_eq:b0 Z w0 n R σ g h_=(
 ((AV.cells g).all AV.one=true∧(((AV.cells h_).all AV.one=true∧(opt (A3 B2 E4.td (.ptr (List.length (σ ++ [.cells 39 (AV.cells g)])) 0) 0) fun t5=>opt (A4 ((σ ++ [.cells 39 (AV.cells g)]) ++ [.cells 39 (AV.cells h_)]) ti3 t5) fun t6=>isI .i64 t6 fun t6_1=>opt (A3 B2 E4.td (.ptr (List.length (σ ++ [.cells 39 (AV.cells g)])) 0) 1) fun t7=>opt (A4 ((σ ++ [.cells 39 (AV.cells g)]) ++ [.cells 39 (AV.cells h_)]) ti3 t7) fun t8=>isI .i64 t8 fun t8_1=>opt (A3 B2 E4.td (.ptr (List.length σ) 0) 0) fun t10=>opt (A4 ((σ ++ [.cells 39 (AV.cells g)]) ++ [.cells 39 (AV.cells h_)]) ti3 t10) fun t11=>isI .i64 t11 fun t11_1=>opt (A3 B2 E4.td (.ptr (List.length σ) 0) 1) fun t12=>opt (A4 ((σ ++ [.cells 39 (AV.cells g)]) ++ [.cells 39 (AV.cells h_)]) ti3 t12) fun t13=>isI .i64 t13 fun t13_1=>opt (A3 B2 E4.td (.ptr (List.length σ) 0) 1) fun t15=>opt (A4 ((σ ++ [.cells 39 (AV.cells g)]) ++ [.cells 39 (AV.cells h_)]) ti3 t15) fun t16=>isI .i64 t16 fun t16_1=>A1 (cx w0) P4.id [(.pv (.int .i64 t6_1)),(.pv (.int .i64 t8_1))] ((σ ++ [.cells 39 (AV.cells g)]) ++ [.cells 39 (AV.cells h_)]) fun r σ'=>isI .i64 r fun t9=>((opt (A4 σ' ti3 t10) fun t11_2=>((t11_2:AV)=(.pv (.int .i64 t11_1))))∧(((opt (A4 σ' ti3 t12) fun t13_2=>((t13_2:AV)=(.pv (.int .i64 t13_1))))∧(((opt (A4 σ' ti3 t15) fun t16_2=>((t16_2:AV)=(.pv (.int .i64 t16_1))))∧(A1 (cx w0) P4.id [(.pv (.int .i64 t11_1)),(.pv (.int .i64 t13_1))] σ' fun r_1 σ'_1=>isI .i64 r_1 fun t14=>((opt (A4 σ'_1 ti3 t15) fun t16_3=>((t16_3:AV)=(.pv (.int .i64 t16_1))))∧(B1 (decide ((t9:Int)≥(IntKind.wrap .i64 (t14+t16_1)))) (opt (A3 B2 E4.td (.ptr (List.length (σ ++ [.cells 39 (AV.cells g)])) 0) 2) fun t20=>opt (A4 σ'_1 ti3 t20) fun t21=>isI .i64 t21 fun t21_1=>opt (A3 B2 E4.td (.ptr (List.length (σ ++ [.cells 39 (AV.cells g)])) 0) 3) fun t22=>opt (A4 σ'_1 ti3 t22) fun t23=>isI .i64 t23 fun t23_1=>opt (A3 B2 E4.td (.ptr (List.length σ) 0) 2) fun t25=>opt (A4 σ'_1 ti3 t25) fun t26=>isI .i64 t26 fun t26_1=>opt (A3 B2 E4.td (.ptr (List.length σ) 0) 3) fun t27=>opt (A4 σ'_1 ti3 t27) fun t28=>isI .i64 t28 fun t28_1=>opt (A3 B2 E4.td (.ptr (List.length σ) 0) 3) fun t30=>opt (A4 σ'_1 ti3 t30) fun t31=>isI .i64 t31 fun t31_1=>A1 (cx w0) P4.id [(.pv (.int .i64 t21_1)),(.pv (.int .i64 t23_1))] σ'_1 fun r_2 σ'_2=>isI .i64 r_2 fun t24=>((opt (A4 σ'_2 ti3 t25) fun t26_2=>((t26_2:AV)=(.pv (.int .i64 t26_1))))∧(((opt (A4 σ'_2 ti3 t27) fun t28_2=>((t28_2:AV)=(.pv (.int .i64 t28_1))))∧(((opt (A4 σ'_2 ti3 t30) fun t31_2=>((t31_2:AV)=(.pv (.int .i64 t31_1))))∧(A1 (cx w0) P4.id [(.pv (.int .i64 t26_1)),(.pv (.int .i64 t28_1))] σ'_2 fun r_3 σ'_3=>isI .i64 r_3 fun t29=>((opt (A4 σ'_3 ti3 t30) fun t31_3=>((t31_3:AV)=(.pv (.int .i64 t31_1))))∧(n4 Z w0 n R σ'_3 (decide ((t24:Int)≥(IntKind.wrap .i64 (t29+t31_1))))))))))))) (n4 Z w0 n R σ'_1 false)))))))))))))):=by kernel_rfl
theorem calls(h:b0 (X w0 (List.length σ)) w0 (List.length σ) R σ g h_):A1 (cx w0) L8.id [g,h_] σ R:=
 D3 (J9 w0) (x:=fe) (S:=A5) (L8.ok w0) (by kernel_rfl) h
end L8
namespace G1
def lvs:List (List Nat):=[[0],[0],[1],[1],[1],[1,9],[],[],[2,3],[1],[1],[1],[1,4],[1,4],[1,4],[1,4],[1,4],[1,4,28],[1,4],[1,4],[1,4],[1,4],[1,4],[1,4],[1,4],[4,35,36,37],[4,35,36,37],[4,35,36,37],[4,35,36,37],[4,35,36,37,38],[4,35,36,37,38],[4,35,36,37],[4],[4,35,36,37],[4,35,36,37],[4,35,36,37],[4,35,36,37],[4,6,35,36,37],[4,6,35,36,37],[4,6,35,36,37],[4,6,35,36,37,42],[4,6,35,36,37,42],[4,6,35,36,37,42],[4,6,35,36,37,42,44],[4,6,35,36,37],[4,6,35,36,37,42],[4,6,35,36,37,42],[4,6,35,36,37,47],[4,6,35,36,37],[4,6,35,36,37],[4,6,35,36,37],[4,6,35,36,37],[4,6,35,36,37],[4,6,35,36,37],[4,35,36,37,56],[4,35,36,37],[4,35,36,37],[4,35,36,37],[4],[4],[2,3]]
def lv:Nat→List Nat:=O9 lvs
noncomputable def code:Code:=F3 Tryz.f52
noncomputable def fe:FE:=⟨Tryz.f52,code,lv⟩
def A5:List Nat:=[20,27,50,57,58]
abbrev X(w0:B5)(n:Nat):XT:=xr (cx w0) 60 lv n
theorem ok(w0:B5):FOK (cx w0) G1.id fe:=⟨Tryz.func52,by kernel_rfl,by kernel_rfl⟩
section
variable (Z:XT)(w0:B5)(n:Nat)(R:RT)(σ:A2)(h_ b r t35:AV)(t36 t37:Int)
def q23:QT:=D6 (fun env σ=>Z (cAt code 58) 58 (prune (lv 58) env) σ (B7 (cx w0) Tryz.f52 n R)) (B7 (cx w0) Tryz.f52 n R)
def q26:QT:=H7 0 (q23 Z w0 n R)
def q27:QT:=D6 (fun env σ=>Z (cAt code 26) 26 (prune (lv 26) env) σ (q26 Z w0 n R)) (q26 Z w0 n R)
def q34:QT:=D6 (fun env σ=>Z (cAt code 57) 57 (prune (lv 57) env) σ (q27 Z w0 n R)) (q27 Z w0 n R)
def q35:QT:=H7 1 (q34 Z w0 n R)
def n20:Prop:=
 Z (cAt code 20) 20 [(1,h_),(4,b)] σ (B7 (cx w0) Tryz.f52 n R)
def b20:Prop:=
 A6 (cx w0) 60 lv n A5 Z (cAt code 20) 20 [(1,h_),(4,b)] σ (B7 (cx w0) Tryz.f52 n R)
def n26:Prop:=
 Z (cAt code 26) 26 [(4,b),(35,t35),(36,(.pv (.int .i64 t36))),(37,(.pv (.int .i64 t37)))] σ (q26 Z w0 n R)
def b27:Prop:=
 A6 (cx w0) 60 lv n A5 Z (cAt code 27) 27 [(4,b),(35,t35),(36,(.pv (.int .i64 t36))),(37,(.pv (.int .i64 t37)))] σ (q27 Z w0 n R)
def n50:Prop:=
 Z (cAt code 50) 50 [(4,b),(6,r),(35,t35),(36,(.pv (.int .i64 t36))),(37,(.pv (.int .i64 t37)))] σ (q35 Z w0 n R)
def b50:Prop:=
 A6 (cx w0) 60 lv n A5 Z (cAt code 50) 50 [(4,b),(6,r),(35,t35),(36,(.pv (.int .i64 t36))),(37,(.pv (.int .i64 t37)))] σ (q35 Z w0 n R)
def n57:Prop:=
 Z (cAt code 57) 57 [(4,b),(35,t35),(36,(.pv (.int .i64 t36))),(37,(.pv (.int .i64 t37)))] σ (q27 Z w0 n R)
def b57:Prop:=
 A6 (cx w0) 60 lv n A5 Z (cAt code 57) 57 [(4,b),(35,t35),(36,(.pv (.int .i64 t36))),(37,(.pv (.int .i64 t37)))] σ (q27 Z w0 n R)
def n58:Prop:=
 Z (cAt code 58) 58 [(4,b)] σ (B7 (cx w0) Tryz.f52 n R)
def b58:Prop:=
 A6 (cx w0) 60 lv n A5 Z (cAt code 58) 58 [(4,b)] σ (B7 (cx w0) Tryz.f52 n R)
def b0:Prop:=
 A6 (cx w0) 60 lv n A5 Z code 0 (J6 0 [h_]) σ (B7 (cx w0) Tryz.f52 n R)
end
variable {Z:XT}{w0:B5}{n:Nat}{R:RT}{σ τ:A2}{h_ b t35 r b' t35':AV}{t36 t37 t36' t37':Int}
theorem b20_eq:b20 Z w0 n R σ h_ b=(
 A1 (cx w0) strings_Builder_WriteString.id [b,(.pv (.str [10]))] σ fun r σ'=>opt (A3 B2 E4.td h_ 5) fun t34=>opt (A4 σ' R7 t34) fun t35=>opt (R2 R7.td t35) fun t36=>isI .i64 t36 fun t36_1=>n26 Z w0 n R σ' b t35 t36_1 0):=by kernel_rfl
theorem n20_in(h:b20 (X w0 n) w0 n R σ h_ b):n20 (X w0 n) w0 n R σ h_ b:=E0 (S:=A5) (by kernel_rfl) h
theorem n26_in(h:b27 (X w0 n) w0 n R σ b t35 t36 t37):n26 (X w0 n) w0 n R σ b t35 t36 t37:=I5 (J9 w0) (S:=A5) (by kernel_rfl:cAt code 26 = .loop (cAt code 27)) h
theorem n26_weak(e:M5 (cx w0) n [(4,b),(35,t35),(36,(.pv (.int .i64 t36))),(37,(.pv (.int .i64 t37)))] σ [(4,b'),(35,t35'),(36,(.pv (.int .i64 t36'))),(37,(.pv (.int .i64 t37')))] τ)(h:n26 (X w0 n) w0 n R τ b' t35' t36' t37'):n26 (X w0 n) w0 n R σ b t35 t36 t37:=T5 (L:=lv) (k:=26) (by kernel_rfl:cAt code 26 = .loop (cAt code 27)) e h
theorem b27_eq:b27 Z w0 n R σ b t35 t36 t37=(
 B1 (decide ((t37:Int)<t36)) (opt (B9 σ B2 R7.td t35 t37) fun t39=>opt (A4 σ L7 t39) fun t40=>opt (C3 (σ ++ [.cells 51 (AV.ofValue L7.zero).cells]) L7 (.ptr (List.length σ) 0) t40) fun σ'=>opt (A3 B2 L7.td (.ptr (List.length σ) 0) 0) fun t41=>opt (A4 σ' ti3 t41) fun t42=>isI .i64 t42 fun t42_1=>B1 ((t42_1:Int)==2) (A1 (cx w0) strings_Builder_WriteString.id [b,(.pv (.str [45]))] σ' fun r σ'_1=>n50 Z w0 n R σ'_1 b (.ptr (List.length σ) 0) t35 t36 t37) (B1 ((t42_1:Int)==3) (A1 (cx w0) strings_Builder_WriteString.id [b,(.pv (.str [43]))] σ' fun r σ'_1=>n50 Z w0 n R σ'_1 b (.ptr (List.length σ) 0) t35 t36 t37) (A1 (cx w0) strings_Builder_WriteString.id [b,(.pv (.str [32]))] σ' fun r σ'_1=>n50 Z w0 n R σ'_1 b (.ptr (List.length σ) 0) t35 t36 t37))) (n58 Z w0 n R σ b)):=by kernel_rfl
theorem b50_eq:b50 Z w0 n R σ b r t35 t36 t37=(
 opt (A3 B2 L7.td r 1) fun t50=>opt (A4 σ ti9 t50) fun t51=>isS t51 fun t51_1=>A1 (cx w0) strings_Builder_WriteString.id [b,(.pv (.str t51_1))] σ fun r_1 σ'=>opt (A3 B2 L7.td r 1) fun t53=>opt (A4 σ' ti9 t53) fun t54=>isS t54 fun t54_1=>A1 (cx w0) Q7.id [(.pv (.str t54_1))] σ' fun r_2 σ'_1=>isB r_2 fun t55=>B1 (!t55) (A1 (cx w0) strings_Builder_WriteString.id [b,(.pv (.str [10,92,32,78,111,32,110,101,119,108,105,110,101,32,97,116,32,101,110,100,32,111,102,32,102,105,108,101,10]))] σ'_1 fun r_3 σ'_2=>n57 Z w0 n R σ'_2 b t35 t36 t37) (n57 Z w0 n R σ'_1 b t35 t36 t37)):=by kernel_rfl
theorem n50_in(h:b50 (X w0 n) w0 n R σ b r t35 t36 t37):n50 (X w0 n) w0 n R σ b r t35 t36 t37:=E0 (S:=A5) (by kernel_rfl) h
theorem b57_eq:b57 Z w0 n R σ b t35 t36 t37=(
 n26 Z w0 n R σ b t35 t36 (IntKind.wrap .i64 (t37+1))):=by kernel_rfl
theorem n57_in(h:b57 (X w0 n) w0 n R σ b t35 t36 t37):n57 (X w0 n) w0 n R σ b t35 t36 t37:=E0 (S:=A5) (by kernel_rfl) h
theorem b58_eq:b58 Z w0 n R σ b=(
 A1 (cx w0) strings_Builder_String.id [b] σ fun r σ'=>isS r fun t59=>F2 (cx w0) n (.tup [(.pv (.str t59)),(.pv (.raw .nilIface))]) σ' R):=by kernel_rfl
theorem n58_in(h:b58 (X w0 n) w0 n R σ b):n58 (X w0 n) w0 n R σ b:=E0 (S:=A5) (by kernel_rfl) h
theorem b0_eq:b0 Z w0 n R σ h_=(
 ((AV.cells h_).all AV.one=true∧(opt (A4 (σ ++ [.cells 39 (AV.cells h_)]) E4 (.ptr (List.length σ) 0)) fun t7=>A1 (cx w0) O7.id [t7] (σ ++ [.cells 39 (AV.cells h_)]) fun r σ'=>T0 B2 29 true .neq r (.pv (.raw .nilIface)) fun v=>isB v fun b=>B1 b (opt (I2 63 (.pv (.int .i64 100))) fun t10=>F2 (cx w0) n (.tup [(.pv (.str [])),t10]) σ' R) (opt (A3 B2 E4.td (.ptr (List.length σ) 0) 0) fun t11=>opt (A4 (σ' ++ [.bld 58 5 []]) ti3 t11) fun t12=>isI .i64 t12 fun t12_1=>opt (A3 B2 E4.td (.ptr (List.length σ) 0) 1) fun t13=>opt (A4 (σ' ++ [.bld 58 5 []]) ti3 t13) fun t14=>isI .i64 t14 fun t14_1=>opt (A3 B2 E4.td (.ptr (List.length σ) 0) 2) fun t18=>opt (A4 (σ' ++ [.bld 58 5 []]) ti3 t18) fun t19=>isI .i64 t19 fun t19_1=>opt (A3 B2 E4.td (.ptr (List.length σ) 0) 3) fun t20=>opt (A4 (σ' ++ [.bld 58 5 []]) ti3 t20) fun t21=>isI .i64 t21 fun t21_1=>A1 (cx w0) S8.id [(.pv (.int .i64 t12_1)),(.pv (.int .i64 t14_1))] (σ' ++ [.bld 58 5 []]) fun r_1 σ'_1=>isS r_1 fun t15=>((opt (A4 σ'_1 ti3 t18) fun t19_2=>((t19_2:AV)=(.pv (.int .i64 t19_1))))∧(((opt (A4 σ'_1 ti3 t20) fun t21_2=>((t21_2:AV)=(.pv (.int .i64 t21_1))))∧((List.length ([64,64,32,45]:List UInt8)+List.length (t15:List UInt8)≤9223372036854775807∧((List.length (([64,64,32,45]++t15):List UInt8)+List.length ([32,43]:List UInt8)≤9223372036854775807∧(A1 (cx w0) S8.id [(.pv (.int .i64 t19_1)),(.pv (.int .i64 t21_1))] σ'_1 fun r_2 σ'_2=>isS r_2 fun t22=>(List.length ((([64,64,32,45]++t15) ++ [32,43]):List UInt8)+List.length (t22:List UInt8)≤9223372036854775807∧((List.length (((([64,64,32,45]++t15) ++ [32,43])++t22):List UInt8)+List.length ([32,64,64]:List UInt8)≤9223372036854775807∧(A1 (cx w0) strings_Builder_WriteString.id [(.ptr (List.length σ') 0),(.pv (.str (((([64,64,32,45]++t15) ++ [32,43])++t22) ++ [32,64,64])))] σ'_2 fun r_3 σ'_3=>opt (A3 B2 E4.td (.ptr (List.length σ) 0) 4) fun t26=>opt (A4 σ'_3 ti9 t26) fun t27=>isS t27 fun t27_1=>B1 (!((t27_1:List UInt8) == [])) (opt (A3 B2 E4.td (.ptr (List.length σ) 0) 4) fun t29=>opt (A4 σ'_3 ti9 t29) fun t30=>isS t30 fun t30_1=>(List.length ([32]:List UInt8)+List.length (t30_1:List UInt8)≤9223372036854775807∧(A1 (cx w0) strings_Builder_WriteString.id [(.ptr (List.length σ') 0),(.pv (.str ([32]++t30_1)))] σ'_3 fun r_4 σ'_4=>n20 Z w0 n R σ'_4 (.ptr (List.length σ) 0) (.ptr (List.length σ') 0)))) (n20 Z w0 n R σ'_3 (.ptr (List.length σ) 0) (.ptr (List.length σ') 0)))))))))))))))))):=by kernel_rfl
theorem calls(h:b0 (X w0 (List.length σ)) w0 (List.length σ) R σ h_):A1 (cx w0) G1.id [h_] σ R:=
 D3 (J9 w0) (x:=fe) (S:=A5) (G1.ok w0) (by kernel_rfl) h
end G1
namespace C2
def lvs:List (List Nat):=[[0,1,2],[0,1,2],[2,3,4],[2,3,4],[2,4,8,9],[2,4,8,9],[2,8,9,10,11],[2,8,9,10,11],[2,8,9,10,11],[2,8,10,35],[],[],[6,7],[2,8,10],[2,8,10],[2,8,10],[2,8,10],[2,8,10,37,38,39],[2,8,10,37,38,39],[2,8,10,37,38,39],[2,8,10,37,38,39],[2,8,10,37,38,39,40],[2,8,10,37,38,39,40],[2,8,10,37,38,39],[2,8,10],[2,8,10,37,38,39],[2,8,10,37,38,39],[2,8,10,37,38,39],[2,8,10,37,38,39],[2,8,10,13,37,38,39],[2,8,10,13,37,38,39],[2,8,10,37,38,39,45],[],[],[6,7],[2,8,10,37,38,39],[2,8,10,37,38,39],[2,8,10],[2,8,10],[2,8,10],[2,8,10,14],[2,8,10,14],[2,8,10,14],[2,8,10,14],[2,8,10,14],[2,8,10,14,51],[2,8,10,14],[2,8,10],[2,8,10,14],[2,8,10,14],[2,8,10,14],[2,8,10,14],[2,8,10,14,64],[],[],[6,7],[2,8,10,14],[2,8,10,14],[2,8,10],[2,8,10],[2,8,10,15],[2,8,10,15],[2,15],[2,15],[2,15],[15,73,74,75],[15,73,74,75],[15,73,74,75],[15,73,74,75],[15,73,74,75,76],[15,73,74,75,76],[15,73,74,75],[15],[15,73,74,75],[15,73,74,75],[15,73,74,75],[15,73,74,75],[15,17,73,74,75],[15,17,73,74,75],[15,18,19,73,74,75],[15,18,19,73,74,75],[15,18,19,73,74,75],[15,18,19,73,74,75,85],[19],[19],[6,7],[15,18,73,74,75],[15,18,73,74,75],[15,73,74,75],[15],[15],[6,7]]
def lv:Nat→List Nat:=O9 lvs
noncomputable def code:Code:=F3 Tryz.f21
noncomputable def fe:FE:=⟨Tryz.f21,code,lv⟩
def A5:List Nat:=[9,19,37,42,58,67,89]
abbrev X(w0:B5)(n:Nat):XT:=xr (cx w0) 91 lv n
theorem ok(w0:B5):FOK (cx w0) C2.id fe:=⟨Tryz.func21,by kernel_rfl,by kernel_rfl⟩
section
variable (Z:XT)(w0:B5)(n:Nat)(R:RT)(σ:A2)(b t73:AV)(t74 t75:Int)(old fresh l_:AV)(x y:List UInt8)(t35:Bool)(t37:AV)(t38 t39 i:Int)
def q7:QT:=D6 (fun env σ=>A6 (cx w0) 91 lv n A5 Z (cAt code 14) 14 (prune (lv 14) env) σ (B7 (cx w0) Tryz.f21 n R)) (B7 (cx w0) Tryz.f21 n R)
def q15:QT:=D6 (fun env σ=>Z (cAt code 37) 37 (prune (lv 37) env) σ (B7 (cx w0) Tryz.f21 n R)) (B7 (cx w0) Tryz.f21 n R)
def q18:QT:=H7 0 (q15 Z w0 n R)
def q19:QT:=D6 (fun env σ=>Z (cAt code 18) 18 (prune (lv 18) env) σ (q18 Z w0 n R)) (q18 Z w0 n R)
def q38:QT:=D6 (fun env σ=>Z (cAt code 58) 58 (prune (lv 58) env) σ (B7 (cx w0) Tryz.f21 n R)) (B7 (cx w0) Tryz.f21 n R)
def q41:QT:=H7 2 (q38 Z w0 n R)
def q42:QT:=D6 (fun env σ=>Z (cAt code 41) 41 (prune (lv 41) env) σ (q41 Z w0 n R)) (q41 Z w0 n R)
def q63:QT:=D6 (fun env σ=>Z (cAt code 89) 89 (prune (lv 89) env) σ (B7 (cx w0) Tryz.f21 n R)) (B7 (cx w0) Tryz.f21 n R)
def q66:QT:=H7 4 (q63 Z w0 n R)
def q67:QT:=D6 (fun env σ=>Z (cAt code 66) 66 (prune (lv 66) env) σ (q66 Z w0 n R)) (q66 Z w0 n R)
def n9:Prop:=
 Z (cAt code 9) 9 [(2,l_),(8,(.pv (.str x))),(10,(.pv (.str y))),(35,(.pv (.bool t35)))] σ (q7 Z w0 n R)
def b9:Prop:=
 A6 (cx w0) 91 lv n A5 Z (cAt code 9) 9 [(2,l_),(8,(.pv (.str x))),(10,(.pv (.str y))),(35,(.pv (.bool t35)))] σ (q7 Z w0 n R)
def n18:Prop:=
 Z (cAt code 18) 18 [(2,l_),(8,(.pv (.str x))),(10,(.pv (.str y))),(37,t37),(38,(.pv (.int .i64 t38))),(39,(.pv (.int .i64 t39)))] σ (q18 Z w0 n R)
def b19:Prop:=
 A6 (cx w0) 91 lv n A5 Z (cAt code 19) 19 [(2,l_),(8,(.pv (.str x))),(10,(.pv (.str y))),(37,t37),(38,(.pv (.int .i64 t38))),(39,(.pv (.int .i64 t39)))] σ (q19 Z w0 n R)
def n37:Prop:=
 Z (cAt code 37) 37 [(2,l_),(8,(.pv (.str x))),(10,(.pv (.str y)))] σ (B7 (cx w0) Tryz.f21 n R)
def b37:Prop:=
 A6 (cx w0) 91 lv n A5 Z (cAt code 37) 37 [(2,l_),(8,(.pv (.str x))),(10,(.pv (.str y)))] σ (B7 (cx w0) Tryz.f21 n R)
def n41:Prop:=
 Z (cAt code 41) 41 [(2,l_),(8,(.pv (.str x))),(10,(.pv (.str y))),(14,(.pv (.int .i64 i)))] σ (q41 Z w0 n R)
def b42:Prop:=
 A6 (cx w0) 91 lv n A5 Z (cAt code 42) 42 [(2,l_),(8,(.pv (.str x))),(10,(.pv (.str y))),(14,(.pv (.int .i64 i)))] σ (q42 Z w0 n R)
def n58:Prop:=
 Z (cAt code 58) 58 [(2,l_),(8,(.pv (.str x))),(10,(.pv (.str y)))] σ (B7 (cx w0) Tryz.f21 n R)
def b58:Prop:=
 A6 (cx w0) 91 lv n A5 Z (cAt code 58) 58 [(2,l_),(8,(.pv (.str x))),(10,(.pv (.str y)))] σ (B7 (cx w0) Tryz.f21 n R)
def n66:Prop:=
 Z (cAt code 66) 66 [(15,b),(73,t73),(74,(.pv (.int .i64 t74))),(75,(.pv (.int .i64 t75)))] σ (q66 Z w0 n R)
def b67:Prop:=
 A6 (cx w0) 91 lv n A5 Z (cAt code 67) 67 [(15,b),(73,t73),(74,(.pv (.int .i64 t74))),(75,(.pv (.int .i64 t75)))] σ (q67 Z w0 n R)
def n89:Prop:=
 Z (cAt code 89) 89 [(15,b)] σ (B7 (cx w0) Tryz.f21 n R)
def b89:Prop:=
 A6 (cx w0) 91 lv n A5 Z (cAt code 89) 89 [(15,b)] σ (B7 (cx w0) Tryz.f21 n R)
def b0:Prop:=
 A6 (cx w0) 91 lv n A5 Z code 0 (J6 0 [old,fresh,l_]) σ (B7 (cx w0) Tryz.f21 n R)
end
variable {Z:XT}{w0:B5}{n:Nat}{R:RT}{σ τ:A2}{l_ t37 b t73 old fresh l_' t37' b' t73':AV}{x y x' y':List UInt8}{t35:Bool}{t38 t39 i t74 t75 t38' t39' i' t74' t75':Int}
theorem b9_eq:b9 Z w0 n R σ l_ x y t35=(
 B1 t35 (opt (I2 63 (.pv (.int .i64 110))) fun t36=>F2 (cx w0) n (.tup [(.pv (.str [])),t36]) σ R) (opt (R2 ax.td l_) fun t38=>isI .i64 t38 fun t38_1=>n18 Z w0 n R σ l_ x y l_ t38_1 0)):=by kernel_rfl
theorem n9_in(h:b9 (X w0 n) w0 n R σ l_ x y t35):n9 (X w0 n) w0 n R σ l_ x y t35:=E0 (S:=A5) (by kernel_rfl) h
theorem n18_in(h:b19 (X w0 n) w0 n R σ l_ x y t37 t38 t39):n18 (X w0 n) w0 n R σ l_ x y t37 t38 t39:=I5 (J9 w0) (S:=A5) (by kernel_rfl:cAt code 18 = .loop (cAt code 19)) h
theorem n18_weak(e:M5 (cx w0) n [(2,l_),(8,(.pv (.str x))),(10,(.pv (.str y))),(37,t37),(38,(.pv (.int .i64 t38))),(39,(.pv (.int .i64 t39)))] σ [(2,l_'),(8,(.pv (.str x'))),(10,(.pv (.str y'))),(37,t37'),(38,(.pv (.int .i64 t38'))),(39,(.pv (.int .i64 t39')))] τ)(h:n18 (X w0 n) w0 n R τ l_' x' y' t37' t38' t39'):n18 (X w0 n) w0 n R σ l_ x y t37 t38 t39:=T5 (L:=lv) (k:=18) (by kernel_rfl:cAt code 18 = .loop (cAt code 19)) e h
theorem b19_eq:b19 Z w0 n R σ l_ x y t37 t38 t39=(
 B1 (decide ((t39:Int)<t38)) (opt (B9 σ B2 ax.td t37 t39) fun t41=>opt (A4 σ E4 t41) fun t42=>opt (C3 (σ ++ [.cells 39 (AV.ofValue E4.zero).cells]) E4 (.ptr (List.length σ) 0) t42) fun σ'=>opt (A4 σ' E4 (.ptr (List.length σ) 0)) fun t43=>A1 (cx w0) O7.id [t43] σ' fun r σ'_1=>T0 B2 29 true .neq r (.pv (.raw .nilIface)) fun v=>isB v fun b=>B1 b (opt (I2 63 (.pv (.int .i64 100))) fun t46=>F2 (cx w0) n (.tup [(.pv (.str [])),t46]) σ'_1 R) (n18 Z w0 n R σ'_1 l_ x y t37 t38 (IntKind.wrap .i64 (t39+1)))) (n37 Z w0 n R σ l_ x y)):=by kernel_rfl
theorem b37_eq:b37 Z w0 n R σ l_ x y=(
 n41 Z w0 n R σ l_ x y 1):=by kernel_rfl
theorem n37_in(h:b37 (X w0 n) w0 n R σ l_ x y):n37 (X w0 n) w0 n R σ l_ x y:=E0 (S:=A5) (by kernel_rfl) h
theorem n41_in(h:b42 (X w0 n) w0 n R σ l_ x y i):n41 (X w0 n) w0 n R σ l_ x y i:=I5 (J9 w0) (S:=A5) (by kernel_rfl:cAt code 41 = .loop (cAt code 42)) h
theorem b42_eq:b42 Z w0 n R σ l_ x y i=(
 opt (R2 ax.td l_) fun t50=>isI .i64 t50 fun t50_1=>B1 (decide ((i:Int)<t50_1)) (opt (B9 σ B2 ax.td l_ (IntKind.wrap .i64 (i-1))) fun t57=>opt (A4 σ E4 t57) fun t58=>opt (B9 σ B2 ax.td l_ i) fun t61=>opt (A4 σ E4 t61) fun t62=>A1 (cx w0) L8.id [t58,t62] σ fun r σ'=>isB r fun t63=>B1 (!t63) (opt (I2 63 (.pv (.int .i64 112))) fun t65=>F2 (cx w0) n (.tup [(.pv (.str [])),t65]) σ' R) (n41 Z w0 n R σ' l_ x y (IntKind.wrap .i64 (i+1)))) (n58 Z w0 n R σ l_ x y)):=by kernel_rfl
theorem b58_eq:b58 Z w0 n R σ l_ x y=(
 (List.length ([45,45,45,32]:List UInt8)+List.length (x:List UInt8)≤9223372036854775807∧((List.length (([45,45,45,32]++x):List UInt8)+List.length ([10,43,43,43,32]:List UInt8)≤9223372036854775807∧((List.length ((([45,45,45,32]++x) ++ [10,43,43,43,32]):List UInt8)+List.length (y:List UInt8)≤9223372036854775807∧((List.length (((([45,45,45,32]++x) ++ [10,43,43,43,32])++y):List UInt8)+List.length ([10]:List UInt8)≤9223372036854775807∧(A1 (cx w0) strings_Builder_WriteString.id [(.ptr (List.length σ) 0),(.pv (.str (((([45,45,45,32]++x) ++ [10,43,43,43,32])++y) ++ [10])))] (σ ++ [.bld 58 5 []]) fun r σ'=>opt (R2 ax.td l_) fun t74=>isI .i64 t74 fun t74_1=>n66 Z w0 n R σ' (.ptr (List.length σ) 0) l_ t74_1 0))))))))):=by kernel_rfl
theorem n58_in(h:b58 (X w0 n) w0 n R σ l_ x y):n58 (X w0 n) w0 n R σ l_ x y:=E0 (S:=A5) (by kernel_rfl) h
theorem n66_in(h:b67 (X w0 n) w0 n R σ b t73 t74 t75):n66 (X w0 n) w0 n R σ b t73 t74 t75:=I5 (J9 w0) (S:=A5) (by kernel_rfl:cAt code 66 = .loop (cAt code 67)) h
theorem n66_weak(e:M5 (cx w0) n [(15,b),(73,t73),(74,(.pv (.int .i64 t74))),(75,(.pv (.int .i64 t75)))] σ [(15,b'),(73,t73'),(74,(.pv (.int .i64 t74'))),(75,(.pv (.int .i64 t75')))] τ)(h:n66 (X w0 n) w0 n R τ b' t73' t74' t75'):n66 (X w0 n) w0 n R σ b t73 t74 t75:=T5 (L:=lv) (k:=66) (by kernel_rfl:cAt code 66 = .loop (cAt code 67)) e h
theorem b67_eq:b67 Z w0 n R σ b t73 t74 t75=(
 B1 (decide ((t75:Int)<t74)) (opt (B9 σ B2 ax.td t73 t75) fun t77=>opt (A4 σ E4 t77) fun t78=>opt (C3 (σ ++ [.cells 39 (AV.ofValue E4.zero).cells]) E4 (.ptr (List.length σ) 0) t78) fun σ'=>opt (A4 σ' E4 (.ptr (List.length σ) 0)) fun t80=>A1 (cx w0) G1.id [t80] σ' fun r σ'_1=>isTup r fun vs=>opt ((vs)[0]?) fun t82=>isS t82 fun t82_1=>isTup r fun vs_1=>opt ((vs_1)[1]?) fun t83=>T0 B2 29 true .neq t83 (.pv (.raw .nilIface)) fun v=>isB v fun b_1=>B1 b_1 (F2 (cx w0) n (.tup [(.pv (.str [])),t83]) σ'_1 R) (A1 (cx w0) strings_Builder_WriteString.id [b,(.pv (.str t82_1))] σ'_1 fun r_1 σ'_2=>n66 Z w0 n R σ'_2 b t73 t74 (IntKind.wrap .i64 (t75+1)))) (n89 Z w0 n R σ b)):=by kernel_rfl
theorem b89_eq:b89 Z w0 n R σ b=(
 A1 (cx w0) strings_Builder_String.id [b] σ fun r σ'=>isS r fun t90=>F2 (cx w0) n (.tup [(.pv (.str t90)),(.pv (.raw .nilIface))]) σ' R):=by kernel_rfl
theorem n89_in(h:b89 (X w0 n) w0 n R σ b):n89 (X w0 n) w0 n R σ b:=E0 (S:=A5) (by kernel_rfl) h
theorem b0_eq:b0 Z w0 n R σ old fresh l_=(
 ((AV.cells old).all AV.one=true∧(((AV.cells fresh).all AV.one=true∧(opt (A4 ((σ ++ [.cells 23 (AV.cells old)]) ++ [.cells 23 (AV.cells fresh)]) D5 (.ptr (List.length σ) 0)) fun t21=>A1 (cx w0) J5.id [t21] ((σ ++ [.cells 23 (AV.cells old)]) ++ [.cells 23 (AV.cells fresh)]) fun r σ'=>isTup r fun vs=>opt ((vs)[0]?) fun t23=>isS t23 fun t23_1=>isTup r fun vs_1=>opt ((vs_1)[1]?) fun t24=>isB t24 fun t24_1=>opt (A4 σ' D5 (.ptr (List.length (σ ++ [.cells 23 (AV.cells old)])) 0)) fun t26=>A1 (cx w0) J5.id [t26] σ' fun r_1 σ'_1=>isTup r_1 fun vs_2=>opt ((vs_2)[0]?) fun t28=>isS t28 fun t28_1=>isTup r_1 fun vs_3=>opt ((vs_3)[1]?) fun t29=>isB t29 fun t29_1=>B1 (!t24_1) (n9 Z w0 n R σ'_1 l_ t23_1 t28_1 true) (n9 Z w0 n R σ'_1 l_ t23_1 t28_1 (!t29_1))))))):=by kernel_rfl
theorem calls(h:b0 (X w0 (List.length σ)) w0 (List.length σ) R σ old fresh l_):A1 (cx w0) C2.id [old,fresh,l_] σ R:=
 D3 (J9 w0) (x:=fe) (S:=A5) (C2.ok w0) (by kernel_rfl) h
end C2
end Go.Sv
