/- What the code of Go functions comes to over abstract stores, piece by piece; each equation by the kernel. Printed by a program of this session. What the code of Go functions comes to over abstract stores, piece by piece; each equation by the kernel. Printed by a program of this session. -/
import Derived.Test.YtebgkjjbbnbnlaaGreatDoorSvT
import Derived.KernelRfl
set_option linter.unusedVariables false
set_option maxRecDepth 100000
section
namespace Go.Sv
open Go Go.Proofs
namespace E9
def lvs:List (List Nat):=[[0,1],[0,1],[0,1],[0,1],[0,1],[0,1,5],[0,1,5],[0,1,5],[0,1,5],[0,1,5],[0,1,5,10],[0,1,5],[],[0,1,5],[0,1,5],[0,1,5],[0,1,5],[0,1,5,6],[0,1,5,6],[0,1,5,6],[0,1,5,6],[0,1,5,6],[0,1,5,6,16],[0,1,5,6],[0,1,5],[0,1,5,6],[0,1,5,6],[0,1,5,6],[0,1,5,6],[0,1,5,6,25],[],[],[4],[0,1,5,6],[0,1,5,6],[0,1,5],[],[],[4]]
def lv:Nat→List Nat:=O9 lvs
noncomputable def code:Code:=F3 Tryz.f93
noncomputable def fe:FE:=⟨Tryz.f93,code,lv⟩
def A5:List Nat:=[7,19,35,36]
abbrev X(w0:B5)(n:Nat):XT:=xr (cx w0) 26 lv n
theorem ok(w0:B5):FOK (cx w0) E9.id fe:=⟨Tryz.func93,by kernel_rfl,by kernel_rfl⟩
section
variable (Z:XT)(w0:B5)(n:Nat)(R:RT)(σ:A2)(s bytes:List UInt8)(i k:Int)
def q3:QT:=D6 (fun env σ=>Z (cAt code 36) 36 (prune (lv 36) env) σ (B7 (cx w0) Tryz.f93 n R)) (B7 (cx w0) Tryz.f93 n R)
def q6:QT:=H7 0 (q3 Z w0 n R)
def q7:QT:=D6 (fun env σ=>Z (cAt code 6) 6 (prune (lv 6) env) σ (q6 Z w0 n R)) (q6 Z w0 n R)
def q14:QT:=D6 (fun env σ=>Z (cAt code 35) 35 (prune (lv 35) env) σ (q7 Z w0 n R)) (q7 Z w0 n R)
def q15:QT:=H7 1 (q14 Z w0 n R)
def q18:QT:=H7 2 (q15 Z w0 n R)
def q19:QT:=D6 (fun env σ=>Z (cAt code 18) 18 (prune (lv 18) env) σ (q18 Z w0 n R)) (q18 Z w0 n R)
def n6:Prop:=
 Z (cAt code 6) 6 [(0,(.pv (.str s))),(1,(.pv (.str bytes))),(5,(.pv (.int .i64 i)))] σ (q6 Z w0 n R)
def b7:Prop:=
 A6 (cx w0) 26 lv n A5 Z (cAt code 7) 7 [(0,(.pv (.str s))),(1,(.pv (.str bytes))),(5,(.pv (.int .i64 i)))] σ (q7 Z w0 n R)
def n18:Prop:=
 Z (cAt code 18) 18 [(0,(.pv (.str s))),(1,(.pv (.str bytes))),(5,(.pv (.int .i64 i))),(6,(.pv (.int .i64 k)))] σ (q18 Z w0 n R)
def b19:Prop:=
 A6 (cx w0) 26 lv n A5 Z (cAt code 19) 19 [(0,(.pv (.str s))),(1,(.pv (.str bytes))),(5,(.pv (.int .i64 i))),(6,(.pv (.int .i64 k)))] σ (q19 Z w0 n R)
def n35:Prop:=
 Z (cAt code 35) 35 [(0,(.pv (.str s))),(1,(.pv (.str bytes))),(5,(.pv (.int .i64 i)))] σ (q7 Z w0 n R)
def b35:Prop:=
 A6 (cx w0) 26 lv n A5 Z (cAt code 35) 35 [(0,(.pv (.str s))),(1,(.pv (.str bytes))),(5,(.pv (.int .i64 i)))] σ (q7 Z w0 n R)
def n36:Prop:=
 Z (cAt code 36) 36 [] σ (B7 (cx w0) Tryz.f93 n R)
def b36:Prop:=
 A6 (cx w0) 26 lv n A5 Z (cAt code 36) 36 [] σ (B7 (cx w0) Tryz.f93 n R)
def b0:Prop:=
 A6 (cx w0) 26 lv n A5 Z code 0 (J6 0 [(.pv (.str s)),(.pv (.str bytes))]) σ (B7 (cx w0) Tryz.f93 n R)
end
variable {Z:XT}{w0:B5}{n:Nat}{R:RT}{σ τ:A2}{s bytes s' bytes':List UInt8}{i k i' k':Int}
theorem n6_in(h:b7 (X w0 n) w0 n R σ s bytes i):n6 (X w0 n) w0 n R σ s bytes i:=I5 (J9 w0) (S:=A5) (by kernel_rfl:cAt code 6 = .loop (cAt code 7)) h
theorem b7_eq:b7 Z w0 n R σ s bytes i=(
 B1 (decide ((i:Int)<(List.length (s:List UInt8):Int))) (n18 Z w0 n R σ s bytes i 0) (n36 Z w0 n R σ)):=by kernel_rfl
theorem n18_in(h:b19 (X w0 n) w0 n R σ s bytes i k):n18 (X w0 n) w0 n R σ s bytes i k:=I5 (J9 w0) (S:=A5) (by kernel_rfl:cAt code 18 = .loop (cAt code 19)) h
theorem b19_eq:b19 Z w0 n R σ s bytes i k=(
 B1 (decide ((k:Int)<(List.length (bytes:List UInt8):Int))) (opt (Q8 B2 ti9.td (.pv (.str s)) i) fun t21=>isI .u8 t21 fun t21_1=>opt (Q8 B2 ti9.td (.pv (.str bytes)) k) fun t24=>isI .u8 t24 fun t24_1=>B1 ((t21_1:Int)==t24_1) (F2 (cx w0) n (.pv (.bool true)) σ R) (n18 Z w0 n R σ s bytes i (IntKind.wrap .i64 (k+1)))) (n35 Z w0 n R σ s bytes i)):=by kernel_rfl
theorem b35_eq:b35 Z w0 n R σ s bytes i=(
 n6 Z w0 n R σ s bytes (IntKind.wrap .i64 (i+1))):=by kernel_rfl
theorem n35_in(h:b35 (X w0 n) w0 n R σ s bytes i):n35 (X w0 n) w0 n R σ s bytes i:=E0 (S:=A5) (by kernel_rfl) h
theorem b36_eq:b36 Z w0 n R σ=(
 F2 (cx w0) n (.pv (.bool false)) σ R):=by kernel_rfl
theorem n36_in(h:b36 (X w0 n) w0 n R σ):n36 (X w0 n) w0 n R σ:=E0 (S:=A5) (by kernel_rfl) h
theorem b0_eq:b0 Z w0 n R σ s bytes=(
 n6 Z w0 n R σ s bytes 0):=by kernel_rfl
theorem calls(h:b0 (X w0 (List.length σ)) w0 (List.length σ) R σ s bytes):A1 (cx w0) E9.id [(.pv (.str s)),(.pv (.str bytes))] σ R:=
 D3 (J9 w0) (x:=fe) (S:=A5) (E9.ok w0) (by kernel_rfl) h
end E9
namespace J7
def lvs:List (List Nat):=[[0],[0],[1],[1],[2]]
def lv:Nat→List Nat:=O9 lvs
noncomputable def code:Code:=F3 Tryz.f49
noncomputable def fe:FE:=⟨Tryz.f49,code,lv⟩
def A5:List Nat:=[4]
abbrev X(w0:B5)(n:Nat):XT:=xr (cx w0) 18 lv n
theorem ok(w0:B5):FOK (cx w0) J7.id fe:=⟨Tryz.func49,by kernel_rfl,by kernel_rfl⟩
section
variable (Z:XT)(w0:B5)(n:Nat)(R:RT)(σ:A2)(t2:Bool)(n_:AV)
def n4:Prop:=
 Z (cAt code 4) 4 [(2,(.pv (.bool t2)))] σ (B7 (cx w0) Tryz.f49 n R)
def b4:Prop:=
 A6 (cx w0) 18 lv n A5 Z (cAt code 4) 4 [(2,(.pv (.bool t2)))] σ (B7 (cx w0) Tryz.f49 n R)
def b0:Prop:=
 A6 (cx w0) 18 lv n A5 Z code 0 (J6 0 [n_]) σ (B7 (cx w0) Tryz.f49 n R)
end
variable {Z:XT}{w0:B5}{n:Nat}{R:RT}{σ τ:A2}{t2:Bool}{n_:AV}
theorem b4_eq:b4 Z w0 n R σ t2=(
 F2 (cx w0) n (.pv (.bool t2)) σ R):=by kernel_rfl
theorem n4_in(h:b4 (X w0 n) w0 n R σ t2):n4 (X w0 n) w0 n R σ t2:=E0 (S:=A5) (by kernel_rfl) h
theorem b0_eq:b0 Z w0 n R σ n_=(
 ((AV.cells n_).all AV.one=true∧(opt (A3 B2 D5.td (.ptr (List.length σ) 0) 0) fun t3=>opt (A4 (σ ++ [.cells 23 (AV.cells n_)]) ti9 t3) fun t4=>isS t4 fun t4_1=>B1 (!((t4_1:List UInt8) == [])) (opt (A3 B2 D5.td (.ptr (List.length σ) 0) 0) fun t7=>opt (A4 (σ ++ [.cells 23 (AV.cells n_)]) ti9 t7) fun t8=>isS t8 fun t8_1=>A1 (cx w0) E9.id [(.pv (.str t8_1)),(.pv (.str [0]))] (σ ++ [.cells 23 (AV.cells n_)]) fun r σ'=>isB r fun t9=>B1 (!t9) (opt (A3 B2 D5.td (.ptr (List.length σ) 0) 1) fun t13=>opt (A4 σ' ti9 t13) fun t14=>isS t14 fun t14_1=>A1 (cx w0) E9.id [(.pv (.str t14_1)),(.pv (.str [9,10,0]))] σ' fun r_1 σ'_1=>isB r_1 fun t15=>n4 Z w0 n R σ'_1 (!t15)) (n4 Z w0 n R σ' false)) (n4 Z w0 n R (σ ++ [.cells 23 (AV.cells n_)]) false)))):=by kernel_rfl
theorem calls(h:b0 (X w0 (List.length σ)) w0 (List.length σ) R σ n_):A1 (cx w0) J7.id [n_] σ R:=
 D3 (J9 w0) (x:=fe) (S:=A5) (J7.ok w0) (by kernel_rfl) h
end J7
namespace rz
variable {Z:XT}{w0:B5}{n:Nat}{R:RT}{σ τ:A2}{s:List UInt8}{n_:AV}
end rz
namespace N1
def lvs:List (List Nat):=[[0,1],[0,1],[0,1],[0,1],[0,1],[0,6],[0],[0],[4],[0],[0],[0],[4]]
def lv:Nat→List Nat:=O9 lvs
noncomputable def code:Code:=F3 Tryz.f92
noncomputable def fe:FE:=⟨Tryz.f92,code,lv⟩
def A5:List Nat:=[]
abbrev X(w0:B5)(n:Nat):XT:=xr (cx w0) 10 lv n
theorem ok(w0:B5):FOK (cx w0) N1.id fe:=⟨Tryz.func92,by kernel_rfl,by kernel_rfl⟩
section
variable (Z:XT)(w0:B5)(n:Nat)(R:RT)(σ:A2)(at_ count:Int)
def b0:Prop:=
 A6 (cx w0) 10 lv n A5 Z code 0 (J6 0 [(.pv (.int .i64 at_)),(.pv (.int .i64 count))]) σ (B7 (cx w0) Tryz.f92 n R)
end
variable {Z:XT}{w0:B5}{n:Nat}{R:RT}{σ τ:A2}{at_ count:Int}
theorem b0_eq:b0 Z w0 n R σ at_ count=(
 B1 ((count:Int)==0) (F2 (cx w0) n (.pv (.int .i64 at_)) σ R) (F2 (cx w0) n (.pv (.int .i64 (IntKind.wrap .i64 (at_-1)))) σ R)):=by kernel_rfl
theorem calls(h:b0 (X w0 (List.length σ)) w0 (List.length σ) R σ at_ count):A1 (cx w0) N1.id [(.pv (.int .i64 at_)),(.pv (.int .i64 count))] σ R:=
 D3 (J9 w0) (x:=fe) (S:=A5) (N1.ok w0) (by kernel_rfl) h
end N1
namespace K3
def lvs:List (List Nat):=[[0,1],[0,1],[2,3],[2,3],[4]]
def lv:Nat→List Nat:=O9 lvs
noncomputable def code:Code:=F3 Tryz.f47
noncomputable def fe:FE:=⟨Tryz.f47,code,lv⟩
def A5:List Nat:=[4]
abbrev X(w0:B5)(n:Nat):XT:=xr (cx w0) 35 lv n
theorem ok(w0:B5):FOK (cx w0) K3.id fe:=⟨Tryz.func47,by kernel_rfl,by kernel_rfl⟩
section
variable (Z:XT)(w0:B5)(n:Nat)(R:RT)(σ:A2)(t4:Bool)(g h_:AV)
def n4:Prop:=
 Z (cAt code 4) 4 [(4,(.pv (.bool t4)))] σ (B7 (cx w0) Tryz.f47 n R)
def b4:Prop:=
 A6 (cx w0) 35 lv n A5 Z (cAt code 4) 4 [(4,(.pv (.bool t4)))] σ (B7 (cx w0) Tryz.f47 n R)
def b0:Prop:=
 A6 (cx w0) 35 lv n A5 Z code 0 (J6 0 [g,h_]) σ (B7 (cx w0) Tryz.f47 n R)
end
variable {Z:XT}{w0:B5}{n:Nat}{R:RT}{σ τ:A2}{t4:Bool}{g h_:AV}
theorem b4_eq:b4 Z w0 n R σ t4=(
 F2 (cx w0) n (.pv (.bool t4)) σ R):=by kernel_rfl
theorem n4_in(h:b4 (X w0 n) w0 n R σ t4):n4 (X w0 n) w0 n R σ t4:=E0 (S:=A5) (by kernel_rfl) h
theorem b0_eq:b0 Z w0 n R σ g h_=(
 ((AV.cells g).all AV.one=true∧(((AV.cells h_).all AV.one=true∧(opt (A3 B2 E4.td (.ptr (List.length (σ ++ [.cells 39 (AV.cells g)])) 0) 0) fun t5=>opt (A4 ((σ ++ [.cells 39 (AV.cells g)]) ++ [.cells 39 (AV.cells h_)]) ti3 t5) fun t6=>isI .i64 t6 fun t6_1=>opt (A3 B2 E4.td (.ptr (List.length (σ ++ [.cells 39 (AV.cells g)])) 0) 1) fun t7=>opt (A4 ((σ ++ [.cells 39 (AV.cells g)]) ++ [.cells 39 (AV.cells h_)]) ti3 t7) fun t8=>isI .i64 t8 fun t8_1=>opt (A3 B2 E4.td (.ptr (List.length σ) 0) 0) fun t10=>opt (A4 ((σ ++ [.cells 39 (AV.cells g)]) ++ [.cells 39 (AV.cells h_)]) ti3 t10) fun t11=>isI .i64 t11 fun t11_1=>opt (A3 B2 E4.td (.ptr (List.length σ) 0) 1) fun t12=>opt (A4 ((σ ++ [.cells 39 (AV.cells g)]) ++ [.cells 39 (AV.cells h_)]) ti3 t12) fun t13=>isI .i64 t13 fun t13_1=>opt (A3 B2 E4.td (.ptr (List.length σ) 0) 1) fun t15=>opt (A4 ((σ ++ [.cells 39 (AV.cells g)]) ++ [.cells 39 (AV.cells h_)]) ti3 t15) fun t16=>isI .i64 t16 fun t16_1=>A1 (cx w0) N1.id [(.pv (.int .i64 t6_1)),(.pv (.int .i64 t8_1))] ((σ ++ [.cells 39 (AV.cells g)]) ++ [.cells 39 (AV.cells h_)]) fun r σ'=>isI .i64 r fun t9=>((opt (A4 σ' ti3 t10) fun t11_2=>((t11_2:AV)=(.pv (.int .i64 t11_1))))∧(((opt (A4 σ' ti3 t12) fun t13_2=>((t13_2:AV)=(.pv (.int .i64 t13_1))))∧(((opt (A4 σ' ti3 t15) fun t16_2=>((t16_2:AV)=(.pv (.int .i64 t16_1))))∧(A1 (cx w0) N1.id [(.pv (.int .i64 t11_1)),(.pv (.int .i64 t13_1))] σ' fun r_1 σ'_1=>isI .i64 r_1 fun t14=>((opt (A4 σ'_1 ti3 t15) fun t16_3=>((t16_3:AV)=(.pv (.int .i64 t16_1))))∧(B1 (decide ((t9:Int)≥(IntKind.wrap .i64 (t14+t16_1)))) (opt (A3 B2 E4.td (.ptr (List.length (σ ++ [.cells 39 (AV.cells g)])) 0) 2) fun t20=>opt (A4 σ'_1 ti3 t20) fun t21=>isI .i64 t21 fun t21_1=>opt (A3 B2 E4.td (.ptr (List.length (σ ++ [.cells 39 (AV.cells g)])) 0) 3) fun t22=>opt (A4 σ'_1 ti3 t22) fun t23=>isI .i64 t23 fun t23_1=>opt (A3 B2 E4.td (.ptr (List.length σ) 0) 2) fun t25=>opt (A4 σ'_1 ti3 t25) fun t26=>isI .i64 t26 fun t26_1=>opt (A3 B2 E4.td (.ptr (List.length σ) 0) 3) fun t27=>opt (A4 σ'_1 ti3 t27) fun t28=>isI .i64 t28 fun t28_1=>opt (A3 B2 E4.td (.ptr (List.length σ) 0) 3) fun t30=>opt (A4 σ'_1 ti3 t30) fun t31=>isI .i64 t31 fun t31_1=>A1 (cx w0) N1.id [(.pv (.int .i64 t21_1)),(.pv (.int .i64 t23_1))] σ'_1 fun r_2 σ'_2=>isI .i64 r_2 fun t24=>((opt (A4 σ'_2 ti3 t25) fun t26_2=>((t26_2:AV)=(.pv (.int .i64 t26_1))))∧(((opt (A4 σ'_2 ti3 t27) fun t28_2=>((t28_2:AV)=(.pv (.int .i64 t28_1))))∧(((opt (A4 σ'_2 ti3 t30) fun t31_2=>((t31_2:AV)=(.pv (.int .i64 t31_1))))∧(A1 (cx w0) N1.id [(.pv (.int .i64 t26_1)),(.pv (.int .i64 t28_1))] σ'_2 fun r_3 σ'_3=>isI .i64 r_3 fun t29=>((opt (A4 σ'_3 ti3 t30) fun t31_3=>((t31_3:AV)=(.pv (.int .i64 t31_1))))∧(n4 Z w0 n R σ'_3 (decide ((t24:Int)≥(IntKind.wrap .i64 (t29+t31_1))))))))))))) (n4 Z w0 n R σ'_1 false)))))))))))))):=by kernel_rfl
theorem calls(h:b0 (X w0 (List.length σ)) w0 (List.length σ) R σ g h_):A1 (cx w0) K3.id [g,h_] σ R:=
 D3 (J9 w0) (x:=fe) (S:=A5) (K3.ok w0) (by kernel_rfl) h
end K3
namespace C0
def lvs:List (List Nat):=[[0,1,2],[0,1,2],[2,3,4],[2,3,4],[2,3,4],[2,16],[],[],[6],[2],[2],[2],[2],[2,7],[2,7],[2,7],[2,7],[2,7],[2,7,20],[2,7],[2],[2,7],[2,7],[2,7],[2,7],[2,7,28],[],[],[6],[2,7],[2,7],[2],[2],[2],[2,8],[2,8],[2,8],[2,8],[2,8],[2,8,32],[2,8],[],[2,8],[2,8],[2,8],[2,8],[2,8,45],[],[],[6],[2,8],[2,8],[],[],[6]]
def lv:Nat→List Nat:=O9 lvs
noncomputable def code:Code:=F3 Tryz.f20
noncomputable def fe:FE:=⟨Tryz.f20,code,lv⟩
def A5:List Nat:=[5,15,31,36,52]
abbrev X(w0:B5)(n:Nat):XT:=xr (cx w0) 46 lv n
theorem ok(w0:B5):FOK (cx w0) C0.id fe:=⟨Tryz.func20,by kernel_rfl,by kernel_rfl⟩
section
variable (Z:XT)(w0:B5)(n:Nat)(R:RT)(σ:A2)(old new_ hunks:AV)(t16:Bool)(i:Int)
def q3:QT:=D6 (fun env σ=>A6 (cx w0) 46 lv n A5 Z (cAt code 10) 10 (prune (lv 10) env) σ (B7 (cx w0) Tryz.f20 n R)) (B7 (cx w0) Tryz.f20 n R)
def q11:QT:=D6 (fun env σ=>Z (cAt code 31) 31 (prune (lv 31) env) σ (B7 (cx w0) Tryz.f20 n R)) (B7 (cx w0) Tryz.f20 n R)
def q14:QT:=H7 0 (q11 Z w0 n R)
def q15:QT:=D6 (fun env σ=>Z (cAt code 14) 14 (prune (lv 14) env) σ (q14 Z w0 n R)) (q14 Z w0 n R)
def q32:QT:=D6 (fun env σ=>Z (cAt code 52) 52 (prune (lv 52) env) σ (B7 (cx w0) Tryz.f20 n R)) (B7 (cx w0) Tryz.f20 n R)
def q35:QT:=H7 2 (q32 Z w0 n R)
def q36:QT:=D6 (fun env σ=>Z (cAt code 35) 35 (prune (lv 35) env) σ (q35 Z w0 n R)) (q35 Z w0 n R)
def n5:Prop:=
 Z (cAt code 5) 5 [(2,hunks),(16,(.pv (.bool t16)))] σ (q3 Z w0 n R)
def b5:Prop:=
 A6 (cx w0) 46 lv n A5 Z (cAt code 5) 5 [(2,hunks),(16,(.pv (.bool t16)))] σ (q3 Z w0 n R)
def n14:Prop:=
 Z (cAt code 14) 14 [(2,hunks),(7,(.pv (.int .i64 i)))] σ (q14 Z w0 n R)
def b15:Prop:=
 A6 (cx w0) 46 lv n A5 Z (cAt code 15) 15 [(2,hunks),(7,(.pv (.int .i64 i)))] σ (q15 Z w0 n R)
def n31:Prop:=
 Z (cAt code 31) 31 [(2,hunks)] σ (B7 (cx w0) Tryz.f20 n R)
def b31:Prop:=
 A6 (cx w0) 46 lv n A5 Z (cAt code 31) 31 [(2,hunks)] σ (B7 (cx w0) Tryz.f20 n R)
def n35:Prop:=
 Z (cAt code 35) 35 [(2,hunks),(8,(.pv (.int .i64 i)))] σ (q35 Z w0 n R)
def b36:Prop:=
 A6 (cx w0) 46 lv n A5 Z (cAt code 36) 36 [(2,hunks),(8,(.pv (.int .i64 i)))] σ (q36 Z w0 n R)
def n52:Prop:=
 Z (cAt code 52) 52 [] σ (B7 (cx w0) Tryz.f20 n R)
def b52:Prop:=
 A6 (cx w0) 46 lv n A5 Z (cAt code 52) 52 [] σ (B7 (cx w0) Tryz.f20 n R)
def b0:Prop:=
 A6 (cx w0) 46 lv n A5 Z code 0 (J6 0 [old,new_,hunks]) σ (B7 (cx w0) Tryz.f20 n R)
end
variable {Z:XT}{w0:B5}{n:Nat}{R:RT}{σ τ:A2}{hunks old new_ hunks':AV}{t16:Bool}{i i':Int}
theorem b5_eq:b5 Z w0 n R σ hunks t16=(
 B1 t16 (F2 (cx w0) n (.pv (.int .i64 110)) σ R) (n14 Z w0 n R σ hunks 0)):=by kernel_rfl
theorem n5_in(h:b5 (X w0 n) w0 n R σ hunks t16):n5 (X w0 n) w0 n R σ hunks t16:=E0 (S:=A5) (by kernel_rfl) h
theorem n14_in(h:b15 (X w0 n) w0 n R σ hunks i):n14 (X w0 n) w0 n R σ hunks i:=I5 (J9 w0) (S:=A5) (by kernel_rfl:cAt code 14 = .loop (cAt code 15)) h
theorem b15_eq:b15 Z w0 n R σ hunks i=(
 opt (R2 ax.td hunks) fun t19=>isI .i64 t19 fun t19_1=>B1 (decide ((i:Int)<t19_1)) (opt (B9 σ B2 ax.td hunks i) fun t25=>opt (A4 σ E4 t25) fun t26=>A1 (cx w0) E7.id [t26] σ fun r σ'=>isI .i64 r fun t27=>B1 ((t27:Int) != 0) (F2 (cx w0) n (.pv (.int .i64 100)) σ' R) (n14 Z w0 n R σ' hunks (IntKind.wrap .i64 (i+1)))) (n31 Z w0 n R σ hunks)):=by kernel_rfl
theorem b31_eq:b31 Z w0 n R σ hunks=(
 n35 Z w0 n R σ hunks 1):=by kernel_rfl
theorem n31_in(h:b31 (X w0 n) w0 n R σ hunks):n31 (X w0 n) w0 n R σ hunks:=E0 (S:=A5) (by kernel_rfl) h
theorem n35_in(h:b36 (X w0 n) w0 n R σ hunks i):n35 (X w0 n) w0 n R σ hunks i:=I5 (J9 w0) (S:=A5) (by kernel_rfl:cAt code 35 = .loop (cAt code 36)) h
theorem b36_eq:b36 Z w0 n R σ hunks i=(
 opt (R2 ax.td hunks) fun t31=>isI .i64 t31 fun t31_1=>B1 (decide ((i:Int)<t31_1)) (opt (B9 σ B2 ax.td hunks (IntKind.wrap .i64 (i-1))) fun t38=>opt (A4 σ E4 t38) fun t39=>opt (B9 σ B2 ax.td hunks i) fun t42=>opt (A4 σ E4 t42) fun t43=>A1 (cx w0) K3.id [t39,t43] σ fun r σ'=>isB r fun t44=>B1 (!t44) (F2 (cx w0) n (.pv (.int .i64 112)) σ' R) (n35 Z w0 n R σ' hunks (IntKind.wrap .i64 (i+1)))) (n52 Z w0 n R σ)):=by kernel_rfl
theorem b52_eq:b52 Z w0 n R σ=(
 F2 (cx w0) n (.pv (.int .i64 0)) σ R):=by kernel_rfl
theorem n52_in(h:b52 (X w0 n) w0 n R σ):n52 (X w0 n) w0 n R σ:=E0 (S:=A5) (by kernel_rfl) h
theorem b0_eq:b0 Z w0 n R σ old new_ hunks=(
 ((AV.cells old).all AV.one=true∧(((AV.cells new_).all AV.one=true∧(opt (A4 ((σ ++ [.cells 23 (AV.cells old)]) ++ [.cells 23 (AV.cells new_)]) D5 (.ptr (List.length σ) 0)) fun t9=>A1 (cx w0) J7.id [t9] ((σ ++ [.cells 23 (AV.cells old)]) ++ [.cells 23 (AV.cells new_)]) fun r σ'=>isB r fun t10=>B1 (!t10) (n5 Z w0 n R σ' hunks true) (opt (A4 σ' D5 (.ptr (List.length (σ ++ [.cells 23 (AV.cells old)])) 0)) fun t13=>A1 (cx w0) J7.id [t13] σ' fun r_1 σ'_1=>isB r_1 fun t14=>n5 Z w0 n R σ'_1 hunks (!t14))))))):=by kernel_rfl
theorem calls(h:b0 (X w0 (List.length σ)) w0 (List.length σ) R σ old new_ hunks):A1 (cx w0) C0.id [old,new_,hunks] σ R:=
 D3 (J9 w0) (x:=fe) (S:=A5) (C0.ok w0) (by kernel_rfl) h
end C0
namespace uf
variable {Z:XT}{w0:B5}{n:Nat}{R:RT}{σ τ:A2}{line:List UInt8}
end uf
namespace ra
variable {Z:XT}{w0:B5}{n:Nat}{R:RT}{σ τ:A2}{n_:Int}
end ra
end Go.Sv
end
section
namespace Go.Sv
open Go Go.Proofs
namespace M0
def lvs:List (List Nat):=[[0],[0],[0],[0],[0],[0,6],[],[],[2],[0],[0],[0],[0],[0,8,9],[0,8,9],[0,8,9],[0,8,9],[0,8,9,10],[0,8,9,10],[0,8,9],[],[0,8,9],[0,8,9],[0,8,9],[0,8,9],[0,3,8,9],[0,3,8,9],[0,4,8,9],[0,4,8,9],[0,8,9,28],[],[],[2],[0,8,9],[0,8,9],[],[],[2]]
def lv:Nat→List Nat:=O9 lvs
noncomputable def code:Code:=F3 Tryz.f133
noncomputable def fe:FE:=⟨Tryz.f133,code,lv⟩
def A5:List Nat:=[15,29,35]
abbrev X(w0:B5)(n:Nat):XT:=xr (cx w0) 30 lv n
theorem ok(w0:B5):FOK (cx w0) M0.id fe:=⟨Tryz.func133,by kernel_rfl,by kernel_rfl⟩
section
variable (Z:XT)(w0:B5)(n:Nat)(R:RT)(σ:A2)(name:List UInt8)(t8 t9:Int)(t28:Bool)
def q11:QT:=D6 (fun env σ=>Z (cAt code 35) 35 (prune (lv 35) env) σ (B7 (cx w0) Tryz.f133 n R)) (B7 (cx w0) Tryz.f133 n R)
def q14:QT:=H7 0 (q11 Z w0 n R)
def q15:QT:=D6 (fun env σ=>Z (cAt code 14) 14 (prune (lv 14) env) σ (q14 Z w0 n R)) (q14 Z w0 n R)
def q22:QT:=D6 (fun env σ=>A6 (cx w0) 30 lv n A5 Z (cAt code 34) 34 (prune (lv 34) env) σ (q15 Z w0 n R)) (q15 Z w0 n R)
def q23:QT:=H7 1 (q22 Z w0 n R)
def n14:Prop:=
 Z (cAt code 14) 14 [(0,(.pv (.str name))),(8,(.pv (.int .i64 t8))),(9,(.pv (.int .i64 t9)))] σ (q14 Z w0 n R)
def b15:Prop:=
 A6 (cx w0) 30 lv n A5 Z (cAt code 15) 15 [(0,(.pv (.str name))),(8,(.pv (.int .i64 t8))),(9,(.pv (.int .i64 t9)))] σ (q15 Z w0 n R)
def n29:Prop:=
 Z (cAt code 29) 29 [(0,(.pv (.str name))),(8,(.pv (.int .i64 t8))),(9,(.pv (.int .i64 t9))),(28,(.pv (.bool t28)))] σ (q23 Z w0 n R)
def b29:Prop:=
 A6 (cx w0) 30 lv n A5 Z (cAt code 29) 29 [(0,(.pv (.str name))),(8,(.pv (.int .i64 t8))),(9,(.pv (.int .i64 t9))),(28,(.pv (.bool t28)))] σ (q23 Z w0 n R)
def n35:Prop:=
 Z (cAt code 35) 35 [] σ (B7 (cx w0) Tryz.f133 n R)
def b35:Prop:=
 A6 (cx w0) 30 lv n A5 Z (cAt code 35) 35 [] σ (B7 (cx w0) Tryz.f133 n R)
def b0:Prop:=
 A6 (cx w0) 30 lv n A5 Z code 0 (J6 0 [(.pv (.str name))]) σ (B7 (cx w0) Tryz.f133 n R)
end
variable {Z:XT}{w0:B5}{n:Nat}{R:RT}{σ τ:A2}{name name':List UInt8}{t8 t9 t8' t9':Int}{t28:Bool}
theorem n14_in(h:b15 (X w0 n) w0 n R σ name t8 t9):n14 (X w0 n) w0 n R σ name t8 t9:=I5 (J9 w0) (S:=A5) (by kernel_rfl:cAt code 14 = .loop (cAt code 15)) h
theorem b15_eq:b15 Z w0 n R σ name t8 t9=(
 B1 (decide ((t9:Int)<t8)) (opt (Q8 B2 ti9.td (.pv (.str name)) t9) fun t14=>isI .u8 t14 fun t14_1=>B1 (decide ((t14_1:Int)<33)) (n29 Z w0 n R σ name t8 t9 true) (B1 (decide ((t14_1:Int)≥127)) (n29 Z w0 n R σ name t8 t9 true) (B1 ((t14_1:Int)==34) (n29 Z w0 n R σ name t8 t9 true) (n29 Z w0 n R σ name t8 t9 ((t14_1:Int)==92))))) (n35 Z w0 n R σ)):=by kernel_rfl
theorem b29_eq:b29 Z w0 n R σ name t8 t9 t28=(
 B1 t28 (F2 (cx w0) n (.pv (.bool true)) σ R) (n14 Z w0 n R σ name t8 (IntKind.wrap .i64 (t9+1)))):=by kernel_rfl
theorem n29_in(h:b29 (X w0 n) w0 n R σ name t8 t9 t28):n29 (X w0 n) w0 n R σ name t8 t9 t28:=E0 (S:=A5) (by kernel_rfl) h
theorem b35_eq:b35 Z w0 n R σ=(
 F2 (cx w0) n (.pv (.bool false)) σ R):=by kernel_rfl
theorem n35_in(h:b35 (X w0 n) w0 n R σ):n35 (X w0 n) w0 n R σ:=E0 (S:=A5) (by kernel_rfl) h
theorem b0_eq:b0 Z w0 n R σ name=(
 B1 ((name:List UInt8) == []) (F2 (cx w0) n (.pv (.bool true)) σ R) (n14 Z w0 n R σ name (List.length (name:List UInt8):Int) 0)):=by kernel_rfl
theorem calls(h:b0 (X w0 (List.length σ)) w0 (List.length σ) R σ name):A1 (cx w0) M0.id [(.pv (.str name))] σ R:=
 D3 (J9 w0) (x:=fe) (S:=A5) (M0.ok w0) (by kernel_rfl) h
end M0
namespace U1
def lvs:List (List Nat):=[[0],[0],[0],[0],[0],[0,4],[0,4],[0,4],[0,4],[0,4],[0,4,6],[0,4],[],[0,4],[0,4],[0,4],[0,4],[0,4,12],[4],[4],[2,3],[0,4],[0,4],[],[],[2,3]]
def lv:Nat→List Nat:=O9 lvs
noncomputable def code:Code:=F3 Tryz.f134
noncomputable def fe:FE:=⟨Tryz.f134,code,lv⟩
theorem ok(w0:B5):FOK (cx w0) U1.id fe:=⟨Tryz.func134,by kernel_rfl,by kernel_rfl⟩
variable {Z:XT}{w0:B5}{n:Nat}{R:RT}{σ τ:A2}{c i c' i':Int}
end U1
namespace J0
def lvs:List (List Nat):=[[0],[0],[0],[0],[0],[0,10],[0],[0],[2],[0],[0],[0],[0,3],[0,3],[0,3],[0,3],[0,3],[0,3,14,15],[0,3,14,15],[0,3,14,15],[0,3,14,15],[0,3,14,15,16],[0,3,14,15,16],[0,3,14,15],[3],[0,3,14,15],[0,3,14,15],[0,3,14,15],[0,3,14,15],[0,3,4,14,15],[0,3,4,14,15],[0,3,5,14,15],[0,3,5,14,15],[0,3,5,6,7,14,15],[0,3,5,6,7,14,15],[0,3,5,6,7,14,15],[0,3,5,6,14,15,28],[0,3,6,14,15],[0,3,6,14,15],[0,3,6,14,15],[0,3,5,14,15],[0,3,5,14,15],[0,3,5,14,15,33],[0,3,5,14,15],[0,3,5,14,15],[0,3,14,15],[3],[3],[3],[3],[2]]
def lv:Nat→List Nat:=O9 lvs
noncomputable def code:Code:=F3 Tryz.f95
noncomputable def fe:FE:=⟨Tryz.f95,code,lv⟩
def A5:List Nat:=[19,42,45,46]
abbrev X(w0:B5)(n:Nat):XT:=xr (cx w0) 55 lv n
theorem ok(w0:B5):FOK (cx w0) J0.id fe:=⟨Tryz.func95,by kernel_rfl,by kernel_rfl⟩
section
variable (Z:XT)(w0:B5)(n:Nat)(R:RT)(σ:A2)(name:List UInt8)(b:AV)(c t14 t15:Int)(t33:Bool)
def q15:QT:=D6 (fun env σ=>Z (cAt code 46) 46 (prune (lv 46) env) σ (B7 (cx w0) Tryz.f95 n R)) (B7 (cx w0) Tryz.f95 n R)
def q18:QT:=H7 0 (q15 Z w0 n R)
def q19:QT:=D6 (fun env σ=>Z (cAt code 18) 18 (prune (lv 18) env) σ (q18 Z w0 n R)) (q18 Z w0 n R)
def q26:QT:=D6 (fun env σ=>Z (cAt code 45) 45 (prune (lv 45) env) σ (q19 Z w0 n R)) (q19 Z w0 n R)
def q27:QT:=H7 1 (q26 Z w0 n R)
def q34:QT:=H7 2 (q27 Z w0 n R)
def n18:Prop:=
 Z (cAt code 18) 18 [(0,(.pv (.str name))),(3,b),(14,(.pv (.int .i64 t14))),(15,(.pv (.int .i64 t15)))] σ (q18 Z w0 n R)
def b19:Prop:=
 A6 (cx w0) 55 lv n A5 Z (cAt code 19) 19 [(0,(.pv (.str name))),(3,b),(14,(.pv (.int .i64 t14))),(15,(.pv (.int .i64 t15)))] σ (q19 Z w0 n R)
def n42:Prop:=
 Z (cAt code 42) 42 [(0,(.pv (.str name))),(3,b),(5,(.pv (.int .u8 c))),(14,(.pv (.int .i64 t14))),(15,(.pv (.int .i64 t15))),(33,(.pv (.bool t33)))] σ (q34 Z w0 n R)
def b42:Prop:=
 A6 (cx w0) 55 lv n A5 Z (cAt code 42) 42 [(0,(.pv (.str name))),(3,b),(5,(.pv (.int .u8 c))),(14,(.pv (.int .i64 t14))),(15,(.pv (.int .i64 t15))),(33,(.pv (.bool t33)))] σ (q34 Z w0 n R)
def n45:Prop:=
 Z (cAt code 45) 45 [(0,(.pv (.str name))),(3,b),(14,(.pv (.int .i64 t14))),(15,(.pv (.int .i64 t15)))] σ (q19 Z w0 n R)
def b45:Prop:=
 A6 (cx w0) 55 lv n A5 Z (cAt code 45) 45 [(0,(.pv (.str name))),(3,b),(14,(.pv (.int .i64 t14))),(15,(.pv (.int .i64 t15)))] σ (q19 Z w0 n R)
def n46:Prop:=
 Z (cAt code 46) 46 [(3,b)] σ (B7 (cx w0) Tryz.f95 n R)
def b46:Prop:=
 A6 (cx w0) 55 lv n A5 Z (cAt code 46) 46 [(3,b)] σ (B7 (cx w0) Tryz.f95 n R)
def b0:Prop:=
 A6 (cx w0) 55 lv n A5 Z code 0 (J6 0 [(.pv (.str name))]) σ (B7 (cx w0) Tryz.f95 n R)
end
variable {Z:XT}{w0:B5}{n:Nat}{R:RT}{σ τ:A2}{name name':List UInt8}{b b':AV}{t14 t15 c t14' t15':Int}{t33:Bool}
theorem n18_in(h:b19 (X w0 n) w0 n R σ name b t14 t15):n18 (X w0 n) w0 n R σ name b t14 t15:=I5 (J9 w0) (S:=A5) (by kernel_rfl:cAt code 18 = .loop (cAt code 19)) h
theorem n18_weak(e:M5 (cx w0) n [(0,(.pv (.str name))),(3,b),(14,(.pv (.int .i64 t14))),(15,(.pv (.int .i64 t15)))] σ [(0,(.pv (.str name'))),(3,b'),(14,(.pv (.int .i64 t14'))),(15,(.pv (.int .i64 t15')))] τ)(h:n18 (X w0 n) w0 n R τ name' b' t14' t15'):n18 (X w0 n) w0 n R σ name b t14 t15:=T5 (L:=lv) (k:=18) (by kernel_rfl:cAt code 18 = .loop (cAt code 19)) e h
theorem b19_eq:b19 Z w0 n R σ name b t14 t15=(
 B1 (decide ((t15:Int)<t14)) (opt (Q8 B2 ti9.td (.pv (.str name)) t15) fun t20=>isI .u8 t20 fun t20_1=>A1 (cx w0) U1.id [(.pv (.int .u8 t20_1))] σ fun r σ'=>isTup r fun vs=>opt ((vs)[0]?) fun t24=>isI .u8 t24 fun t24_1=>isTup r fun vs_1=>opt ((vs_1)[1]?) fun t25=>isB t25 fun t25_1=>B1 t25_1 (A1 (cx w0) strings_Builder_WriteByte.id [b,(.pv (.int .u8 92))] σ' fun r_1 σ'_1=>A1 (cx w0) strings_Builder_WriteByte.id [b,(.pv (.int .u8 t24_1))] σ'_1 fun r_2 σ'_2=>n45 Z w0 n R σ'_2 name b t14 t15) (B1 (decide ((t20_1:Int)<32)) (n42 Z w0 n R σ' name b t20_1 t14 t15 true) (n42 Z w0 n R σ' name b t20_1 t14 t15 (decide ((t20_1:Int)≥127))))) (n46 Z w0 n R σ b)):=by kernel_rfl
theorem b42_eq:b42 Z w0 n R σ name b c t14 t15 t33=(
 B1 t33 ((0≤(6:Int)∧((0≤(3:Int)∧(opt2 (J1 σ ti5 true 4 [(0,(.pv (.int .u8 92))),(1,(.pv (.int .u8 (IntKind.wrap .u8 (48+(Int.fdiv c (2 ^ (min (6:Int).toNat (IntKind.bits .u8))))))))),(2,(.pv (.int .u8 (IntKind.wrap .u8 (48+(IntKind.wrap .u8 (BitVec.ofInt (IntKind.bits .u8) (Int.fdiv c (2 ^ (min (3:Int).toNat (IntKind.bits .u8)))) &&& BitVec.ofInt (IntKind.bits .u8) 7).toNat)))))),(3,(.pv (.int .u8 (IntKind.wrap .u8 (48+(IntKind.wrap .u8 (BitVec.ofInt (IntKind.bits .u8) c &&& BitVec.ofInt (IntKind.bits .u8) 7).toNat))))))]) fun t50 σ'=>A1 (cx w0) strings_Builder_Write.id [b,t50] σ' fun r σ'_1=>n45 Z w0 n R σ'_1 name b t14 t15))))) (A1 (cx w0) strings_Builder_WriteByte.id [b,(.pv (.int .u8 c))] σ fun r σ'=>n45 Z w0 n R σ' name b t14 t15)):=by kernel_rfl
theorem n42_in(h:b42 (X w0 n) w0 n R σ name b c t14 t15 t33):n42 (X w0 n) w0 n R σ name b c t14 t15 t33:=E0 (S:=A5) (by kernel_rfl) h
theorem b45_eq:b45 Z w0 n R σ name b t14 t15=(
 n18 Z w0 n R σ name b t14 (IntKind.wrap .i64 (t15+1))):=by kernel_rfl
theorem n45_in(h:b45 (X w0 n) w0 n R σ name b t14 t15):n45 (X w0 n) w0 n R σ name b t14 t15:=E0 (S:=A5) (by kernel_rfl) h
theorem b46_eq:b46 Z w0 n R σ b=(
 A1 (cx w0) strings_Builder_WriteByte.id [b,(.pv (.int .u8 34))] σ fun r σ'=>A1 (cx w0) strings_Builder_String.id [b] σ' fun r_1 σ'_1=>isS r_1 fun t54=>F2 (cx w0) n (.pv (.str t54)) σ'_1 R):=by kernel_rfl
theorem n46_in(h:b46 (X w0 n) w0 n R σ b):n46 (X w0 n) w0 n R σ b:=E0 (S:=A5) (by kernel_rfl) h
theorem b0_eq:b0 Z w0 n R σ name=(
 A1 (cx w0) M0.id [(.pv (.str name))] σ fun r σ'=>isB r fun t9=>B1 (!t9) (F2 (cx w0) n (.pv (.str name)) σ' R) (A1 (cx w0) strings_Builder_WriteByte.id [(.ptr (List.length σ') 0),(.pv (.int .u8 34))] (σ' ++ [.bld 58 5 []]) fun r_1 σ'_1=>n18 Z w0 n R σ'_1 name (.ptr (List.length σ') 0) (List.length (name:List UInt8):Int) 0)):=by kernel_rfl
theorem calls(h:b0 (X w0 (List.length σ)) w0 (List.length σ) R σ name):A1 (cx w0) J0.id [(.pv (.str name))] σ R:=
 D3 (J9 w0) (x:=fe) (S:=A5) (J0.ok w0) (by kernel_rfl) h
end J0
namespace sq
variable {Z:XT}{w0:B5}{n:Nat}{R:RT}{σ τ:A2}{name name':List UInt8}{i i':Int}{t27:Bool}
end sq
namespace V9
def lvs:List (List Nat):=[[0],[0],[0],[0],[0],[0,3],[0,3],[0,3],[0,3],[0,3],[0,3,6],[0,3],[0],[0,3],[0,3],[0,3],[0,3],[0,3,12],[3],[3],[2],[0,3],[0,3],[0],[0],[0],[0,23],[0],[0],[2],[0],[0],[0],[4],[4],[2]]
def lv:Nat→List Nat:=O9 lvs
noncomputable def code:Code:=F3 Tryz.f104
noncomputable def fe:FE:=⟨Tryz.f104,code,lv⟩
theorem ok(w0:B5):FOK (cx w0) V9.id fe:=⟨Tryz.func104,by kernel_rfl,by kernel_rfl⟩
variable {Z:XT}{w0:B5}{n:Nat}{R:RT}{σ τ:A2}{b i b' i':Int}{t23:Bool}
end V9
namespace sa
variable {Z:XT}{w0:B5}{n:Nat}{R:RT}{σ τ:A2}{name name':List UInt8}{out out':AV}{i i':Int}
end sa
end Go.Sv
end
