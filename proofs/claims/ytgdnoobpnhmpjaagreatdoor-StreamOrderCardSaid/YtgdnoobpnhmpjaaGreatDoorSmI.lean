/- What the code of Go functions comes to over abstract stores, piece by piece; each equation by the kernel. Printed by a program of this session. -/
import Derived.Test.YtgdnoobpnhmpjaaGreatDoorSvT
import Derived.KernelRfl
set_option linter.unusedVariables false
set_option maxRecDepth 100000
namespace Go.Sv
open Go Go.Proofs
namespace dz
variable {Z:XT}{w0:B4}{n:Nat}{R:RT}{σ τ:A1}{t2:Bool}{text:List UInt8}
end dz
namespace F6
def lvs:List (List Nat):=[[0,1],[0,1],[0,1],[0,1],[0,1],[0,1,12],[0],[0],[4],[0,1],[0,1],[0,1],[0,1],[0,1,21],[0,1],[0,1],[4],[0,1],[0,1],[0,1],[0,1],[0,1,5,6],[0,1,5,6],[0,1,5,31],[0,5],[0,5],[4],[0,1],[0,1],[0,1],[4]]
def lv:Nat→List Nat:=J8 lvs
noncomputable def code:Code:=F0 Tryz.f70
noncomputable def fe:FE:=⟨Tryz.f70,code,lv⟩
def A7:List Nat:=[5,13]
abbrev X(w0:B4)(n:Nat):XT:=xr (cx w0) 37 lv n
theorem ok(w0:B4):FOK (cx w0) F6.id fe:=⟨Tryz.func70,by kernel_rfl,by kernel_rfl⟩
section
variable (Z:XT)(w0:B4)(n:Nat)(R:RT)(σ:A1)(s cutset:List UInt8)(t12 t21:Bool)
def q3:QT:=F2 (fun env σ=>A5 (cx w0) 37 lv n A7 Z (cAt code 10) 10 (prune (lv 10) env) σ (B9 (cx w0) Tryz.f70 n R)) (B9 (cx w0) Tryz.f70 n R)
def q11:QT:=F2 (fun env σ=>A5 (cx w0) 37 lv n A7 Z (cAt code 18) 18 (prune (lv 18) env) σ (B9 (cx w0) Tryz.f70 n R)) (B9 (cx w0) Tryz.f70 n R)
def n5:Prop:=
 Z (cAt code 5) 5 [(0,(.pv (.str s))),(1,(.pv (.str cutset))),(12,(.pv (.bool t12)))] σ (q3 Z w0 n R)
def b5:Prop:=
 A5 (cx w0) 37 lv n A7 Z (cAt code 5) 5 [(0,(.pv (.str s))),(1,(.pv (.str cutset))),(12,(.pv (.bool t12)))] σ (q3 Z w0 n R)
def n13:Prop:=
 Z (cAt code 13) 13 [(0,(.pv (.str s))),(1,(.pv (.str cutset))),(21,(.pv (.bool t21)))] σ (q11 Z w0 n R)
def b13:Prop:=
 A5 (cx w0) 37 lv n A7 Z (cAt code 13) 13 [(0,(.pv (.str s))),(1,(.pv (.str cutset))),(21,(.pv (.bool t21)))] σ (q11 Z w0 n R)
def b0:Prop:=
 A5 (cx w0) 37 lv n A7 Z code 0 (H3 0 [(.pv (.str s)),(.pv (.str cutset))]) σ (B9 (cx w0) Tryz.f70 n R)
end
variable {Z:XT}{w0:B4}{n:Nat}{R:RT}{σ τ:A1}{s cutset:List UInt8}{t12 t21:Bool}
theorem b5_eq:b5 Z w0 n R σ s cutset t12=(
 B1 t12 (D9 (cx w0) n (.pv (.str s)) σ R) (B1 (((List.length (cutset:List UInt8):Int):Int)==1) (opt (L7 B3 ti9.td (.pv (.str cutset)) 0) fun t19=>isI .u8 t19 fun t19_1=>n13 Z w0 n R σ s cutset (decide ((t19_1:Int)<128))) (n13 Z w0 n R σ s cutset false))):=by kernel_rfl
theorem n5_in(h:b5 (X w0 n) w0 n R σ s cutset t12):n5 (X w0 n) w0 n R σ s cutset t12:=E1 (S:=A7) (by kernel_rfl) @h
theorem b13_eq:b13 Z w0 n R σ s cutset t21=(
 B1 t21 (opt (L7 B3 ti9.td (.pv (.str cutset)) 0) fun t24=>isI .u8 t24 fun t24_1=>A2 (cx w0) M5.id [(.pv (.str s)),(.pv (.int .u8 t24_1))] σ fun r σ'=>isS r fun t25=>D9 (cx w0) n (.pv (.str t25)) σ' R) (A2 (cx w0) H0.id [(.pv (.str cutset))] σ fun r σ'=>isTup r fun vs=>opt ((vs)[0]?) fun t29=>isTup r fun vs_1=>opt ((vs_1)[1]?) fun t30=>isB t30 fun t30_1=>opt (C2 (σ' ++ [.cells 178 (AV.ofValue ti178.zero).cells]) ti178 (.ptr (List.length σ') 0) t29) fun σ'_1=>B1 t30_1 (A2 (cx w0) B8.id [(.pv (.str s)),(.ptr (List.length σ') 0)] σ'_1 fun r_1 σ'_2=>isS r_1 fun t33=>D9 (cx w0) n (.pv (.str t33)) σ'_2 R) (A2 (cx w0) strings_trimLeftUnicode.id [(.pv (.str s)),(.pv (.str cutset))] σ'_1 fun r_1 σ'_2=>isS r_1 fun t36=>D9 (cx w0) n (.pv (.str t36)) σ'_2 R))):=by kernel_rfl
theorem n13_in(h:b13 (X w0 n) w0 n R σ s cutset t21):n13 (X w0 n) w0 n R σ s cutset t21:=E1 (S:=A7) (by kernel_rfl) @h
theorem b0_eq:b0 Z w0 n R σ s cutset=(
 B1 ((s:List UInt8) == []) (n5 Z w0 n R σ s cutset true) (n5 Z w0 n R σ s cutset ((cutset:List UInt8) == []))):=by kernel_rfl
theorem calls(h:b0 (X w0 (List.length σ)) w0 (List.length σ) R σ s cutset):A2 (cx w0) F6.id [(.pv (.str s)),(.pv (.str cutset))] σ R:=
 D0 (I4 w0) (x:=fe) (S:=A7) (F6.ok w0) (by kernel_rfl) @h
attribute [irreducible] n5 b5 n13 b13 b0
end F6
namespace B8
def lvs:List (List Nat):=[[0,1],[0,1],[0,1],[0,1],[0,1],[0,1],[0,1],[0,1],[0,1,7],[0,1],[0],[0,1],[0,1],[0,1],[0,1],[0,1,12],[0],[0,1],[0,1],[0],[0],[4]]
def lv:Nat→List Nat:=J8 lvs
noncomputable def code:Code:=F0 Tryz.f111
noncomputable def fe:FE:=⟨Tryz.f111,code,lv⟩
def A7:List Nat:=[5,19]
abbrev X(w0:B4)(n:Nat):XT:=xr (cx w0) 16 lv n
theorem ok(w0:B4):FOK (cx w0) B8.id fe:=⟨Tryz.func111,by kernel_rfl,by kernel_rfl⟩
section
variable (Z:XT)(w0:B4)(n:Nat)(R:RT)(σ:A1)(s:List UInt8)(as_:AV)
def q3:QT:=F2 (fun env σ=>Z (cAt code 19) 19 (prune (lv 19) env) σ (B9 (cx w0) Tryz.f111 n R)) (B9 (cx w0) Tryz.f111 n R)
def q4:QT:=I3 0 (q3 Z w0 n R)
def q5:QT:=F2 (fun env σ=>Z (cAt code 4) 4 (prune (lv 4) env) σ (q4 Z w0 n R)) (q4 Z w0 n R)
def n4:Prop:=
 Z (cAt code 4) 4 [(0,(.pv (.str s))),(1,as_)] σ (q4 Z w0 n R)
def b5:Prop:=
 A5 (cx w0) 16 lv n A7 Z (cAt code 5) 5 [(0,(.pv (.str s))),(1,as_)] σ (q5 Z w0 n R)
def n19:Prop:=
 Z (cAt code 19) 19 [(0,(.pv (.str s)))] σ (B9 (cx w0) Tryz.f111 n R)
def b19:Prop:=
 A5 (cx w0) 16 lv n A7 Z (cAt code 19) 19 [(0,(.pv (.str s)))] σ (B9 (cx w0) Tryz.f111 n R)
def b0:Prop:=
 A5 (cx w0) 16 lv n A7 Z code 0 (H3 0 [(.pv (.str s)),as_]) σ (B9 (cx w0) Tryz.f111 n R)
end
variable {Z:XT}{w0:B4}{n:Nat}{R:RT}{σ τ:A1}{s s':List UInt8}{as_ as_':AV}
theorem n4_in(h:b5 (X w0 n) w0 n R σ s as_):n4 (X w0 n) w0 n R σ s as_:=J9 (I4 w0) (S:=A7) (by kernel_rfl:cAt code 4 = .loop (cAt code 5)) @h
theorem b5_eq:b5 Z w0 n R σ s as_=(
 B1 (decide (((List.length (s:List UInt8):Int):Int)>0)) (opt (L7 B3 ti9.td (.pv (.str s)) 0) fun t10=>isI .u8 t10 fun t10_1=>A2 (cx w0) E0.id [as_,(.pv (.int .u8 t10_1))] σ fun r σ'=>isB r fun t11=>B1 (!t11) (n19 Z w0 n R σ' s) (opt (G7 σ' B3 ti9.td (.pv (.str s)) (some (.pv (.int .i64 1))) none) fun t14=>isS t14 fun t14_1=>n4 Z w0 n R σ' t14_1 as_)) (n19 Z w0 n R σ s)):=by kernel_rfl
theorem b19_eq:b19 Z w0 n R σ s=(
 D9 (cx w0) n (.pv (.str s)) σ R):=by kernel_rfl
theorem n19_in(h:b19 (X w0 n) w0 n R σ s):n19 (X w0 n) w0 n R σ s:=E1 (S:=A7) (by kernel_rfl) @h
theorem b0_eq:b0 Z w0 n R σ s as_=(
 n4 Z w0 n R σ s as_):=by kernel_rfl
theorem calls(h:b0 (X w0 (List.length σ)) w0 (List.length σ) R σ s as_):A2 (cx w0) B8.id [(.pv (.str s)),as_] σ R:=
 D0 (I4 w0) (x:=fe) (S:=A7) (B8.ok w0) (by kernel_rfl) @h
attribute [irreducible] n4 b5 n19 b19 b0
end B8
namespace K8
def lvs:List (List Nat):=[[0,1],[0,1],[0,1],[0,1],[4,5,6]]
def lv:Nat→List Nat:=J8 lvs
noncomputable def code:Code:=F0 Tryz.f122
noncomputable def fe:FE:=⟨Tryz.f122,code,lv⟩
def A7:List Nat:=[]
abbrev X(w0:B4)(n:Nat):XT:=xr (cx w0) 13 lv n
theorem ok(w0:B4):FOK (cx w0) K8.id fe:=⟨Tryz.func122,by kernel_rfl,by kernel_rfl⟩
section
variable (Z:XT)(w0:B4)(n:Nat)(R:RT)(σ:A1)(s sep:List UInt8)
def b0:Prop:=
 A5 (cx w0) 13 lv n A7 Z code 0 (H3 0 [(.pv (.str s)),(.pv (.str sep))]) σ (B9 (cx w0) Tryz.f122 n R)
end
variable {Z:XT}{w0:B4}{n:Nat}{R:RT}{σ τ:A1}{s sep:List UInt8}
theorem b0_eq:b0 Z w0 n R σ s sep=(
 A2 (cx w0) J0.id [(.pv (.str s)),(.pv (.str sep))] σ fun r σ'=>isTup r fun vs=>opt ((vs)[0]?) fun t10=>isS t10 fun t10_1=>isTup r fun vs_1=>opt ((vs_1)[1]?) fun t11=>isS t11 fun t11_1=>isTup r fun vs_2=>opt ((vs_2)[2]?) fun t12=>isB t12 fun t12_1=>D9 (cx w0) n (.tup [(.pv (.str t10_1)),(.pv (.str t11_1)),(.pv (.bool t12_1))]) σ' R):=by kernel_rfl
theorem calls(h:b0 (X w0 (List.length σ)) w0 (List.length σ) R σ s sep):A2 (cx w0) K8.id [(.pv (.str s)),(.pv (.str sep))] σ R:=
 D0 (I4 w0) (x:=fe) (S:=A7) (K8.ok w0) (by kernel_rfl) @h
attribute [irreducible] b0
end K8
namespace J0
def lvs:List (List Nat):=[[0,1],[0,1],[0,1],[0,1],[0,1],[0,1,7],[0,1,7],[0,1,7,12],[0,1,7],[0,1,7],[4,5,6],[0],[0],[0],[4,5,6]]
def lv:Nat→List Nat:=J8 lvs
noncomputable def code:Code:=F0 Tryz.f155
noncomputable def fe:FE:=⟨Tryz.f155,code,lv⟩
def A7:List Nat:=[]
abbrev X(w0:B4)(n:Nat):XT:=xr (cx w0) 23 lv n
theorem ok(w0:B4):FOK (cx w0) J0.id fe:=⟨Tryz.func155,by kernel_rfl,by kernel_rfl⟩
section
variable (Z:XT)(w0:B4)(n:Nat)(R:RT)(σ:A1)(s sep:List UInt8)
def b0:Prop:=
 A5 (cx w0) 23 lv n A7 Z code 0 (H3 0 [(.pv (.str s)),(.pv (.str sep))]) σ (B9 (cx w0) Tryz.f155 n R)
end
variable {Z:XT}{w0:B4}{n:Nat}{R:RT}{σ τ:A1}{s sep:List UInt8}
theorem b0_eq:b0 Z w0 n R σ s sep=(
 A2 (cx w0) O0.id [(.pv (.str s)),(.pv (.str sep))] σ fun r σ'=>isI .i64 r fun t10=>B1 (decide ((t10:Int)≥0)) (opt (G7 σ' B3 ti9.td (.pv (.str s)) none (some (.pv (.int .i64 t10)))) fun t15=>isS t15 fun t15_1=>opt (G7 σ' B3 ti9.td (.pv (.str s)) (some (.pv (.int .i64 (IntKind.wrap .i64 (t10+(List.length (sep:List UInt8):Int)))))) none) fun t21=>isS t21 fun t21_1=>((opt (G7 σ' B3 ti9.td (.pv (.str s)) (some (.pv (.int .i64 (IntKind.wrap .i64 (t10+(List.length (sep:List UInt8):Int)))))) none) fun t21_2=>((t21_2:AV)=(.pv (.str t21_1))))∧(D9 (cx w0) n (.tup [(.pv (.str t15_1)),(.pv (.str t21_1)),(.pv (.bool true))]) σ' R))) (D9 (cx w0) n (.tup [(.pv (.str s)),(.pv (.str [])),(.pv (.bool false))]) σ' R)):=by kernel_rfl
theorem calls(h:b0 (X w0 (List.length σ)) w0 (List.length σ) R σ s sep):A2 (cx w0) J0.id [(.pv (.str s)),(.pv (.str sep))] σ R:=
 D0 (I4 w0) (x:=fe) (S:=A7) (J0.ok w0) (by kernel_rfl) @h
attribute [irreducible] b0
end J0
namespace E8
def lvs:List (List Nat):=[[0,1],[0,1],[0,1],[0,1],[4,5]]
def lv:Nat→List Nat:=J8 lvs
noncomputable def code:Code:=F0 Tryz.f65
noncomputable def fe:FE:=⟨Tryz.f65,code,lv⟩
def A7:List Nat:=[]
abbrev X(w0:B4)(n:Nat):XT:=xr (cx w0) 11 lv n
theorem ok(w0:B4):FOK (cx w0) E8.id fe:=⟨Tryz.func65,by kernel_rfl,by kernel_rfl⟩
section
variable (Z:XT)(w0:B4)(n:Nat)(R:RT)(σ:A1)(s prefix_:List UInt8)
def b0:Prop:=
 A5 (cx w0) 11 lv n A7 Z code 0 (H3 0 [(.pv (.str s)),(.pv (.str prefix_))]) σ (B9 (cx w0) Tryz.f65 n R)
end
variable {Z:XT}{w0:B4}{n:Nat}{R:RT}{σ τ:A1}{s prefix_:List UInt8}
theorem b0_eq:b0 Z w0 n R σ s prefix_=(
 A2 (cx w0) H2.id [(.pv (.str s)),(.pv (.str prefix_))] σ fun r σ'=>isTup r fun vs=>opt ((vs)[0]?) fun t9=>isS t9 fun t9_1=>isTup r fun vs_1=>opt ((vs_1)[1]?) fun t10=>isB t10 fun t10_1=>D9 (cx w0) n (.tup [(.pv (.str t9_1)),(.pv (.bool t10_1))]) σ' R):=by kernel_rfl
theorem calls(h:b0 (X w0 (List.length σ)) w0 (List.length σ) R σ s prefix_):A2 (cx w0) E8.id [(.pv (.str s)),(.pv (.str prefix_))] σ R:=
 D0 (I4 w0) (x:=fe) (S:=A7) (E8.ok w0) (by kernel_rfl) @h
attribute [irreducible] b0
end E8
namespace H2
def lvs:List (List Nat):=[[0,1],[0,1],[0,1],[0,1],[0,1],[0,1,9],[0],[0],[4,5],[0,1],[0,1],[0,1],[4,5]]
def lv:Nat→List Nat:=J8 lvs
noncomputable def code:Code:=F0 Tryz.f96
noncomputable def fe:FE:=⟨Tryz.f96,code,lv⟩
def A7:List Nat:=[]
abbrev X(w0:B4)(n:Nat):XT:=xr (cx w0) 15 lv n
theorem ok(w0:B4):FOK (cx w0) H2.id fe:=⟨Tryz.func96,by kernel_rfl,by kernel_rfl⟩
section
variable (Z:XT)(w0:B4)(n:Nat)(R:RT)(σ:A1)(s prefix_:List UInt8)
def b0:Prop:=
 A5 (cx w0) 15 lv n A7 Z code 0 (H3 0 [(.pv (.str s)),(.pv (.str prefix_))]) σ (B9 (cx w0) Tryz.f96 n R)
end
variable {Z:XT}{w0:B4}{n:Nat}{R:RT}{σ τ:A1}{s prefix_:List UInt8}
theorem b0_eq:b0 Z w0 n R σ s prefix_=(
 A2 (cx w0) D7.id [(.pv (.str s)),(.pv (.str prefix_))] σ fun r σ'=>isB r fun t8=>B1 (!t8) (D9 (cx w0) n (.tup [(.pv (.str s)),(.pv (.bool false))]) σ' R) (opt (G7 σ' B3 ti9.td (.pv (.str s)) (some (.pv (.int .i64 (List.length (prefix_:List UInt8):Int)))) none) fun t14=>isS t14 fun t14_1=>D9 (cx w0) n (.tup [(.pv (.str t14_1)),(.pv (.bool true))]) σ' R)):=by kernel_rfl
theorem calls(h:b0 (X w0 (List.length σ)) w0 (List.length σ) R σ s prefix_):A2 (cx w0) H2.id [(.pv (.str s)),(.pv (.str prefix_))] σ R:=
 D0 (I4 w0) (x:=fe) (S:=A7) (H2.ok w0) (by kernel_rfl) @h
attribute [irreducible] b0
end H2
namespace D7
def lvs:List (List Nat):=[[0,1],[0,1],[0,1],[0,1],[4]]
def lv:Nat→List Nat:=J8 lvs
noncomputable def code:Code:=F0 Tryz.f121
noncomputable def fe:FE:=⟨Tryz.f121,code,lv⟩
def A7:List Nat:=[4]
abbrev X(w0:B4)(n:Nat):XT:=xr (cx w0) 18 lv n
theorem ok(w0:B4):FOK (cx w0) D7.id fe:=⟨Tryz.func121,by kernel_rfl,by kernel_rfl⟩
section
variable (Z:XT)(w0:B4)(n:Nat)(R:RT)(σ:A1)(t4:Bool)(s prefix_:List UInt8)
def n4:Prop:=
 Z (cAt code 4) 4 [(4,(.pv (.bool t4)))] σ (B9 (cx w0) Tryz.f121 n R)
def b4:Prop:=
 A5 (cx w0) 18 lv n A7 Z (cAt code 4) 4 [(4,(.pv (.bool t4)))] σ (B9 (cx w0) Tryz.f121 n R)
def b0:Prop:=
 A5 (cx w0) 18 lv n A7 Z code 0 (H3 0 [(.pv (.str s)),(.pv (.str prefix_))]) σ (B9 (cx w0) Tryz.f121 n R)
end
variable {Z:XT}{w0:B4}{n:Nat}{R:RT}{σ τ:A1}{t4:Bool}{s prefix_:List UInt8}
theorem b4_eq:b4 Z w0 n R σ t4=(
 D9 (cx w0) n (.pv (.bool t4)) σ R):=by kernel_rfl
theorem n4_in(h:b4 (X w0 n) w0 n R σ t4):n4 (X w0 n) w0 n R σ t4:=E1 (S:=A7) (by kernel_rfl) @h
theorem b0_eq:b0 Z w0 n R σ s prefix_=(
 B1 (decide (((List.length (s:List UInt8):Int):Int)≥(List.length (prefix_:List UInt8):Int))) (opt (G7 σ B3 ti9.td (.pv (.str s)) none (some (.pv (.int .i64 (List.length (prefix_:List UInt8):Int))))) fun t14=>isS t14 fun t14_1=>n4 Z w0 n R σ ((t14_1:List UInt8)==prefix_)) (n4 Z w0 n R σ false)):=by kernel_rfl
theorem calls(h:b0 (X w0 (List.length σ)) w0 (List.length σ) R σ s prefix_):A2 (cx w0) D7.id [(.pv (.str s)),(.pv (.str prefix_))] σ R:=
 D0 (I4 w0) (x:=fe) (S:=A7) (D7.ok w0) (by kernel_rfl) @h
attribute [irreducible] n4 b4 b0
end D7
end Go.Sv
