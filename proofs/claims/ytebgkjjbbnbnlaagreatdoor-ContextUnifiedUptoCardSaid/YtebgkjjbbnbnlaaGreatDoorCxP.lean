/- What the code of Go functions comes to over abstract stores, piece by piece; each equation by the kernel. Printed by a program of this session. -/
import Derived.Test.YtebgkjjbbnbnlaaGreatDoorSvT
import Derived.KernelRfl
set_option linter.unusedVariables false
set_option maxRecDepth 100000
namespace Go.Sv
open Go Go.Proofs
namespace S7
def lvs:List (List Nat):=[[0,1],[0,1],[0,1],[0,1],[0,1],[0,1,6],[0],[0],[4],[0,1],[0,1],[0,1],[4]]
def lv:Nat→List Nat:=O9 lvs
noncomputable def code:Code:=F3 Tryz.f30
noncomputable def fe:FE:=⟨Tryz.f30,code,lv⟩
def A5:List Nat:=[]
abbrev X(w0:B5)(n:Nat):XT:=xr (cx w0) 18 lv n
theorem ok(w0:B5):FOK (cx w0) S7.id fe:=⟨Tryz.func30,by kernel_rfl,by kernel_rfl⟩
section
variable (Z:XT)(w0:B5)(n:Nat)(R:RT)(σ:A2)(at_ count:Int)
def b0:Prop:=
 A6 (cx w0) 18 lv n A5 Z code 0 (J6 0 [(.pv (.int .i64 at_)),(.pv (.int .i64 count))]) σ (B7 (cx w0) Tryz.f30 n R)
end
variable {Z:XT}{w0:B5}{n:Nat}{R:RT}{σ τ:A2}{at_ count:Int}
theorem b0_eq:b0 Z w0 n R σ at_ count=(
 B1 (decide ((count:Int)<2)) (A1 (cx w0) strconv_Itoa.id [(.pv (.int .i64 at_))] σ fun r σ'=>isS r fun t8=>F2 (cx w0) n (.pv (.str t8)) σ' R) (A1 (cx w0) strconv_Itoa.id [(.pv (.int .i64 at_))] σ fun r σ'=>isS r fun t10=>(List.length (t10:List UInt8)+List.length ([44]:List UInt8)≤9223372036854775807∧(A1 (cx w0) strconv_Itoa.id [(.pv (.int .i64 (IntKind.wrap .i64 ((IntKind.wrap .i64 (at_+count))-1))))] σ' fun r_1 σ'_1=>isS r_1 fun t16=>(List.length ((t10 ++ [44]):List UInt8)+List.length (t16:List UInt8)≤9223372036854775807∧(F2 (cx w0) n (.pv (.str ((t10 ++ [44])++t16))) σ'_1 R)))))):=by kernel_rfl
theorem calls(h:b0 (X w0 (List.length σ)) w0 (List.length σ) R σ at_ count):A1 (cx w0) S7.id [(.pv (.int .i64 at_)),(.pv (.int .i64 count))] σ R:=
 D3 (J9 w0) (x:=fe) (S:=A5) (S7.ok w0) (by kernel_rfl) h
end S7
namespace G3
def lvs:List (List Nat):=[[0],[0],[0,2,3,4],[0,2,3,4],[0,2,3,4],[0,2,3,4],[0,2,3,4],[0,2,3,4],[0,2,3,4,16],[0,2,3,4],[2,3,4],[0,2,3,4],[0,2,3,4],[0,2,3,4],[0,2,3,4],[0,2,3,4],[0,2,3,4],[2,3,4],[2,3,4],[2,3,4]]
def lv:Nat→List Nat:=O9 lvs
noncomputable def code:Code:=F3 Tryz.f64
noncomputable def fe:FE:=⟨Tryz.f64,code,lv⟩
def A5:List Nat:=[5,8,14,16,17]
abbrev X(w0:B5)(n:Nat):XT:=xr (cx w0) 40 lv n
theorem ok(w0:B5):FOK (cx w0) G3.id fe:=⟨Tryz.func64,by kernel_rfl,by kernel_rfl⟩
section
variable (Z:XT)(w0:B5)(n:Nat)(R:RT)(σ:A2)(l_:AV)(n_:Int)(old fresh t16:Bool)
def q3:QT:=D6 (fun env σ=>Z (cAt code 17) 17 (prune (lv 17) env) σ (B7 (cx w0) Tryz.f64 n R)) (B7 (cx w0) Tryz.f64 n R)
def q4:QT:=H7 0 (q3 Z w0 n R)
def q5:QT:=D6 (fun env σ=>Z (cAt code 4) 4 (prune (lv 4) env) σ (q4 Z w0 n R)) (q4 Z w0 n R)
def q6:QT:=D6 (fun env σ=>A6 (cx w0) 40 lv n A5 Z (cAt code 11) 11 (prune (lv 11) env) σ (q5 Z w0 n R)) (q5 Z w0 n R)
def q12:QT:=H7 1 (q5 Z w0 n R)
def n4:Prop:=
 Z (cAt code 4) 4 [(0,l_),(2,(.pv (.int .i64 n_))),(3,(.pv (.bool old))),(4,(.pv (.bool fresh)))] σ (q4 Z w0 n R)
def b5:Prop:=
 A6 (cx w0) 40 lv n A5 Z (cAt code 5) 5 [(0,l_),(2,(.pv (.int .i64 n_))),(3,(.pv (.bool old))),(4,(.pv (.bool fresh)))] σ (q5 Z w0 n R)
def n8:Prop:=
 Z (cAt code 8) 8 [(0,l_),(2,(.pv (.int .i64 n_))),(3,(.pv (.bool old))),(4,(.pv (.bool fresh))),(16,(.pv (.bool t16)))] σ (q6 Z w0 n R)
def b8:Prop:=
 A6 (cx w0) 40 lv n A5 Z (cAt code 8) 8 [(0,l_),(2,(.pv (.int .i64 n_))),(3,(.pv (.bool old))),(4,(.pv (.bool fresh))),(16,(.pv (.bool t16)))] σ (q6 Z w0 n R)
def n14:Prop:=
 Z (cAt code 14) 14 [(0,l_),(2,(.pv (.int .i64 n_))),(3,(.pv (.bool old))),(4,(.pv (.bool fresh)))] σ (q12 Z w0 n R)
def b14:Prop:=
 A6 (cx w0) 40 lv n A5 Z (cAt code 14) 14 [(0,l_),(2,(.pv (.int .i64 n_))),(3,(.pv (.bool old))),(4,(.pv (.bool fresh)))] σ (q12 Z w0 n R)
def n16:Prop:=
 Z (cAt code 16) 16 [(0,l_),(2,(.pv (.int .i64 n_))),(3,(.pv (.bool old))),(4,(.pv (.bool fresh)))] σ (q12 Z w0 n R)
def b16:Prop:=
 A6 (cx w0) 40 lv n A5 Z (cAt code 16) 16 [(0,l_),(2,(.pv (.int .i64 n_))),(3,(.pv (.bool old))),(4,(.pv (.bool fresh)))] σ (q12 Z w0 n R)
def n17:Prop:=
 Z (cAt code 17) 17 [(2,(.pv (.int .i64 n_))),(3,(.pv (.bool old))),(4,(.pv (.bool fresh)))] σ (B7 (cx w0) Tryz.f64 n R)
def b17:Prop:=
 A6 (cx w0) 40 lv n A5 Z (cAt code 17) 17 [(2,(.pv (.int .i64 n_))),(3,(.pv (.bool old))),(4,(.pv (.bool fresh)))] σ (B7 (cx w0) Tryz.f64 n R)
def b0:Prop:=
 A6 (cx w0) 40 lv n A5 Z code 0 (J6 0 [l_]) σ (B7 (cx w0) Tryz.f64 n R)
end
variable {Z:XT}{w0:B5}{n:Nat}{R:RT}{σ τ:A2}{l_ l_':AV}{n_ n_':Int}{old fresh t16 old' fresh':Bool}
theorem n4_in(h:b5 (X w0 n) w0 n R σ l_ n_ old fresh):n4 (X w0 n) w0 n R σ l_ n_ old fresh:=I5 (J9 w0) (S:=A5) (by kernel_rfl:cAt code 4 = .loop (cAt code 5)) h
theorem b5_eq:b5 Z w0 n R σ l_ n_ old fresh=(
 opt (R2 R7.td l_) fun t7=>isI .i64 t7 fun t7_1=>B1 (decide ((n_:Int)<t7_1)) (opt (B9 σ B2 R7.td l_ n_) fun t12=>opt (A3 B2 L7.td t12 0) fun t13=>opt (A4 σ ti3 t13) fun t14=>isI .i64 t14 fun t14_1=>n8 Z w0 n R σ l_ n_ old fresh ((t14_1:Int) != 1)) (n8 Z w0 n R σ l_ n_ old fresh false)):=by kernel_rfl
theorem b8_eq:b8 Z w0 n R σ l_ n_ old fresh t16=(
 B1 t16 (B1 old (n14 Z w0 n R σ l_ n_ true fresh) (opt (B9 σ B2 R7.td l_ n_) fun t21=>opt (A3 B2 L7.td t21 0) fun t22=>opt (A4 σ ti3 t22) fun t23=>isI .i64 t23 fun t23_1=>n14 Z w0 n R σ l_ n_ ((t23_1:Int)==2) fresh)) (n17 Z w0 n R σ n_ old fresh)):=by kernel_rfl
theorem n8_in(h:b8 (X w0 n) w0 n R σ l_ n_ old fresh t16):n8 (X w0 n) w0 n R σ l_ n_ old fresh t16:=E0 (S:=A5) (by kernel_rfl) h
theorem b14_eq:b14 Z w0 n R σ l_ n_ old fresh=(
 B1 fresh (n16 Z w0 n R σ l_ n_ old true) (opt (B9 σ B2 R7.td l_ n_) fun t30=>opt (A3 B2 L7.td t30 0) fun t31=>opt (A4 σ ti3 t31) fun t32=>isI .i64 t32 fun t32_1=>n16 Z w0 n R σ l_ n_ old ((t32_1:Int)==3))):=by kernel_rfl
theorem n14_in(h:b14 (X w0 n) w0 n R σ l_ n_ old fresh):n14 (X w0 n) w0 n R σ l_ n_ old fresh:=E0 (S:=A5) (by kernel_rfl) h
theorem b16_eq:b16 Z w0 n R σ l_ n_ old fresh=(
 n4 Z w0 n R σ l_ (IntKind.wrap .i64 (n_+1)) old fresh):=by kernel_rfl
theorem n16_in(h:b16 (X w0 n) w0 n R σ l_ n_ old fresh):n16 (X w0 n) w0 n R σ l_ n_ old fresh:=E0 (S:=A5) (by kernel_rfl) h
theorem b17_eq:b17 Z w0 n R σ n_ old fresh=(
 F2 (cx w0) n (.tup [(.pv (.int .i64 n_)),(.pv (.bool old)),(.pv (.bool fresh))]) σ R):=by kernel_rfl
theorem n17_in(h:b17 (X w0 n) w0 n R σ n_ old fresh):n17 (X w0 n) w0 n R σ n_ old fresh:=E0 (S:=A5) (by kernel_rfl) h
theorem b0_eq:b0 Z w0 n R σ l_=(
 n4 Z w0 n R σ l_ 0 false false):=by kernel_rfl
theorem calls(h:b0 (X w0 (List.length σ)) w0 (List.length σ) R σ l_):A1 (cx w0) G3.id [l_] σ R:=
 D3 (J9 w0) (x:=fe) (S:=A5) (G3.ok w0) (by kernel_rfl) h
end G3
namespace E1
def lvs:List (List Nat):=[[0],[0],[0],[0],[0,3],[0,3],[0,3],[0,3],[0,3],[0,3],[0,3,16],[0,3],[3],[0,3],[0,3],[0,3],[0,3,4,5,6],[0,3,4,5,6],[0,3,4,5,6],[0,3,4,5,6,27],[0,3],[0,3],[0,3],[0,3,4,5,6],[0,3,4,5,6],[0,3,4,5,6],[0,3,5,6,38,39,40],[0,3,5,6,38,39,40],[0,3,5,6,38,39,40],[0,3,5,6,38,39,40],[0,3,5,6,38,39,40,41],[0,3,5,6,38,39,40,41],[0,3,5,6,38,39,40],[0,3],[0,3,5,6,38,39,40],[0,3,5,6,38,39,40],[0,3,5,6,38,39,40],[0,3,5,6,38,39,40],[0,3,5,6,8,38,39,40],[0,3,5,6,8,38,39,40],[0,3,5,6,8,38,39,40],[0,3,5,6,8,38,39,40,47],[0,3,5,6,38,39,40],[0,3,5,6,8,38,39,40],[0,3,5,6,8,38,39,40],[0,3,5,6,38,39,40,55],[0,3,5,6,38,39,40],[0,3,5,6,38,39,40],[0,3,5,6,38,39,40],[3],[3],[2]]
def lv:Nat→List Nat:=O9 lvs
noncomputable def code:Code:=F3 Tryz.f29
noncomputable def fe:FE:=⟨Tryz.f29,code,lv⟩
def A5:List Nat:=[7,28,41,48,49]
abbrev X(w0:B5)(n:Nat):XT:=xr (cx w0) 64 lv n
theorem ok(w0:B5):FOK (cx w0) E1.id fe:=⟨Tryz.func29,by kernel_rfl,by kernel_rfl⟩
section
variable (Z:XT)(w0:B5)(n:Nat)(R:RT)(σ:A2)(l_ out:AV)(old fresh:Bool)(r t38:AV)(t39 t40:Int)(t47:Bool)
def q5:QT:=D6 (fun env σ=>Z (cAt code 49) 49 (prune (lv 49) env) σ (B7 (cx w0) Tryz.f29 n R)) (B7 (cx w0) Tryz.f29 n R)
def q6:QT:=H7 0 (q5 Z w0 n R)
def q7:QT:=D6 (fun env σ=>Z (cAt code 6) 6 (prune (lv 6) env) σ (q6 Z w0 n R)) (q6 Z w0 n R)
def q14:QT:=H7 1 (q7 Z w0 n R)
def q27:QT:=H7 2 (q14 Z w0 n R)
def q28:QT:=D6 (fun env σ=>Z (cAt code 27) 27 (prune (lv 27) env) σ (q27 Z w0 n R)) (q27 Z w0 n R)
def q35:QT:=D6 (fun env σ=>Z (cAt code 48) 48 (prune (lv 48) env) σ (q28 Z w0 n R)) (q28 Z w0 n R)
def q36:QT:=H7 3 (q35 Z w0 n R)
def q39:QT:=H7 4 (q36 Z w0 n R)
def n6:Prop:=
 Z (cAt code 6) 6 [(0,l_),(3,out)] σ (q6 Z w0 n R)
def b7:Prop:=
 A6 (cx w0) 64 lv n A5 Z (cAt code 7) 7 [(0,l_),(3,out)] σ (q7 Z w0 n R)
def n27:Prop:=
 Z (cAt code 27) 27 [(0,l_),(3,out),(5,(.pv (.bool old))),(6,(.pv (.bool fresh))),(38,t38),(39,(.pv (.int .i64 t39))),(40,(.pv (.int .i64 t40)))] σ (q27 Z w0 n R)
def b28:Prop:=
 A6 (cx w0) 64 lv n A5 Z (cAt code 28) 28 [(0,l_),(3,out),(5,(.pv (.bool old))),(6,(.pv (.bool fresh))),(38,t38),(39,(.pv (.int .i64 t39))),(40,(.pv (.int .i64 t40)))] σ (q28 Z w0 n R)
def n41:Prop:=
 Z (cAt code 41) 41 [(0,l_),(3,out),(5,(.pv (.bool old))),(6,(.pv (.bool fresh))),(8,r),(38,t38),(39,(.pv (.int .i64 t39))),(40,(.pv (.int .i64 t40))),(47,(.pv (.bool t47)))] σ (q39 Z w0 n R)
def b41:Prop:=
 A6 (cx w0) 64 lv n A5 Z (cAt code 41) 41 [(0,l_),(3,out),(5,(.pv (.bool old))),(6,(.pv (.bool fresh))),(8,r),(38,t38),(39,(.pv (.int .i64 t39))),(40,(.pv (.int .i64 t40))),(47,(.pv (.bool t47)))] σ (q39 Z w0 n R)
def n48:Prop:=
 Z (cAt code 48) 48 [(0,l_),(3,out),(5,(.pv (.bool old))),(6,(.pv (.bool fresh))),(38,t38),(39,(.pv (.int .i64 t39))),(40,(.pv (.int .i64 t40)))] σ (q28 Z w0 n R)
def b48:Prop:=
 A6 (cx w0) 64 lv n A5 Z (cAt code 48) 48 [(0,l_),(3,out),(5,(.pv (.bool old))),(6,(.pv (.bool fresh))),(38,t38),(39,(.pv (.int .i64 t39))),(40,(.pv (.int .i64 t40)))] σ (q28 Z w0 n R)
def n49:Prop:=
 Z (cAt code 49) 49 [(3,out)] σ (B7 (cx w0) Tryz.f29 n R)
def b49:Prop:=
 A6 (cx w0) 64 lv n A5 Z (cAt code 49) 49 [(3,out)] σ (B7 (cx w0) Tryz.f29 n R)
def b0:Prop:=
 A6 (cx w0) 64 lv n A5 Z code 0 (J6 0 [l_]) σ (B7 (cx w0) Tryz.f29 n R)
end
variable {Z:XT}{w0:B5}{n:Nat}{R:RT}{σ τ:A2}{l_ out t38 r l_' out' t38':AV}{old fresh t47 old' fresh':Bool}{t39 t40 t39' t40':Int}
theorem n6_in(h:b7 (X w0 n) w0 n R σ l_ out):n6 (X w0 n) w0 n R σ l_ out:=I5 (J9 w0) (S:=A5) (by kernel_rfl:cAt code 6 = .loop (cAt code 7)) h
theorem b7_eq:b7 Z w0 n R σ l_ out=(
 opt (R2 Mj.td out) fun t13=>isI .i64 t13 fun t13_1=>opt (R2 R7.td l_) fun t15=>isI .i64 t15 fun t15_1=>B1 (decide ((t13_1:Int)<t15_1)) (opt (R2 Mj.td out) fun t20=>isI .i64 t20 fun t20_1=>opt (K5 σ B2 R7.td l_ (some (.pv (.int .i64 t20_1))) none) fun t21=>A1 (cx w0) G3.id [t21] σ fun r σ'=>isTup r fun vs=>opt ((vs)[0]?) fun t23=>isI .i64 t23 fun t23_1=>isTup r fun vs_1=>opt ((vs_1)[1]?) fun t24=>isB t24 fun t24_1=>isTup r fun vs_2=>opt ((vs_2)[2]?) fun t25=>isB t25 fun t25_1=>B1 ((t23_1:Int)==0) (opt2 (J1 σ' ti5 false 1 [(0,(.pv (.int .u8 32)))]) fun t29 σ'_1=>opt2 (N8 σ'_1 ti5 out t29) fun t30 σ'_2=>n6 Z w0 n R σ'_2 l_ t30) (opt (R2 Mj.td out) fun t33=>isI .i64 t33 fun t33_1=>opt (R2 Mj.td out) fun t35=>isI .i64 t35 fun t35_1=>opt (K5 σ' B2 R7.td l_ (some (.pv (.int .i64 t33_1))) (some (.pv (.int .i64 (IntKind.wrap .i64 (t35_1+t23_1)))))) fun t38=>opt (R2 R7.td t38) fun t39=>isI .i64 t39 fun t39_1=>n27 Z w0 n R σ' l_ out t24_1 t25_1 t38 t39_1 0)) (n49 Z w0 n R σ out)):=by kernel_rfl
theorem n27_in(h:b28 (X w0 n) w0 n R σ l_ out old fresh t38 t39 t40):n27 (X w0 n) w0 n R σ l_ out old fresh t38 t39 t40:=I5 (J9 w0) (S:=A5) (by kernel_rfl:cAt code 27 = .loop (cAt code 28)) h
theorem n27_weak(e:M5 (cx w0) n [(0,l_),(3,out),(5,(.pv (.bool old))),(6,(.pv (.bool fresh))),(38,t38),(39,(.pv (.int .i64 t39))),(40,(.pv (.int .i64 t40)))] σ [(0,l_'),(3,out'),(5,(.pv (.bool old'))),(6,(.pv (.bool fresh'))),(38,t38'),(39,(.pv (.int .i64 t39'))),(40,(.pv (.int .i64 t40')))] τ)(h:n27 (X w0 n) w0 n R τ l_' out' old' fresh' t38' t39' t40'):n27 (X w0 n) w0 n R σ l_ out old fresh t38 t39 t40:=T5 (L:=lv) (k:=27) (by kernel_rfl:cAt code 27 = .loop (cAt code 28)) e h
theorem b28_eq:b28 Z w0 n R σ l_ out old fresh t38 t39 t40=(
 B1 (decide ((t40:Int)<t39)) (opt (B9 σ B2 R7.td t38 t40) fun t42=>opt (A4 σ L7 t42) fun t43=>opt (C3 (σ ++ [.cells 51 (AV.ofValue L7.zero).cells]) L7 (.ptr (List.length σ) 0) t43) fun σ'=>B1 old (n41 Z w0 n R σ' l_ out old fresh (.ptr (List.length σ) 0) t38 t39 t40 fresh) (n41 Z w0 n R σ' l_ out old fresh (.ptr (List.length σ) 0) t38 t39 t40 false)) (n6 Z w0 n R σ l_ out)):=by kernel_rfl
theorem b41_eq:b41 Z w0 n R σ l_ out old fresh r t38 t39 t40 t47=(
 B1 t47 (opt2 (J1 σ ti5 false 1 [(0,(.pv (.int .u8 33)))]) fun t53 σ'=>opt2 (N8 σ' ti5 out t53) fun t54 σ'_1=>n48 Z w0 n R σ'_1 l_ t54 old fresh t38 t39 t40) (opt (A3 B2 L7.td r 0) fun t56=>opt (A4 σ ti3 t56) fun t57=>isI .i64 t57 fun t57_1=>B1 ((t57_1:Int)==2) (opt2 (J1 σ ti5 false 1 [(0,(.pv (.int .u8 45)))]) fun t60 σ'=>opt2 (N8 σ' ti5 out t60) fun t61 σ'_1=>n48 Z w0 n R σ'_1 l_ t61 old fresh t38 t39 t40) (opt2 (J1 σ ti5 false 1 [(0,(.pv (.int .u8 43)))]) fun t45 σ'=>opt2 (N8 σ' ti5 out t45) fun t46 σ'_1=>n48 Z w0 n R σ'_1 l_ t46 old fresh t38 t39 t40))):=by kernel_rfl
theorem n41_in(h:b41 (X w0 n) w0 n R σ l_ out old fresh r t38 t39 t40 t47):n41 (X w0 n) w0 n R σ l_ out old fresh r t38 t39 t40 t47:=E0 (S:=A5) (by kernel_rfl) h
theorem b48_eq:b48 Z w0 n R σ l_ out old fresh t38 t39 t40=(
 n27 Z w0 n R σ l_ out old fresh t38 t39 (IntKind.wrap .i64 (t40+1))):=by kernel_rfl
theorem n48_in(h:b48 (X w0 n) w0 n R σ l_ out old fresh t38 t39 t40):n48 (X w0 n) w0 n R σ l_ out old fresh t38 t39 t40:=E0 (S:=A5) (by kernel_rfl) h
theorem b49_eq:b49 Z w0 n R σ out=(
 F2 (cx w0) n out σ R):=by kernel_rfl
theorem n49_in(h:b49 (X w0 n) w0 n R σ out):n49 (X w0 n) w0 n R σ out:=E0 (S:=A5) (by kernel_rfl) h
theorem b0_eq:b0 Z w0 n R σ l_=(
 opt (R2 R7.td l_) fun t10=>isI .i64 t10 fun t10_1=>opt2 (bg σ ti5 0 t10_1) fun t11 σ'=>n6 Z w0 n R σ' l_ t11):=by kernel_rfl
theorem calls(h:b0 (X w0 (List.length σ)) w0 (List.length σ) R σ l_):A1 (cx w0) E1.id [l_] σ R:=
 D3 (J9 w0) (x:=fe) (S:=A5) (E1.ok w0) (by kernel_rfl) h
end E1
namespace D4
def lvs:List (List Nat):=[[0,1,2,3],[0,1,2,3],[0,1,2,3,8],[0,1,2,3,8],[0,1,2,3,8],[0,1,2,3,8,13,14,15],[0,1,2,3,8,13,14,15],[0,1,2,3,8,13,14,15],[0,1,2,3,8,13,14,15],[0,1,2,3,8,13,14,15,16],[0,1,2,3,8,13,14,15,16],[0,1,2,3,8,13,14,15],[0,1,2,3,8],[0,1,2,3,8,13,14,15],[0,1,2,3,8,13,14,15],[0,1,2,3,8,13,14,15],[0,1,2,3,8,13,14,15],[0,1,2,3,8,10,13,14,15],[0,1,2,3,8,13,14,15],[0,1,2,3,8],[0,1,2,3,8],[0,2,3,8,27,28,29],[0,2,3,8,27,28,29],[0,2,3,8,27,28,29],[0,2,3,8,27,28,29],[0,2,3,8,27,28,29,30],[0,2,3,8,27,28,29,30],[0,2,3,8,27,28,29],[],[0,2,3,8,27,28,29],[0,2,3,8,27,28,29],[0,2,3,8,27,28,29],[0,2,3,8,27,28,29],[0,2,3,8,11,12,27,28,29],[0,2,3,8,11,12,27,28,29],[0,2,3,8,11,12,27,28,29],[0,2,3,8,11,12,27,28,29,46],[0,2,3,8,27,28,29],[0,2,3,8,11,12,27,28,29],[0,2,3,8,11,12,27,28,29],[0,2,3,8,11,12,27,28,29],[0,2,3,8,12,27,28,29],[0,2,3,8,12,27,28,29],[0,2,3,8,12,27,28,29],[0,2,3,8,12,27,28,29],[0,2,3,8,27,28,29,61],[0,2,3,8,27,28,29],[0,2,3,8,27,28,29],[0,2,3,8,27,28,29]]
def lv:Nat→List Nat:=O9 lvs
noncomputable def code:Code:=F3 Tryz.f31
noncomputable def fe:FE:=⟨Tryz.f31,code,lv⟩
def A5:List Nat:=[7,18,19,23,36,48]
abbrev X(w0:B5)(n:Nat):XT:=xr (cx w0) 65 lv n
theorem ok(w0:B5):FOK (cx w0) D4.id fe:=⟨Tryz.func31,by kernel_rfl,by kernel_rfl⟩
section
variable (Z:XT)(w0:B5)(n:Nat)(R:RT)(σ:A2)(b l_ m:AV)(kind:Int)(any:Bool)(t13:AV)(t14 t15 i:Int)(r t27:AV)(t28 t29:Int)(t46:Bool)
def q3:QT:=D6 (fun env σ=>Z (cAt code 19) 19 (prune (lv 19) env) σ (B7 (cx w0) Tryz.f31 n R)) (B7 (cx w0) Tryz.f31 n R)
def q6:QT:=H7 0 (q3 Z w0 n R)
def q7:QT:=D6 (fun env σ=>Z (cAt code 6) 6 (prune (lv 6) env) σ (q6 Z w0 n R)) (q6 Z w0 n R)
def q22(X:XT)(w0:B5)(n:Nat)(R:RT):QT:=H7 2 (B7 (cx w0) Tryz.f31 n R)
def q23:QT:=D6 (fun env σ=>Z (cAt code 22) 22 (prune (lv 22) env) σ (q22 Z w0 n R)) (q22 Z w0 n R)
def q30:QT:=D6 (fun env σ=>Z (cAt code 48) 48 (prune (lv 48) env) σ (q23 Z w0 n R)) (q23 Z w0 n R)
def q31:QT:=H7 3 (q30 Z w0 n R)
def q34:QT:=D6 (fun env σ=>A6 (cx w0) 65 lv n A5 Z (cAt code 39) 39 (prune (lv 39) env) σ (q31 Z w0 n R)) (q31 Z w0 n R)
def n6:Prop:=
 Z (cAt code 6) 6 [(0,b),(1,l_),(2,m),(3,(.pv (.int .i64 kind))),(8,(.pv (.bool any))),(13,t13),(14,(.pv (.int .i64 t14))),(15,(.pv (.int .i64 t15)))] σ (q6 Z w0 n R)
def b7:Prop:=
 A6 (cx w0) 65 lv n A5 Z (cAt code 7) 7 [(0,b),(1,l_),(2,m),(3,(.pv (.int .i64 kind))),(8,(.pv (.bool any))),(13,t13),(14,(.pv (.int .i64 t14))),(15,(.pv (.int .i64 t15)))] σ (q7 Z w0 n R)
def n18:Prop:=
 Z (cAt code 18) 18 [(0,b),(1,l_),(2,m),(3,(.pv (.int .i64 kind))),(8,(.pv (.bool any))),(13,t13),(14,(.pv (.int .i64 t14))),(15,(.pv (.int .i64 t15)))] σ (q7 Z w0 n R)
def b18:Prop:=
 A6 (cx w0) 65 lv n A5 Z (cAt code 18) 18 [(0,b),(1,l_),(2,m),(3,(.pv (.int .i64 kind))),(8,(.pv (.bool any))),(13,t13),(14,(.pv (.int .i64 t14))),(15,(.pv (.int .i64 t15)))] σ (q7 Z w0 n R)
def n19:Prop:=
 Z (cAt code 19) 19 [(0,b),(1,l_),(2,m),(3,(.pv (.int .i64 kind))),(8,(.pv (.bool any)))] σ (B7 (cx w0) Tryz.f31 n R)
def b19:Prop:=
 A6 (cx w0) 65 lv n A5 Z (cAt code 19) 19 [(0,b),(1,l_),(2,m),(3,(.pv (.int .i64 kind))),(8,(.pv (.bool any)))] σ (B7 (cx w0) Tryz.f31 n R)
def n22:Prop:=
 Z (cAt code 22) 22 [(0,b),(2,m),(3,(.pv (.int .i64 kind))),(8,(.pv (.bool any))),(27,t27),(28,(.pv (.int .i64 t28))),(29,(.pv (.int .i64 t29)))] σ (q22 Z w0 n R)
def b23:Prop:=
 A6 (cx w0) 65 lv n A5 Z (cAt code 23) 23 [(0,b),(2,m),(3,(.pv (.int .i64 kind))),(8,(.pv (.bool any))),(27,t27),(28,(.pv (.int .i64 t28))),(29,(.pv (.int .i64 t29)))] σ (q23 Z w0 n R)
def n36:Prop:=
 Z (cAt code 36) 36 [(0,b),(2,m),(3,(.pv (.int .i64 kind))),(8,(.pv (.bool any))),(11,(.pv (.int .i64 i))),(12,r),(27,t27),(28,(.pv (.int .i64 t28))),(29,(.pv (.int .i64 t29))),(46,(.pv (.bool t46)))] σ (q34 Z w0 n R)
def b36:Prop:=
 A6 (cx w0) 65 lv n A5 Z (cAt code 36) 36 [(0,b),(2,m),(3,(.pv (.int .i64 kind))),(8,(.pv (.bool any))),(11,(.pv (.int .i64 i))),(12,r),(27,t27),(28,(.pv (.int .i64 t28))),(29,(.pv (.int .i64 t29))),(46,(.pv (.bool t46)))] σ (q34 Z w0 n R)
def n48:Prop:=
 Z (cAt code 48) 48 [(0,b),(2,m),(3,(.pv (.int .i64 kind))),(8,(.pv (.bool any))),(27,t27),(28,(.pv (.int .i64 t28))),(29,(.pv (.int .i64 t29)))] σ (q23 Z w0 n R)
def b48:Prop:=
 A6 (cx w0) 65 lv n A5 Z (cAt code 48) 48 [(0,b),(2,m),(3,(.pv (.int .i64 kind))),(8,(.pv (.bool any))),(27,t27),(28,(.pv (.int .i64 t28))),(29,(.pv (.int .i64 t29)))] σ (q23 Z w0 n R)
def b0:Prop:=
 A6 (cx w0) 65 lv n A5 Z code 0 (J6 0 [b,l_,m,(.pv (.int .i64 kind))]) σ (B7 (cx w0) Tryz.f31 n R)
end
variable {Z:XT}{w0:B5}{n:Nat}{R:RT}{σ τ:A2}{b l_ m t13 t27 r b' l_' m' t13' t27':AV}{kind t14 t15 t28 t29 i kind' t14' t15' t28' t29':Int}{any t46 any':Bool}
theorem n6_in(h:b7 (X w0 n) w0 n R σ b l_ m kind any t13 t14 t15):n6 (X w0 n) w0 n R σ b l_ m kind any t13 t14 t15:=I5 (J9 w0) (S:=A5) (by kernel_rfl:cAt code 6 = .loop (cAt code 7)) h
theorem n6_weak(e:M5 (cx w0) n [(0,b),(1,l_),(2,m),(3,(.pv (.int .i64 kind))),(8,(.pv (.bool any))),(13,t13),(14,(.pv (.int .i64 t14))),(15,(.pv (.int .i64 t15)))] σ [(0,b'),(1,l_'),(2,m'),(3,(.pv (.int .i64 kind'))),(8,(.pv (.bool any'))),(13,t13'),(14,(.pv (.int .i64 t14'))),(15,(.pv (.int .i64 t15')))] τ)(h:n6 (X w0 n) w0 n R τ b' l_' m' kind' any' t13' t14' t15'):n6 (X w0 n) w0 n R σ b l_ m kind any t13 t14 t15:=T5 (L:=lv) (k:=6) (by kernel_rfl:cAt code 6 = .loop (cAt code 7)) e h
theorem b7_eq:b7 Z w0 n R σ b l_ m kind any t13 t14 t15=(
 B1 (decide ((t15:Int)<t14)) (opt (B9 σ B2 R7.td t13 t15) fun t17=>opt (A4 σ L7 t17) fun t18=>opt (C3 (σ ++ [.cells 51 (AV.ofValue L7.zero).cells]) L7 (.ptr (List.length σ) 0) t18) fun σ'=>B1 any (n18 Z w0 n R σ' b l_ m kind true t13 t14 t15) (opt (A3 B2 L7.td (.ptr (List.length σ) 0) 0) fun t21=>opt (A4 σ' ti3 t21) fun t22=>isI .i64 t22 fun t22_1=>n18 Z w0 n R σ' b l_ m kind ((t22_1:Int)==kind) t13 t14 t15)) (n19 Z w0 n R σ b l_ m kind any)):=by kernel_rfl
theorem b18_eq:b18 Z w0 n R σ b l_ m kind any t13 t14 t15=(
 n6 Z w0 n R σ b l_ m kind any t13 t14 (IntKind.wrap .i64 (t15+1))):=by kernel_rfl
theorem n18_in(h:b18 (X w0 n) w0 n R σ b l_ m kind any t13 t14 t15):n18 (X w0 n) w0 n R σ b l_ m kind any t13 t14 t15:=E0 (S:=A5) (by kernel_rfl) h
theorem b19_eq:b19 Z w0 n R σ b l_ m kind any=(
 opt (R2 R7.td l_) fun t28=>isI .i64 t28 fun t28_1=>n22 Z w0 n R σ b m kind any l_ t28_1 0):=by kernel_rfl
theorem n19_in(h:b19 (X w0 n) w0 n R σ b l_ m kind any):n19 (X w0 n) w0 n R σ b l_ m kind any:=E0 (S:=A5) (by kernel_rfl) h
theorem n22_in(h:b23 (X w0 n) w0 n R σ b m kind any t27 t28 t29):n22 (X w0 n) w0 n R σ b m kind any t27 t28 t29:=I5 (J9 w0) (S:=A5) (by kernel_rfl:cAt code 22 = .loop (cAt code 23)) h
theorem n22_weak(e:M5 (cx w0) n [(0,b),(2,m),(3,(.pv (.int .i64 kind))),(8,(.pv (.bool any))),(27,t27),(28,(.pv (.int .i64 t28))),(29,(.pv (.int .i64 t29)))] σ [(0,b'),(2,m'),(3,(.pv (.int .i64 kind'))),(8,(.pv (.bool any'))),(27,t27'),(28,(.pv (.int .i64 t28'))),(29,(.pv (.int .i64 t29')))] τ)(h:n22 (X w0 n) w0 n R τ b' m' kind' any' t27' t28' t29'):n22 (X w0 n) w0 n R σ b m kind any t27 t28 t29:=T5 (L:=lv) (k:=22) (by kernel_rfl:cAt code 22 = .loop (cAt code 23)) e h
theorem b23_eq:b23 Z w0 n R σ b m kind any t27 t28 t29=(
 B1 (decide ((t29:Int)<t28)) (opt (B9 σ B2 R7.td t27 t29) fun t32=>opt (A4 σ L7 t32) fun t33=>opt (C3 (σ ++ [.cells 51 (AV.ofValue L7.zero).cells]) L7 (.ptr (List.length σ) 0) t33) fun σ'=>B1 (!any) (n36 Z w0 n R σ' b m kind any t29 (.ptr (List.length σ) 0) t27 t28 t29 true) (opt (A3 B2 L7.td (.ptr (List.length σ) 0) 0) fun t37=>opt (A4 σ' ti3 t37) fun t38=>isI .i64 t38 fun t38_1=>B1 ((t38_1:Int) != 1) (opt (A3 B2 L7.td (.ptr (List.length σ) 0) 0) fun t41=>opt (A4 σ' ti3 t41) fun t42=>isI .i64 t42 fun t42_1=>n36 Z w0 n R σ' b m kind any t29 (.ptr (List.length σ) 0) t27 t28 t29 ((t42_1:Int) != kind)) (n36 Z w0 n R σ' b m kind any t29 (.ptr (List.length σ) 0) t27 t28 t29 false))) (F2 (cx w0) n (.tup []) σ R)):=by kernel_rfl
theorem b36_eq:b36 Z w0 n R σ b m kind any i r t27 t28 t29 t46=(
 B1 t46 (n48 Z w0 n R σ b m kind any t27 t28 t29) (opt (B9 σ B2 Mj.td m i) fun t50=>opt (A4 σ ti5 t50) fun t51=>isI .u8 t51 fun t51_1=>A1 (cx w0) strings_Builder_WriteByte.id [b,(.pv (.int .u8 t51_1))] σ fun r_1 σ'=>opt (A3 B2 L7.td r 1) fun t54=>opt (A4 σ' ti9 t54) fun t55=>isS t55 fun t55_1=>(List.length ([32]:List UInt8)+List.length (t55_1:List UInt8)≤9223372036854775807∧(A1 (cx w0) strings_Builder_WriteString.id [b,(.pv (.str ([32]++t55_1)))] σ' fun r_2 σ'_1=>opt (A3 B2 L7.td r 1) fun t58=>opt (A4 σ'_1 ti9 t58) fun t59=>isS t59 fun t59_1=>A1 (cx w0) Q7.id [(.pv (.str t59_1))] σ'_1 fun r_3 σ'_2=>isB r_3 fun t60=>B1 (!t60) (A1 (cx w0) strings_Builder_WriteString.id [b,(.pv (.str [10,92,32,78,111,32,110,101,119,108,105,110,101,32,97,116,32,101,110,100,32,111,102,32,102,105,108,101,10]))] σ'_2 fun r_4 σ'_3=>n48 Z w0 n R σ'_3 b m kind any t27 t28 t29) (n48 Z w0 n R σ'_2 b m kind any t27 t28 t29))))):=by kernel_rfl
theorem n36_in(h:b36 (X w0 n) w0 n R σ b m kind any i r t27 t28 t29 t46):n36 (X w0 n) w0 n R σ b m kind any i r t27 t28 t29 t46:=E0 (S:=A5) (by kernel_rfl) h
theorem b48_eq:b48 Z w0 n R σ b m kind any t27 t28 t29=(
 n22 Z w0 n R σ b m kind any t27 t28 (IntKind.wrap .i64 (t29+1))):=by kernel_rfl
theorem n48_in(h:b48 (X w0 n) w0 n R σ b m kind any t27 t28 t29):n48 (X w0 n) w0 n R σ b m kind any t27 t28 t29:=E0 (S:=A5) (by kernel_rfl) h
theorem b0_eq:b0 Z w0 n R σ b l_ m kind=(
 opt (R2 R7.td l_) fun t14=>isI .i64 t14 fun t14_1=>n6 Z w0 n R σ b l_ m kind false l_ t14_1 0):=by kernel_rfl
theorem calls(h:b0 (X w0 (List.length σ)) w0 (List.length σ) R σ b l_ m kind):A1 (cx w0) D4.id [b,l_,m,(.pv (.int .i64 kind))] σ R:=
 D3 (J9 w0) (x:=fe) (S:=A5) (D4.ok w0) (by kernel_rfl) h
end D4
namespace P5
def lvs:List (List Nat):=[[0],[0],[1],[1],[1],[1,4],[1,4],[1,4,10],[4],[4],[2,3],[1],[1],[1],[1,5],[1,5],[1,5],[1,5],[1,5],[1,5,15],[1,5],[1,5],[1,5],[1,5],[1,5,6],[1,5,6],[1,5,6],[1,5,6],[1,5,6],[1,5,6],[1,5,6],[1,5,6],[5],[5],[2,3]]
def lv:Nat→List Nat:=O9 lvs
noncomputable def code:Code:=F3 Tryz.f13
noncomputable def fe:FE:=⟨Tryz.f13,code,lv⟩
def A5:List Nat:=[22]
abbrev X(w0:B5)(n:Nat):XT:=xr (cx w0) 48 lv n
theorem ok(w0:B5):FOK (cx w0) P5.id fe:=⟨Tryz.func13,by kernel_rfl,by kernel_rfl⟩
section
variable (Z:XT)(w0:B5)(n:Nat)(R:RT)(σ:A2)(h_ b:AV)
def n22:Prop:=
 Z (cAt code 22) 22 [(1,h_),(5,b)] σ (B7 (cx w0) Tryz.f13 n R)
def b22:Prop:=
 A6 (cx w0) 48 lv n A5 Z (cAt code 22) 22 [(1,h_),(5,b)] σ (B7 (cx w0) Tryz.f13 n R)
def b0:Prop:=
 A6 (cx w0) 48 lv n A5 Z code 0 (J6 0 [h_]) σ (B7 (cx w0) Tryz.f13 n R)
end
variable {Z:XT}{w0:B5}{n:Nat}{R:RT}{σ τ:A2}{h_ b:AV}
theorem b22_eq:b22 Z w0 n R σ h_ b=(
 opt (A3 B2 E4.td h_ 5) fun t20=>opt (A4 σ R7 t20) fun t21=>A1 (cx w0) E1.id [t21] σ fun r σ'=>opt (A3 B2 E4.td h_ 0) fun t23=>opt (A4 σ' ti3 t23) fun t24=>isI .i64 t24 fun t24_1=>opt (A3 B2 E4.td h_ 1) fun t25=>opt (A4 σ' ti3 t25) fun t26=>isI .i64 t26 fun t26_1=>A1 (cx w0) S7.id [(.pv (.int .i64 t24_1)),(.pv (.int .i64 t26_1))] σ' fun r_1 σ'_1=>isS r_1 fun t27=>(List.length ([10,42,42,42,32]:List UInt8)+List.length (t27:List UInt8)≤9223372036854775807∧((List.length (([10,42,42,42,32]++t27):List UInt8)+List.length ([32,42,42,42,42,10]:List UInt8)≤9223372036854775807∧(A1 (cx w0) strings_Builder_WriteString.id [b,(.pv (.str (([10,42,42,42,32]++t27) ++ [32,42,42,42,42,10])))] σ'_1 fun r_2 σ'_2=>opt (A3 B2 E4.td h_ 5) fun t31=>opt (A4 σ'_2 R7 t31) fun t32=>A1 (cx w0) D4.id [b,t32,r,(.pv (.int .i64 2))] σ'_2 fun r_3 σ'_3=>opt (A3 B2 E4.td h_ 2) fun t35=>opt (A4 σ'_3 ti3 t35) fun t36=>isI .i64 t36 fun t36_1=>opt (A3 B2 E4.td h_ 3) fun t37=>opt (A4 σ'_3 ti3 t37) fun t38=>isI .i64 t38 fun t38_1=>A1 (cx w0) S7.id [(.pv (.int .i64 t36_1)),(.pv (.int .i64 t38_1))] σ'_3 fun r_4 σ'_4=>isS r_4 fun t39=>(List.length ([45,45,45,32]:List UInt8)+List.length (t39:List UInt8)≤9223372036854775807∧((List.length (([45,45,45,32]++t39):List UInt8)+List.length ([32,45,45,45,45,10]:List UInt8)≤9223372036854775807∧(A1 (cx w0) strings_Builder_WriteString.id [b,(.pv (.str (([45,45,45,32]++t39) ++ [32,45,45,45,45,10])))] σ'_4 fun r_5 σ'_5=>opt (A3 B2 E4.td h_ 5) fun t43=>opt (A4 σ'_5 R7 t43) fun t44=>A1 (cx w0) D4.id [b,t44,r,(.pv (.int .i64 3))] σ'_5 fun r_6 σ'_6=>A1 (cx w0) strings_Builder_String.id [b] σ'_6 fun r_7 σ'_7=>isS r_7 fun t47=>F2 (cx w0) n (.tup [(.pv (.str t47)),(.pv (.raw .nilIface))]) σ'_7 R))))))))):=by kernel_rfl
theorem n22_in(h:b22 (X w0 n) w0 n R σ h_ b):n22 (X w0 n) w0 n R σ h_ b:=E0 (S:=A5) (by kernel_rfl) h
theorem b0_eq:b0 Z w0 n R σ h_=(
 ((AV.cells h_).all AV.one=true∧(opt (A4 (σ ++ [.cells 39 (AV.cells h_)]) E4 (.ptr (List.length σ) 0)) fun t7=>A1 (cx w0) O7.id [t7] (σ ++ [.cells 39 (AV.cells h_)]) fun r σ'=>T0 B2 29 true .neq r (.pv (.raw .nilIface)) fun v=>isB v fun b=>B1 b (F2 (cx w0) n (.tup [(.pv (.str [])),r]) σ' R) (A1 (cx w0) strings_Builder_WriteString.id [(.ptr (List.length σ') 0),(.pv (.str [42,42,42,42,42,42,42,42,42,42,42,42,42,42,42]))] (σ' ++ [.bld 58 5 []]) fun r_1 σ'_1=>opt (A3 B2 E4.td (.ptr (List.length σ) 0) 4) fun t13=>opt (A4 σ'_1 ti9 t13) fun t14=>isS t14 fun t14_1=>B1 (!((t14_1:List UInt8) == [])) (opt (A3 B2 E4.td (.ptr (List.length σ) 0) 4) fun t16=>opt (A4 σ'_1 ti9 t16) fun t17=>isS t17 fun t17_1=>(List.length ([32]:List UInt8)+List.length (t17_1:List UInt8)≤9223372036854775807∧(A1 (cx w0) strings_Builder_WriteString.id [(.ptr (List.length σ') 0),(.pv (.str ([32]++t17_1)))] σ'_1 fun r_2 σ'_2=>n22 Z w0 n R σ'_2 (.ptr (List.length σ) 0) (.ptr (List.length σ') 0)))) (n22 Z w0 n R σ'_1 (.ptr (List.length σ) 0) (.ptr (List.length σ') 0)))))):=by kernel_rfl
theorem calls(h:b0 (X w0 (List.length σ)) w0 (List.length σ) R σ h_):A1 (cx w0) P5.id [h_] σ R:=
 D3 (J9 w0) (x:=fe) (S:=A5) (P5.ok w0) (by kernel_rfl) h
end P5
namespace L5
def lvs:List (List Nat):=[[0,1,2],[0,1,2],[2,3,4],[2,3,4],[2,8,9],[2,8,9],[2,8,9],[2,8,9,24],[9],[9],[6,7],[2,8],[2,8],[2,8],[2,10],[2,10],[2,10,11],[2,10,11],[2,11],[2,11],[2,11],[11,41,42,43],[11,41,42,43],[11,41,42,43],[11,41,42,43],[11,41,42,43,44],[11,41,42,43,44],[11,41,42,43],[11],[11,41,42,43],[11,41,42,43],[11,41,42,43],[11,41,42,43],[11,13,41,42,43],[11,13,41,42,43],[11,14,15,41,42,43],[11,14,15,41,42,43],[11,14,15,41,42,43],[11,14,15,41,42,43,53],[15],[15],[6,7],[11,14,41,42,43],[11,14,41,42,43],[11,41,42,43],[11],[11],[6,7]]
def lv:Nat→List Nat:=O9 lvs
noncomputable def code:Code:=F3 Tryz.f9
noncomputable def fe:FE:=⟨Tryz.f9,code,lv⟩
def A5:List Nat:=[23,45]
abbrev X(w0:B5)(n:Nat):XT:=xr (cx w0) 59 lv n
theorem ok(w0:B5):FOK (cx w0) L5.id fe:=⟨Tryz.func9,by kernel_rfl,by kernel_rfl⟩
section
variable (Z:XT)(w0:B5)(n:Nat)(R:RT)(σ:A2)(b t41:AV)(t42 t43:Int)(old fresh l_:AV)
def q19:QT:=D6 (fun env σ=>Z (cAt code 45) 45 (prune (lv 45) env) σ (B7 (cx w0) Tryz.f9 n R)) (B7 (cx w0) Tryz.f9 n R)
def q22:QT:=H7 0 (q19 Z w0 n R)
def q23:QT:=D6 (fun env σ=>Z (cAt code 22) 22 (prune (lv 22) env) σ (q22 Z w0 n R)) (q22 Z w0 n R)
def n22:Prop:=
 Z (cAt code 22) 22 [(11,b),(41,t41),(42,(.pv (.int .i64 t42))),(43,(.pv (.int .i64 t43)))] σ (q22 Z w0 n R)
def b23:Prop:=
 A6 (cx w0) 59 lv n A5 Z (cAt code 23) 23 [(11,b),(41,t41),(42,(.pv (.int .i64 t42))),(43,(.pv (.int .i64 t43)))] σ (q23 Z w0 n R)
def n45:Prop:=
 Z (cAt code 45) 45 [(11,b)] σ (B7 (cx w0) Tryz.f9 n R)
def b45:Prop:=
 A6 (cx w0) 59 lv n A5 Z (cAt code 45) 45 [(11,b)] σ (B7 (cx w0) Tryz.f9 n R)
def b0:Prop:=
 A6 (cx w0) 59 lv n A5 Z code 0 (J6 0 [old,fresh,l_]) σ (B7 (cx w0) Tryz.f9 n R)
end
variable {Z:XT}{w0:B5}{n:Nat}{R:RT}{σ τ:A2}{b t41 old fresh l_ b' t41':AV}{t42 t43 t42' t43':Int}
theorem n22_in(h:b23 (X w0 n) w0 n R σ b t41 t42 t43):n22 (X w0 n) w0 n R σ b t41 t42 t43:=I5 (J9 w0) (S:=A5) (by kernel_rfl:cAt code 22 = .loop (cAt code 23)) h
theorem n22_weak(e:M5 (cx w0) n [(11,b),(41,t41),(42,(.pv (.int .i64 t42))),(43,(.pv (.int .i64 t43)))] σ [(11,b'),(41,t41'),(42,(.pv (.int .i64 t42'))),(43,(.pv (.int .i64 t43')))] τ)(h:n22 (X w0 n) w0 n R τ b' t41' t42' t43'):n22 (X w0 n) w0 n R σ b t41 t42 t43:=T5 (L:=lv) (k:=22) (by kernel_rfl:cAt code 22 = .loop (cAt code 23)) e h
theorem b23_eq:b23 Z w0 n R σ b t41 t42 t43=(
 B1 (decide ((t43:Int)<t42)) (opt (B9 σ B2 ax.td t41 t43) fun t45=>opt (A4 σ E4 t45) fun t46=>opt (C3 (σ ++ [.cells 39 (AV.ofValue E4.zero).cells]) E4 (.ptr (List.length σ) 0) t46) fun σ'=>opt (A4 σ' E4 (.ptr (List.length σ) 0)) fun t48=>A1 (cx w0) P5.id [t48] σ' fun r σ'_1=>isTup r fun vs=>opt ((vs)[0]?) fun t50=>isS t50 fun t50_1=>isTup r fun vs_1=>opt ((vs_1)[1]?) fun t51=>T0 B2 29 true .neq t51 (.pv (.raw .nilIface)) fun v=>isB v fun b_1=>B1 b_1 (F2 (cx w0) n (.tup [(.pv (.str [])),t51]) σ'_1 R) (A1 (cx w0) strings_Builder_WriteString.id [b,(.pv (.str t50_1))] σ'_1 fun r_1 σ'_2=>n22 Z w0 n R σ'_2 b t41 t42 (IntKind.wrap .i64 (t43+1)))) (n45 Z w0 n R σ b)):=by kernel_rfl
theorem b45_eq:b45 Z w0 n R σ b=(
 A1 (cx w0) strings_Builder_String.id [b] σ fun r σ'=>isS r fun t58=>F2 (cx w0) n (.tup [(.pv (.str t58)),(.pv (.raw .nilIface))]) σ' R):=by kernel_rfl
theorem n45_in(h:b45 (X w0 n) w0 n R σ b):n45 (X w0 n) w0 n R σ b:=E0 (S:=A5) (by kernel_rfl) h
theorem b0_eq:b0 Z w0 n R σ old fresh l_=(
 ((AV.cells old).all AV.one=true∧(((AV.cells fresh).all AV.one=true∧(opt (A4 ((σ ++ [.cells 23 (AV.cells old)]) ++ [.cells 23 (AV.cells fresh)]) D5 (.ptr (List.length σ) 0)) fun t17=>opt (A4 ((σ ++ [.cells 23 (AV.cells old)]) ++ [.cells 23 (AV.cells fresh)]) D5 (.ptr (List.length (σ ++ [.cells 23 (AV.cells old)])) 0)) fun t18=>A1 (cx w0) C2.id [t17,t18,l_] ((σ ++ [.cells 23 (AV.cells old)]) ++ [.cells 23 (AV.cells fresh)]) fun r σ'=>isTup r fun vs=>opt ((vs)[0]?) fun t21=>isS t21 fun t21_1=>isTup r fun vs_1=>opt ((vs_1)[1]?) fun t22=>T0 B2 29 true .neq t22 (.pv (.raw .nilIface)) fun v=>isB v fun b=>B1 b (F2 (cx w0) n (.tup [(.pv (.str [])),t22]) σ' R) (A1 (cx w0) F4.id [(.pv (.str t21_1))] σ' fun r_1 σ'_1=>opt (K5 σ'_1 B2 X7.td r_1 none (some (.pv (.int .i64 2)))) fun t28=>opt (B9 (σ'_1 ++ [.bld 58 5 []]) B2 X7.td t28 0) fun t30=>opt (A4 (σ'_1 ++ [.bld 58 5 []]) ti9 t30) fun t31=>isS t31 fun t31_1=>opt (K5 (σ'_1 ++ [.bld 58 5 []]) B2 ti9.td (.pv (.str t31_1)) (some (.pv (.int .i64 4))) none) fun t32=>isS t32 fun t32_1=>(List.length ([42,42,42,32]:List UInt8)+List.length (t32_1:List UInt8)≤9223372036854775807∧((List.length (([42,42,42,32]++t32_1):List UInt8)+List.length ([45,45,45,32]:List UInt8)≤9223372036854775807∧(opt (B9 (σ'_1 ++ [.bld 58 5 []]) B2 X7.td t28 1) fun t36=>opt (A4 (σ'_1 ++ [.bld 58 5 []]) ti9 t36) fun t37=>isS t37 fun t37_1=>opt (K5 (σ'_1 ++ [.bld 58 5 []]) B2 ti9.td (.pv (.str t37_1)) (some (.pv (.int .i64 4))) none) fun t38=>isS t38 fun t38_1=>(List.length ((([42,42,42,32]++t32_1) ++ [45,45,45,32]):List UInt8)+List.length (t38_1:List UInt8)≤9223372036854775807∧(A1 (cx w0) strings_Builder_WriteString.id [(.ptr (List.length σ'_1) 0),(.pv (.str ((([42,42,42,32]++t32_1) ++ [45,45,45,32])++t38_1)))] (σ'_1 ++ [.bld 58 5 []]) fun r_2 σ'_2=>opt (R2 ax.td l_) fun t42=>isI .i64 t42 fun t42_1=>n22 Z w0 n R σ'_2 (.ptr (List.length σ'_1) 0) l_ t42_1 0)))))))))))):=by kernel_rfl
theorem calls(h:b0 (X w0 (List.length σ)) w0 (List.length σ) R σ old fresh l_):A1 (cx w0) L5.id [old,fresh,l_] σ R:=
 D3 (J9 w0) (x:=fe) (S:=A5) (L5.ok w0) (by kernel_rfl) h
end L5
end Go.Sv
