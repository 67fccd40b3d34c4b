/- What the code of Go functions comes to over abstract stores, piece by piece; each equation by the kernel. Printed by a program of this session. -/
import Derived.Test.YtgdnoobpnhmpjaaGreatDoorSvT
import Derived.KernelRfl
set_option linter.unusedVariables false
set_option maxRecDepth 100000
namespace Go.Sv
attribute [local irreducible] A5 V7 xr
open Go Go.Proofs
namespace D3
def lvs:List (List Nat):=[[0,1],[0,1],[0,1,4],[0,1,4],[0,1,4,6],[0,1,4,6],[0,1,4,6],[0,1,4,6,40],[4,6],[4,6],[4,5],[0,1,4,6],[0,1,4,6],[0,1,4,6],[0,4,6,7,8,9],[0,4,6,7,8,9],[0,4,6,7,8,9],[0,4,6,7,8,72],[4,6],[4,6],[4,5],[0,4,7,8],[0,4,7,8],[0,4,7,8],[4,7,8],[4,7,8],[4,5]]
def lv:Nat→List Nat:=J8 lvs
noncomputable def code:Code:=F0 Tryz.f94
noncomputable def fe:FE:=⟨Tryz.f94,code,lv⟩
def A7:List Nat:=[7,17]
abbrev X(w0:B4)(n:Nat):XT:=xr (cx w0) 86 lv n
theorem ok(w0:B4):FOK (cx w0) D3.id fe:=⟨Tryz.func94,by kernel_rfl,by kernel_rfl⟩
section
variable (Z:XT)(w0:B4)(n:Nat)(R:RT)(σ:A1)(r:AV)(mark_:List UInt8)(t4 bad:AV)(t40:Bool)(path H8:List UInt8)(t72:Bool)
def q5:QT:=F2 (fun env σ=>A5 (cx w0) 86 lv n A7 Z (cAt code 12) 12 (prune (lv 12) env) σ (B9 (cx w0) Tryz.f94 n R)) (B9 (cx w0) Tryz.f94 n R)
def q15:QT:=F2 (fun env σ=>A5 (cx w0) 86 lv n A7 Z (cAt code 22) 22 (prune (lv 22) env) σ (B9 (cx w0) Tryz.f94 n R)) (B9 (cx w0) Tryz.f94 n R)
def n7:Prop:=
 Z (cAt code 7) 7 [(0,r),(1,(.pv (.str mark_))),(4,t4),(6,bad),(40,(.pv (.bool t40)))] σ (q5 Z w0 n R)
def b7:Prop:=
 A5 (cx w0) 86 lv n A7 Z (cAt code 7) 7 [(0,r),(1,(.pv (.str mark_))),(4,t4),(6,bad),(40,(.pv (.bool t40)))] σ (q5 Z w0 n R)
def n17:Prop:=
 Z (cAt code 17) 17 [(0,r),(4,t4),(6,bad),(7,(.pv (.str path))),(8,(.pv (.str H8))),(72,(.pv (.bool t72)))] σ (q15 Z w0 n R)
def b17:Prop:=
 A5 (cx w0) 86 lv n A7 Z (cAt code 17) 17 [(0,r),(4,t4),(6,bad),(7,(.pv (.str path))),(8,(.pv (.str H8))),(72,(.pv (.bool t72)))] σ (q15 Z w0 n R)
def b0:Prop:=
 A5 (cx w0) 86 lv n A7 Z code 0 (H3 0 [r,(.pv (.str mark_))]) σ (B9 (cx w0) Tryz.f94 n R)
end
variable {Z:XT}{w0:B4}{n:Nat}{R:RT}{σ τ:A1}{r t4 bad:AV}{mark_ path H8:List UInt8}{t40 t72:Bool}
theorem b7_eq:b7 Z w0 n R σ r mark_ t4 bad t40=(
 B1 t40 (opt (N3 B3 F1 []) fun t41=>opt (C2 σ F1 t4 t41) fun σ'=>opt (A6 σ' F1 t4) fun v=>D9 (cx w0) n (.tup [v,bad]) σ' R) (opt (B2 r) fun t45=>opt (A3 B3 T0.td t45 0) fun t46=>opt (A6 σ J7 t46) fun t47=>opt (B2 r) fun t49=>opt (A3 B3 T0.td t49 1) fun t50=>opt (A6 σ ti3 t50) fun t51=>isI .i64 t51 fun t51_1=>opt (D1 σ B3 J7.td t47 t51_1) fun t52=>opt (A6 σ ti9 t52) fun t53=>isS t53 fun t53_1=>A2 (cx w0) L6.id [(.pv (.str t53_1))] σ fun r_1 σ'=>isS r_1 fun t54=>opt (G7 σ' B3 ti9.td (.pv (.str t54)) (some (.pv (.int .i64 (List.length (mark_:List UInt8):Int)))) none) fun t57=>isS t57 fun t57_1=>A2 (cx w0) G3.id [(.pv (.str t57_1))] σ' fun r_2 σ'_1=>isTup r_2 fun vs=>opt ((vs)[0]?) fun t59=>isS t59 fun t59_1=>isTup r_2 fun vs_1=>opt ((vs_1)[1]?) fun t60=>isS t60 fun t60_1=>isTup r_2 fun vs_2=>opt ((vs_2)[2]?) fun t61=>Q9 B3 24 true .neq t61 (.pv (.raw .nilIface)) fun v=>isB v fun b=>B1 b (n17 Z w0 n R σ'_1 r t4 bad t59_1 t60_1 true) (B1 (!((t60_1:List UInt8) == [])) (opt (L7 B3 ti9.td (.pv (.str t60_1)) 0) fun t69=>isI .u8 t69 fun t69_1=>n17 Z w0 n R σ'_1 r t4 bad t59_1 t60_1 ((t69_1:Int) != 9)) (n17 Z w0 n R σ'_1 r t4 bad t59_1 t60_1 false)))):=by kernel_rfl
theorem n7_in(h:b7 (X w0 n) w0 n R σ r mark_ t4 bad t40):n7 (X w0 n) w0 n R σ r mark_ t4 bad t40:=E1 (S:=A7) (by kernel_rfl) @h
theorem b17_eq:b17 Z w0 n R σ r t4 bad path H8 t72=(
 B1 t72 (opt (N3 B3 F1 []) fun t73=>opt (C2 σ F1 t4 t73) fun σ'=>opt (A6 σ' F1 t4) fun v=>D9 (cx w0) n (.tup [v,bad]) σ' R) (opt (B2 r) fun t76=>opt (A3 B3 T0.td t76 1) fun t77=>opt (A6 σ ti3 t77) fun t78=>isI .i64 t78 fun t78_1=>opt (B2 r) fun t80=>opt (A3 B3 T0.td t80 1) fun t81=>opt (C2 σ ti3 t81 (.pv (.int .i64 (IntKind.wrap .i64 (t78_1+1))))) fun σ'=>A2 (cx w0) strings_TrimPrefix.id [(.pv (.str H8)),(.pv (.str [9]))] σ' fun r_1 σ'_1=>isS r_1 fun t84=>opt (N3 B3 F1 [(0,(.pv (.str path))),(1,(.pv (.str t84)))]) fun t85=>opt (C2 σ'_1 F1 t4 t85) fun σ'_2=>opt (A6 σ'_2 F1 t4) fun v=>D9 (cx w0) n (.tup [v,(.pv (.raw (.pointer none)))]) σ'_2 R)):=by kernel_rfl
theorem n17_in(h:b17 (X w0 n) w0 n R σ r t4 bad path H8 t72):n17 (X w0 n) w0 n R σ r t4 bad path H8 t72:=E1 (S:=A7) (by kernel_rfl) @h
theorem b0_eq:b0 Z w0 n R σ r mark_=(
 opt (B2 r) fun t11=>opt (A3 B3 T0.td t11 1) fun t12=>opt (A6 (σ ++ [.cells 28 (AV.ofValue F1.zero).cells]) ti3 t12) fun t13=>isI .i64 t13 fun t13_1=>opt (N3 B3 rg [(0,(.pv (.int .i64 110))),(1,(.pv (.int .i64 t13_1)))]) fun t14=>((AV.cells t14).all AV.one=true∧(opt (B2 r) fun t17=>opt (A3 B3 T0.td t17 1) fun t18=>opt (A6 ((σ ++ [.cells 28 (AV.ofValue F1.zero).cells]) ++ [.cells 113 (AV.cells t14)]) ti3 t18) fun t19=>isI .i64 t19 fun t19_1=>opt (B2 r) fun t21=>opt (A3 B3 T0.td t21 0) fun t22=>opt (A6 ((σ ++ [.cells 28 (AV.ofValue F1.zero).cells]) ++ [.cells 113 (AV.cells t14)]) J7 t22) fun t23=>opt (R5 J7.td t23) fun t24=>isI .i64 t24 fun t24_1=>B1 (decide ((t19_1:Int)≥t24_1)) (n7 Z w0 n R ((σ ++ [.cells 28 (AV.ofValue F1.zero).cells]) ++ [.cells 113 (AV.cells t14)]) r mark_ (.ptr (List.length σ) 0) (.ptr (List.length (σ ++ [.cells 28 (AV.ofValue F1.zero).cells])) 0) true) (opt (B2 r) fun t28=>opt (A3 B3 T0.td t28 0) fun t29=>opt (A6 ((σ ++ [.cells 28 (AV.ofValue F1.zero).cells]) ++ [.cells 113 (AV.cells t14)]) J7 t29) fun t30=>opt (B2 r) fun t32=>opt (A3 B3 T0.td t32 1) fun t33=>opt (A6 ((σ ++ [.cells 28 (AV.ofValue F1.zero).cells]) ++ [.cells 113 (AV.cells t14)]) ti3 t33) fun t34=>isI .i64 t34 fun t34_1=>opt (D1 ((σ ++ [.cells 28 (AV.ofValue F1.zero).cells]) ++ [.cells 113 (AV.cells t14)]) B3 J7.td t30 t34_1) fun t35=>opt (A6 ((σ ++ [.cells 28 (AV.ofValue F1.zero).cells]) ++ [.cells 113 (AV.cells t14)]) ti9 t35) fun t36=>isS t36 fun t36_1=>A2 (cx w0) strings_HasPrefix.id [(.pv (.str t36_1)),(.pv (.str mark_))] ((σ ++ [.cells 28 (AV.ofValue F1.zero).cells]) ++ [.cells 113 (AV.cells t14)]) fun r_1 σ'=>isB r_1 fun t38=>n7 Z w0 n R σ' r mark_ (.ptr (List.length σ) 0) (.ptr (List.length (σ ++ [.cells 28 (AV.ofValue F1.zero).cells])) 0) (!t38))))):=by kernel_rfl
theorem calls(h:b0 (X w0 (List.length σ)) w0 (List.length σ) R σ r mark_):A2 (cx w0) D3.id [r,(.pv (.str mark_))] σ R:=
 D0 (I4 w0) (x:=fe) (S:=A7) (D3.ok w0) (by kernel_rfl) @h
attribute [irreducible] n7 b7 n17 b17 b0
end D3
namespace A9
def lvs:List (List Nat):=[[0,1],[0,1],[0,1],[0,1],[0,1,5,6],[0,1,5,6],[0,1,5,6,7],[0,1,5,6,7],[0,1,5,6,7],[0,1,5,6,7],[0,1,5,6,7],[0,1,5,6,7,8],[0,1,5,6,7,8],[0,1,5,6,7,8],[0,1,5,6,7,8,41],[0,1,5,6,7,8],[0,1,5,6,7,8],[0,1,5,6,7,8],[0,1,5,6,8,43],[8],[8],[4],[0,1,5,6],[0,1,5,6],[0,1,5,6],[0,1,5,6,9],[0,1,5,6,9],[0,1,5,6],[0,1,5,6],[0,1,5,6,7],[0,1,5,6,7],[0,1,5,6,7],[0,1,5,6,8],[0,1,5,6,8],[0,1,5,6,8],[0,1,5,6,8],[0,1,5,6,8,84],[],[],[4],[0,1,5,6,8],[0,1,5,6,8],[0,1,5,6,8],[0,1,5,6,8],[0,1,5,6,8,94],[8],[8],[4],[0,1,5,6,8],[0,1,5,6,8],[0,1,5,6,8],[0,1,5,6,8,10],[0,1,5,6,8,10],[0,1,5,6,8,10,11],[0,1,5,6,8,10,11],[0,1,5,6,8,10,11],[0,1,5,6,8,11,110],[0,1,5,6,8,11,110],[0,1,5,6,8,11,110],[0,1,5,6,8,11,110,112],[0,1,5,6,8,11],[0,1,5,6,8,11,110],[0,1,5,6,8,11,110],[0,1,5,6,8,11,110,115],[0,1,5,6,8,11],[0,1,5,6,8,11,110],[0,1,5,6,8,11,110],[0,1,5,6,8,11,110,118],[0,1,5,6,8,11],[0,1,5,6,8,11,110],[0,1,5,6,8,11,110],[0,1,5,6,8,11,121],[0,1,5,6,8,11],[8],[8],[4],[0,1,5,6,8,11],[0,1,5,6,8,11],[0,1,5,6,8,11],[0,1,5,6,8,11,126],[0,1,5,6,8,11],[0,1,5,6,8,11],[0,1,5,6,8,11],[0,1,5,6,8,11],[0,1,5,6,8,11],[0,1,5,6,8,11,131],[0,1,5,6,8,11],[0,1,5,6,8,11],[0,1,5,6,8,11],[0,1,5,6,8,11],[0,1,5,6,8,11],[0,1,5,6,8,11,147],[8],[8],[4],[0,1,5,6,11],[0,1,5,6,11],[0,1,5,6,11],[0,1,5,6],[0,1,5,6],[0,1,5,6,7]]
def lv:Nat→List Nat:=J8 lvs
noncomputable def code:Code:=F0 Tryz.f135
noncomputable def fe:FE:=⟨Tryz.f135,code,lv⟩
def A7:List Nat:=[8,14,36,76,82,88,91]
abbrev X(w0:B4)(n:Nat):XT:=xr (cx w0) 166 lv n
theorem ok(w0:B4):FOK (cx w0) A9.id fe:=⟨Tryz.func135,by kernel_rfl,by kernel_rfl⟩
section
variable (Z:XT)(w0:B4)(n:Nat)(R:RT)(σ:A1)(r h_:AV)(n_ m:Int)(fresh:Bool)(bad:AV)(t41 t84:Bool)(row:AV)(t147:Bool)
def q7(X:XT)(w0:B4)(n:Nat)(R:RT):QT:=I3 0 (B9 (cx w0) Tryz.f135 n R)
def q8:QT:=F2 (fun env σ=>Z (cAt code 7) 7 (prune (lv 7) env) σ (q7 Z w0 n R)) (q7 Z w0 n R)
def q9:QT:=I3 1 (q8 Z w0 n R)
def q12:QT:=F2 (fun env σ=>A5 (cx w0) 166 lv n A7 Z (cAt code 33) 33 (prune (lv 33) env) σ (q9 Z w0 n R)) (q9 Z w0 n R)
def q34:QT:=F2 (fun env σ=>A5 (cx w0) 166 lv n A7 Z (cAt code 41) 41 (prune (lv 41) env) σ (q9 Z w0 n R)) (q9 Z w0 n R)
def q89:QT:=F2 (fun env σ=>A5 (cx w0) 166 lv n A7 Z (cAt code 96) 96 (prune (lv 96) env) σ (q9 Z w0 n R)) (q9 Z w0 n R)
def n7:Prop:=
 Z (cAt code 7) 7 [(0,r),(1,h_),(5,(.pv (.int .i64 n_))),(6,(.pv (.int .i64 m))),(7,(.pv (.bool fresh)))] σ (q7 Z w0 n R)
def b8:Prop:=
 A5 (cx w0) 166 lv n A7 Z (cAt code 8) 8 [(0,r),(1,h_),(5,(.pv (.int .i64 n_))),(6,(.pv (.int .i64 m))),(7,(.pv (.bool fresh)))] σ (q8 Z w0 n R)
def n14:Prop:=
 Z (cAt code 14) 14 [(0,r),(1,h_),(5,(.pv (.int .i64 n_))),(6,(.pv (.int .i64 m))),(7,(.pv (.bool fresh))),(8,bad),(41,(.pv (.bool t41)))] σ (q12 Z w0 n R)
def b14:Prop:=
 A5 (cx w0) 166 lv n A7 Z (cAt code 14) 14 [(0,r),(1,h_),(5,(.pv (.int .i64 n_))),(6,(.pv (.int .i64 m))),(7,(.pv (.bool fresh))),(8,bad),(41,(.pv (.bool t41)))] σ (q12 Z w0 n R)
def n36:Prop:=
 Z (cAt code 36) 36 [(0,r),(1,h_),(5,(.pv (.int .i64 n_))),(6,(.pv (.int .i64 m))),(8,bad),(84,(.pv (.bool t84)))] σ (q34 Z w0 n R)
def b36:Prop:=
 A5 (cx w0) 166 lv n A7 Z (cAt code 36) 36 [(0,r),(1,h_),(5,(.pv (.int .i64 n_))),(6,(.pv (.int .i64 m))),(8,bad),(84,(.pv (.bool t84)))] σ (q34 Z w0 n R)
def n76:Prop:=
 Z (cAt code 76) 76 [(0,r),(1,h_),(5,(.pv (.int .i64 n_))),(6,(.pv (.int .i64 m))),(8,bad),(11,row)] σ (q9 Z w0 n R)
def b76:Prop:=
 A5 (cx w0) 166 lv n A7 Z (cAt code 76) 76 [(0,r),(1,h_),(5,(.pv (.int .i64 n_))),(6,(.pv (.int .i64 m))),(8,bad),(11,row)] σ (q9 Z w0 n R)
def n82:Prop:=
 Z (cAt code 82) 82 [(0,r),(1,h_),(5,(.pv (.int .i64 n_))),(6,(.pv (.int .i64 m))),(8,bad),(11,row)] σ (q9 Z w0 n R)
def b82:Prop:=
 A5 (cx w0) 166 lv n A7 Z (cAt code 82) 82 [(0,r),(1,h_),(5,(.pv (.int .i64 n_))),(6,(.pv (.int .i64 m))),(8,bad),(11,row)] σ (q9 Z w0 n R)
def n88:Prop:=
 Z (cAt code 88) 88 [(0,r),(1,h_),(5,(.pv (.int .i64 n_))),(6,(.pv (.int .i64 m))),(8,bad),(11,row)] σ (q9 Z w0 n R)
def b88:Prop:=
 A5 (cx w0) 166 lv n A7 Z (cAt code 88) 88 [(0,r),(1,h_),(5,(.pv (.int .i64 n_))),(6,(.pv (.int .i64 m))),(8,bad),(11,row)] σ (q9 Z w0 n R)
def n91:Prop:=
 Z (cAt code 91) 91 [(0,r),(1,h_),(5,(.pv (.int .i64 n_))),(6,(.pv (.int .i64 m))),(8,bad),(11,row),(147,(.pv (.bool t147)))] σ (q89 Z w0 n R)
def b91:Prop:=
 A5 (cx w0) 166 lv n A7 Z (cAt code 91) 91 [(0,r),(1,h_),(5,(.pv (.int .i64 n_))),(6,(.pv (.int .i64 m))),(8,bad),(11,row),(147,(.pv (.bool t147)))] σ (q89 Z w0 n R)
def b0:Prop:=
 A5 (cx w0) 166 lv n A7 Z code 0 (H3 0 [r,h_]) σ (B9 (cx w0) Tryz.f135 n R)
end
variable {Z:XT}{w0:B4}{n:Nat}{R:RT}{σ τ:A1}{r h_ bad row r' h_':AV}{n_ m n_' m':Int}{fresh t41 t84 t147 fresh':Bool}
theorem n7_in(h:b8 (X w0 n) w0 n R σ r h_ n_ m fresh):n7 (X w0 n) w0 n R σ r h_ n_ m fresh:=J9 (I4 w0) (S:=A7) (by kernel_rfl:cAt code 7 = .loop (cAt code 8)) @h
theorem n7_weak(e:N2 (cx w0) n [(0,r),(1,h_),(5,(.pv (.int .i64 n_))),(6,(.pv (.int .i64 m))),(7,(.pv (.bool fresh)))] σ [(0,r'),(1,h_'),(5,(.pv (.int .i64 n_'))),(6,(.pv (.int .i64 m'))),(7,(.pv (.bool fresh')))] τ)(h:n7 (X w0 n) w0 n R τ r' h_' n_' m' fresh'):n7 (X w0 n) w0 n R σ r h_ n_ m fresh:=U3 (L:=lv) (k:=7) (by kernel_rfl:cAt code 7 = .loop (cAt code 8)) @e @h
theorem b8_eq:b8 Z w0 n R σ r h_ n_ m fresh=(
 opt (B2 r) fun t13=>opt (A3 B3 T0.td t13 1) fun t14=>opt (A6 σ ti3 t14) fun t15=>isI .i64 t15 fun t15_1=>opt (N3 B3 rg [(0,(.pv (.int .i64 111))),(1,(.pv (.int .i64 t15_1)))]) fun t16=>((AV.cells t16).all AV.one=true∧(opt (B2 r) fun t19=>opt (A3 B3 T0.td t19 1) fun t20=>opt (A6 (σ ++ [.cells 113 (AV.cells t16)]) ti3 t20) fun t21=>isI .i64 t21 fun t21_1=>opt (B2 r) fun t23=>opt (A3 B3 T0.td t23 0) fun t24=>opt (A6 (σ ++ [.cells 113 (AV.cells t16)]) J7 t24) fun t25=>opt (R5 J7.td t25) fun t26=>isI .i64 t26 fun t26_1=>B1 (decide ((t21_1:Int)<t26_1)) (opt (B2 r) fun t30=>opt (A3 B3 T0.td t30 0) fun t31=>opt (A6 (σ ++ [.cells 113 (AV.cells t16)]) J7 t31) fun t32=>opt (B2 r) fun t34=>opt (A3 B3 T0.td t34 1) fun t35=>opt (A6 (σ ++ [.cells 113 (AV.cells t16)]) ti3 t35) fun t36=>isI .i64 t36 fun t36_1=>opt (D1 (σ ++ [.cells 113 (AV.cells t16)]) B3 J7.td t32 t36_1) fun t37=>opt (A6 (σ ++ [.cells 113 (AV.cells t16)]) ti9 t37) fun t38=>isS t38 fun t38_1=>opt (L7 B3 ti9.td (.pv (.str t38_1)) 0) fun t39=>isI .u8 t39 fun t39_1=>n14 Z w0 n R (σ ++ [.cells 113 (AV.cells t16)]) r h_ n_ m fresh (.ptr (List.length σ) 0) ((t39_1:Int)==92)) (n14 Z w0 n R (σ ++ [.cells 113 (AV.cells t16)]) r h_ n_ m fresh (.ptr (List.length σ) 0) false)))):=by kernel_rfl
theorem b14_eq:b14 Z w0 n R σ r h_ n_ m fresh bad t41=(
 B1 t41 (B1 (!fresh) (D9 (cx w0) n bad σ R) (opt (B2 h_) fun t46=>opt (A3 B3 G1.td t46 5) fun t47=>opt (A6 σ lp t47) fun t48=>opt (B2 h_) fun t50=>opt (A3 B3 G1.td t50 5) fun t51=>opt (A6 σ lp t51) fun t52=>opt (R5 lp.td t52) fun t53=>isI .i64 t53 fun t53_1=>opt (D1 σ B3 lp.td t48 (IntKind.wrap .i64 (t53_1-1))) fun t55=>opt (B2 t55) fun t58=>opt (A3 B3 T8.td t58 1) fun t59=>opt (A6 σ ti9 t59) fun t60=>isS t60 fun t60_1=>A2 (cx w0) L6.id [(.pv (.str t60_1))] σ fun r_1 σ'=>isS r_1 fun t61=>opt (B2 t55) fun t62=>opt (A3 B3 T8.td t62 1) fun t63=>opt (C2 σ' ti9 t63 (.pv (.str t61))) fun σ'_1=>opt (B2 r) fun t65=>opt (A3 B3 T0.td t65 1) fun t66=>opt (A6 σ'_1 ti3 t66) fun t67=>isI .i64 t67 fun t67_1=>opt (B2 r) fun t69=>opt (A3 B3 T0.td t69 1) fun t70=>opt (C2 σ'_1 ti3 t70 (.pv (.int .i64 (IntKind.wrap .i64 (t67_1+1))))) fun σ'_2=>n7 Z w0 n R σ'_2 r h_ n_ m false)) (opt (B2 h_) fun t73=>opt (A3 B3 G1.td t73 1) fun t74=>opt (A6 σ ti3 t74) fun t75=>isI .i64 t75 fun t75_1=>B1 ((n_:Int)==t75_1) (opt (B2 h_) fun t80=>opt (A3 B3 G1.td t80 3) fun t81=>opt (A6 σ ti3 t81) fun t82=>isI .i64 t82 fun t82_1=>n36 Z w0 n R σ r h_ n_ m bad ((m:Int)==t82_1)) (n36 Z w0 n R σ r h_ n_ m bad false))):=by kernel_rfl
theorem n14_in(h:b14 (X w0 n) w0 n R σ r h_ n_ m fresh bad t41):n14 (X w0 n) w0 n R σ r h_ n_ m fresh bad t41:=E1 (S:=A7) (by kernel_rfl) @h
theorem b36_eq:b36 Z w0 n R σ r h_ n_ m bad t84=(
 B1 t84 (D9 (cx w0) n (.pv (.raw (.pointer none))) σ R) (opt (B2 r) fun t86=>opt (A3 B3 T0.td t86 1) fun t87=>opt (A6 σ ti3 t87) fun t88=>isI .i64 t88 fun t88_1=>opt (B2 r) fun t90=>opt (A3 B3 T0.td t90 0) fun t91=>opt (A6 σ J7 t91) fun t92=>opt (R5 J7.td t92) fun t93=>isI .i64 t93 fun t93_1=>B1 (decide ((t88_1:Int)≥t93_1)) (D9 (cx w0) n bad σ R) (opt (B2 r) fun t97=>opt (A3 B3 T0.td t97 0) fun t98=>opt (A6 σ J7 t98) fun t99=>opt (B2 r) fun t101=>opt (A3 B3 T0.td t101 1) fun t102=>opt (A6 σ ti3 t102) fun t103=>isI .i64 t103 fun t103_1=>opt (D1 σ B3 J7.td t99 t103_1) fun t104=>opt (A6 σ ti9 t104) fun t105=>isS t105 fun t105_1=>opt (G7 σ B3 ti9.td (.pv (.str t105_1)) (some (.pv (.int .i64 1))) none) fun t107=>isS t107 fun t107_1=>opt (N3 B3 T8 [(1,(.pv (.str t107_1)))]) fun t108=>opt (C2 (σ ++ [.cells 79 (AV.ofValue T8.zero).cells]) T8 (.ptr (List.length σ) 0) t108) fun σ'=>opt (L7 B3 ti9.td (.pv (.str t105_1)) 0) fun t110=>isI .u8 t110 fun t110_1=>B1 ((t110_1:Int)==32) (opt (A3 B3 T8.td (.ptr (List.length σ) 0) 0) fun t114=>opt (C2 σ' ti3 t114 (.pv (.int .i64 1))) fun σ'_1=>n76 Z w0 n R σ'_1 r h_ n_ m bad (.ptr (List.length σ) 0)) (B1 ((t110_1:Int)==10) (opt (N3 B3 T8 [(0,(.pv (.int .i64 1))),(1,(.pv (.str [10])))]) fun t117=>opt (C2 σ' T8 (.ptr (List.length σ) 0) t117) fun σ'_1=>n76 Z w0 n R σ'_1 r h_ n_ m bad (.ptr (List.length σ) 0)) (B1 ((t110_1:Int)==45) (opt (A3 B3 T8.td (.ptr (List.length σ) 0) 0) fun t120=>opt (C2 σ' ti3 t120 (.pv (.int .i64 2))) fun σ'_1=>n76 Z w0 n R σ'_1 r h_ n_ m bad (.ptr (List.length σ) 0)) (B1 ((t110_1:Int)==43) (opt (A3 B3 T8.td (.ptr (List.length σ) 0) 0) fun t123=>opt (C2 σ' ti3 t123 (.pv (.int .i64 3))) fun σ'_1=>n76 Z w0 n R σ'_1 r h_ n_ m bad (.ptr (List.length σ) 0)) (D9 (cx w0) n bad σ' R))))))):=by kernel_rfl
theorem n36_in(h:b36 (X w0 n) w0 n R σ r h_ n_ m bad t84):n36 (X w0 n) w0 n R σ r h_ n_ m bad t84:=E1 (S:=A7) (by kernel_rfl) @h
theorem b76_eq:b76 Z w0 n R σ r h_ n_ m bad row=(
 opt (A3 B3 T8.td row 0) fun t124=>opt (A6 σ ti3 t124) fun t125=>isI .i64 t125 fun t125_1=>B1 ((t125_1:Int) != 3) (n82 Z w0 n R σ r h_ (IntKind.wrap .i64 (n_+1)) m bad row) (n82 Z w0 n R σ r h_ n_ m bad row)):=by kernel_rfl
theorem n76_in(h:b76 (X w0 n) w0 n R σ r h_ n_ m bad row):n76 (X w0 n) w0 n R σ r h_ n_ m bad row:=E1 (S:=A7) (by kernel_rfl) @h
theorem b82_eq:b82 Z w0 n R σ r h_ n_ m bad row=(
 opt (A3 B3 T8.td row 0) fun t129=>opt (A6 σ ti3 t129) fun t130=>isI .i64 t130 fun t130_1=>B1 ((t130_1:Int) != 2) (n88 Z w0 n R σ r h_ n_ (IntKind.wrap .i64 (m+1)) bad row) (n88 Z w0 n R σ r h_ n_ m bad row)):=by kernel_rfl
theorem n82_in(h:b82 (X w0 n) w0 n R σ r h_ n_ m bad row):n82 (X w0 n) w0 n R σ r h_ n_ m bad row:=E1 (S:=A7) (by kernel_rfl) @h
theorem b88_eq:b88 Z w0 n R σ r h_ n_ m bad row=(
 opt (B2 h_) fun t136=>opt (A3 B3 G1.td t136 1) fun t137=>opt (A6 σ ti3 t137) fun t138=>isI .i64 t138 fun t138_1=>B1 (decide ((n_:Int)>t138_1)) (n91 Z w0 n R σ r h_ n_ m bad row true) (opt (B2 h_) fun t143=>opt (A3 B3 G1.td t143 3) fun t144=>opt (A6 σ ti3 t144) fun t145=>isI .i64 t145 fun t145_1=>n91 Z w0 n R σ r h_ n_ m bad row (decide ((m:Int)>t145_1)))):=by kernel_rfl
theorem n88_in(h:b88 (X w0 n) w0 n R σ r h_ n_ m bad row):n88 (X w0 n) w0 n R σ r h_ n_ m bad row:=E1 (S:=A7) (by kernel_rfl) @h
theorem b91_eq:b91 Z w0 n R σ r h_ n_ m bad row t147=(
 B1 t147 (D9 (cx w0) n bad σ R) (opt (B2 h_) fun t151=>opt (A3 B3 G1.td t151 5) fun t152=>opt (A6 σ lp t152) fun t153=>opt (A6 σ T8 row) fun t154=>opt2 (H9 σ T8 false 1 [(0,t154)]) fun t155 σ'=>((opt (A6 σ' lp t152) fun t153_1=>((t153_1:AV)=t153))∧(opt2 (L0 σ' T8 t153 t155) fun t156 σ'_1=>opt (B2 h_) fun t157=>opt (A3 B3 G1.td t157 5) fun t158=>opt (C2 σ'_1 lp t158 t156) fun σ'_2=>opt (B2 r) fun t160=>opt (A3 B3 T0.td t160 1) fun t161=>opt (A6 σ'_2 ti3 t161) fun t162=>isI .i64 t162 fun t162_1=>opt (B2 r) fun t164=>opt (A3 B3 T0.td t164 1) fun t165=>opt (C2 σ'_2 ti3 t165 (.pv (.int .i64 (IntKind.wrap .i64 (t162_1+1))))) fun σ'_3=>n7 Z w0 n R σ'_3 r h_ n_ m true)))):=by kernel_rfl
theorem n91_in(h:b91 (X w0 n) w0 n R σ r h_ n_ m bad row t147):n91 (X w0 n) w0 n R σ r h_ n_ m bad row t147:=E1 (S:=A7) (by kernel_rfl) @h
theorem b0_eq:b0 Z w0 n R σ r h_=(
 n7 Z w0 n R σ r h_ 0 0 false):=by kernel_rfl
theorem calls(h:b0 (X w0 (List.length σ)) w0 (List.length σ) R σ r h_):A2 (cx w0) A9.id [r,h_] σ R:=
 D0 (I4 w0) (x:=fe) (S:=A7) (A9.ok w0) (by kernel_rfl) @h
attribute [irreducible] n7 b8 n14 b14 n36 b36 n76 b76 n82 b82 n88 b88 n91 b91 b0
end A9
namespace G5
def lvs:List (List Nat):=[[0,1],[0,1],[0,1,4],[0,1,4],[0,1,4,6],[0,1,4,6],[0,1,4,6,7,8],[0,1,4,6,7,8],[0,1,4,6,7,8],[0,1,4,6,7,27],[4,6,7],[4,6,7],[4,5],[0,1,4,6,7],[0,1,4,6,7],[0,1,4,6,7],[0,1,4,6,7],[0,1,4,6,7],[0,1,4,6,7],[1,4,6,7,9],[1,4,6,7,9],[1,4,6,7,9,42],[4,7,9],[4,7,9],[4,5],[1,4,6,7],[1,4,6,7],[1,4,6,7],[1,4,6,7],[1,4,6,7],[1,4,6,7,45],[4,6,7],[4,6,7],[4,5],[1,4,6,7],[1,4,6,7],[4,6,7,53],[4,6,7],[4,6,7],[4,5],[4,7],[4,7],[4,7],[4,5]]
def lv:Nat→List Nat:=J8 lvs
noncomputable def code:Code:=F0 Tryz.f95
noncomputable def fe:FE:=⟨Tryz.f95,code,lv⟩
def A7:List Nat:=[36]
abbrev X(w0:B4)(n:Nat):XT:=xr (cx w0) 73 lv n
theorem ok(w0:B4):FOK (cx w0) G5.id fe:=⟨Tryz.func95,by kernel_rfl,by kernel_rfl⟩
section
variable (Z:XT)(w0:B4)(n:Nat)(R:RT)(σ:A1)(t4:AV)(at_:Int)(h_:AV)(t53:Bool)(r ahead:AV)
def q27:QT:=F2 (fun env σ=>A5 (cx w0) 73 lv n A7 Z (cAt code 41) 41 (prune (lv 41) env) σ (B9 (cx w0) Tryz.f95 n R)) (B9 (cx w0) Tryz.f95 n R)
def q28:QT:=I3 0 (q27 Z w0 n R)
def n36:Prop:=
 Z (cAt code 36) 36 [(4,t4),(6,(.pv (.int .i64 at_))),(7,h_),(53,(.pv (.bool t53)))] σ (q28 Z w0 n R)
def b36:Prop:=
 A5 (cx w0) 73 lv n A7 Z (cAt code 36) 36 [(4,t4),(6,(.pv (.int .i64 at_))),(7,h_),(53,(.pv (.bool t53)))] σ (q28 Z w0 n R)
def b0:Prop:=
 A5 (cx w0) 73 lv n A7 Z code 0 (H3 0 [r,ahead]) σ (B9 (cx w0) Tryz.f95 n R)
end
variable {Z:XT}{w0:B4}{n:Nat}{R:RT}{σ τ:A1}{t4 h_ r ahead:AV}{at_:Int}{t53:Bool}
theorem b36_eq:b36 Z w0 n R σ t4 at_ h_ t53=(
 B1 t53 (opt (A6 σ G1 h_) fun t68=>opt (N3 B3 rg [(0,(.pv (.int .i64 112))),(1,(.pv (.int .i64 at_)))]) fun t70=>((AV.cells t70).all AV.one=true∧(opt (C2 (σ ++ [.cells 113 (AV.cells t70)]) G1 t4 t68) fun σ'=>opt (A6 σ' G1 t4) fun v=>D9 (cx w0) n (.tup [v,(.ptr (List.length σ) 0)]) σ' R))) (opt (A6 σ G1 h_) fun t72=>opt (C2 σ G1 t4 t72) fun σ'=>opt (A6 σ' G1 t4) fun v=>D9 (cx w0) n (.tup [v,(.pv (.raw (.pointer none)))]) σ' R)):=by kernel_rfl
theorem n36_in(h:b36 (X w0 n) w0 n R σ t4 at_ h_ t53):n36 (X w0 n) w0 n R σ t4 at_ h_ t53:=E1 (S:=A7) (by kernel_rfl) @h
theorem b0_eq:b0 Z w0 n R σ r ahead=(
 opt (B2 r) fun t11=>opt (A3 B3 T0.td t11 1) fun t12=>opt (A6 (σ ++ [.cells 46 (AV.ofValue G1.zero).cells]) ti3 t12) fun t13=>isI .i64 t13 fun t13_1=>opt (B2 r) fun t16=>opt (A3 B3 T0.td t16 0) fun t17=>opt (A6 (σ ++ [.cells 46 (AV.ofValue G1.zero).cells]) J7 t17) fun t18=>opt (D1 (σ ++ [.cells 46 (AV.ofValue G1.zero).cells]) B3 J7.td t18 t13_1) fun t20=>opt (A6 (σ ++ [.cells 46 (AV.ofValue G1.zero).cells]) ti9 t20) fun t21=>isS t21 fun t21_1=>A2 (cx w0) L6.id [(.pv (.str t21_1))] (σ ++ [.cells 46 (AV.ofValue G1.zero).cells]) fun r_1 σ'=>isS r_1 fun t22=>A2 (cx w0) F8.id [(.pv (.str t22))] σ' fun r_2 σ'_1=>isTup r_2 fun vs=>opt ((vs)[0]?) fun t24=>isTup r_2 fun vs_1=>opt ((vs_1)[1]?) fun t25=>isB t25 fun t25_1=>opt (C2 (σ'_1 ++ [.cells 46 (AV.ofValue G1.zero).cells]) G1 (.ptr (List.length σ'_1) 0) t24) fun σ'_2=>B1 (!t25_1) (opt (A6 σ'_2 G1 (.ptr (List.length σ'_1) 0)) fun t28=>opt (N3 B3 rg [(0,(.pv (.int .i64 100))),(1,(.pv (.int .i64 t13_1)))]) fun t30=>((AV.cells t30).all AV.one=true∧(opt (C2 (σ'_2 ++ [.cells 113 (AV.cells t30)]) G1 (.ptr (List.length σ) 0) t28) fun σ'_3=>opt (A6 σ'_3 G1 (.ptr (List.length σ) 0)) fun v=>D9 (cx w0) n (.tup [v,(.ptr (List.length σ'_2) 0)]) σ'_3 R))) (opt (B2 r) fun t33=>opt (A3 B3 T0.td t33 1) fun t34=>opt (A6 σ'_2 ti3 t34) fun t35=>isI .i64 t35 fun t35_1=>opt (B2 r) fun t37=>opt (A3 B3 T0.td t37 1) fun t38=>opt (C2 σ'_2 ti3 t38 (.pv (.int .i64 (IntKind.wrap .i64 (t35_1+1))))) fun σ'_3=>A2 (cx w0) A9.id [r,(.ptr (List.length σ'_1) 0)] σ'_3 fun r_3 σ'_4=>Q9 B3 109 true .neq r_3 (.pv (.raw (.pointer none))) fun v=>isB v fun b=>B1 b (opt (A6 σ'_4 G1 (.ptr (List.length σ'_1) 0)) fun t43=>opt (C2 σ'_4 G1 (.ptr (List.length σ) 0) t43) fun σ'_5=>opt (A6 σ'_5 G1 (.ptr (List.length σ) 0)) fun v_1=>D9 (cx w0) n (.tup [v_1,r_3]) σ'_5 R) (opt (A6 σ'_4 G1 (.ptr (List.length σ'_1) 0)) fun t46=>A2 (cx w0) M0.id [t46] σ'_4 fun r_4 σ'_5=>Q9 B3 24 true .neq r_4 (.pv (.raw .nilIface)) fun v_1=>isB v_1 fun b_1=>B1 b_1 (opt (A6 σ'_5 G1 (.ptr (List.length σ'_1) 0)) fun t49=>opt (N3 B3 rg [(0,(.pv (.int .i64 100))),(1,(.pv (.int .i64 t13_1)))]) fun t51=>((AV.cells t51).all AV.one=true∧(opt (C2 (σ'_5 ++ [.cells 113 (AV.cells t51)]) G1 (.ptr (List.length σ) 0) t49) fun σ'_6=>opt (A6 σ'_6 G1 (.ptr (List.length σ) 0)) fun v_2=>D9 (cx w0) n (.tup [v_2,(.ptr (List.length σ'_5) 0)]) σ'_6 R))) (opt (R5 ti29.td ahead) fun t55=>isI .i64 t55 fun t55_1=>B1 (decide ((t55_1:Int)>0)) (opt (R5 ti29.td ahead) fun t60=>isI .i64 t60 fun t60_1=>opt (D1 σ'_5 B3 ti29.td ahead (IntKind.wrap .i64 (t60_1-1))) fun t62=>opt (A6 σ'_5 G1 t62) fun t63=>opt (A6 σ'_5 G1 (.ptr (List.length σ'_1) 0)) fun t64=>A2 (cx w0) J1.id [t63,t64] σ'_5 fun r_5 σ'_6=>isB r_5 fun t65=>n36 Z w0 n R σ'_6 (.ptr (List.length σ) 0) t13_1 (.ptr (List.length σ'_1) 0) (!t65)) (n36 Z w0 n R σ'_5 (.ptr (List.length σ) 0) t13_1 (.ptr (List.length σ'_1) 0) false))))):=by kernel_rfl
theorem calls(h:b0 (X w0 (List.length σ)) w0 (List.length σ) R σ r ahead):A2 (cx w0) G5.id [r,ahead] σ R:=
 D0 (I4 w0) (x:=fe) (S:=A7) (G5.ok w0) (by kernel_rfl) @h
attribute [irreducible] n36 b36 b0
end G5
namespace D2
def lvs:List (List Nat):=[[0],[0],[0,2,3],[0,2,3],[0,2,3,6],[0,2,3,6],[0,2,3,6,7,8],[0,2,3,6,7,8],[0,2,3,6,7,8],[0,2,3,6,7,8,19],[2,3,6,8],[2,3,6,8],[2,3,4,5],[0,2,3,6,7],[0,2,3,6,7],[0,2,3,6,7],[0,2,3,6,7,8,9],[0,2,3,6,7,8,9],[0,2,3,6,7,8,9],[0,2,3,6,7,8,9,29],[2,3,6,8],[2,3,6,8],[2,3,4,5],[0,2,3,6,7,9],[0,2,3,6,7,9],[0,2,3,6,7,9],[0,2,3,6,7,9,10],[0,2,3,6,7,9,10],[0,2,3,6,7,9,10],[0,2,3,6,7,9,10],[0,2,3,6,7,9,10],[0,2,3,6,7,9,10],[0,2,3,6,7,9,10,55],[0,2,3,6,7,9,10],[0,2,3,6,7,9,10],[0,2,3,6,7,9,10],[0,2,3,6,7,9,10],[0,2,3,6,7,9,10],[0,2,3,6,7,9,10,11,12],[0,2,3,6,7,9,10,11,12],[0,2,3,6,7,9,10,11,12],[0,2,3,6,7,9,10,11,12,63],[2,3,6,12],[2,3,6,12],[2,3,4,5],[0,2,3,6,7,9,10,11],[0,2,3,6,7,9,10,11],[0,2,3,6,7,9,10],[0,2,3,6,7,9,10],[0,2,3,6,7,9,10],[0,2,3,6,7,9,10,73],[0,2,3,6],[0,2,3,6],[2,3,4,5],[2,3,7,9,10],[2,3,7,9,10],[2,3,7,9,10],[2,3,4,5]]
def lv:Nat→List Nat:=J8 lvs
noncomputable def code:Code:=F0 Tryz.f61
noncomputable def fe:FE:=⟨Tryz.f61,code,lv⟩
def A7:List Nat:=[29,32,47]
abbrev X(w0:B4)(n:Nat):XT:=xr (cx w0) 85 lv n
theorem ok(w0:B4):FOK (cx w0) D2.id fe:=⟨Tryz.func61,by kernel_rfl,by kernel_rfl⟩
section
variable (Z:XT)(w0:B4)(n:Nat)(R:RT)(σ:A1)(r t2 t3 none_ old fresh out:AV)(t55:Bool)
def q27:QT:=F2 (fun env σ=>Z (cAt code 47) 47 (prune (lv 47) env) σ (B9 (cx w0) Tryz.f61 n R)) (B9 (cx w0) Tryz.f61 n R)
def q28:QT:=I3 0 (q27 Z w0 n R)
def q29:QT:=F2 (fun env σ=>Z (cAt code 28) 28 (prune (lv 28) env) σ (q28 Z w0 n R)) (q28 Z w0 n R)
def q30:QT:=F2 (fun env σ=>A5 (cx w0) 85 lv n A7 Z (cAt code 35) 35 (prune (lv 35) env) σ (q29 Z w0 n R)) (q29 Z w0 n R)
def n28:Prop:=
 Z (cAt code 28) 28 [(0,r),(2,t2),(3,t3),(6,none_),(7,old),(9,fresh),(10,out)] σ (q28 Z w0 n R)
def b29:Prop:=
 A5 (cx w0) 85 lv n A7 Z (cAt code 29) 29 [(0,r),(2,t2),(3,t3),(6,none_),(7,old),(9,fresh),(10,out)] σ (q29 Z w0 n R)
def n32:Prop:=
 Z (cAt code 32) 32 [(0,r),(2,t2),(3,t3),(6,none_),(7,old),(9,fresh),(10,out),(55,(.pv (.bool t55)))] σ (q30 Z w0 n R)
def b32:Prop:=
 A5 (cx w0) 85 lv n A7 Z (cAt code 32) 32 [(0,r),(2,t2),(3,t3),(6,none_),(7,old),(9,fresh),(10,out),(55,(.pv (.bool t55)))] σ (q30 Z w0 n R)
def n47:Prop:=
 Z (cAt code 47) 47 [(0,r),(2,t2),(3,t3),(6,none_),(7,old),(9,fresh),(10,out)] σ (B9 (cx w0) Tryz.f61 n R)
def b47:Prop:=
 A5 (cx w0) 85 lv n A7 Z (cAt code 47) 47 [(0,r),(2,t2),(3,t3),(6,none_),(7,old),(9,fresh),(10,out)] σ (B9 (cx w0) Tryz.f61 n R)
def b0:Prop:=
 A5 (cx w0) 85 lv n A7 Z code 0 (H3 0 [r]) σ (B9 (cx w0) Tryz.f61 n R)
end
variable {Z:XT}{w0:B4}{n:Nat}{R:RT}{σ τ:A1}{r t2 t3 none_ old fresh out r' t2' t3' none_' old' fresh' out':AV}{t55:Bool}
theorem n28_in(h:b29 (X w0 n) w0 n R σ r t2 t3 none_ old fresh out):n28 (X w0 n) w0 n R σ r t2 t3 none_ old fresh out:=J9 (I4 w0) (S:=A7) (by kernel_rfl:cAt code 28 = .loop (cAt code 29)) @h
theorem n28_weak(e:N2 (cx w0) n [(0,r),(2,t2),(3,t3),(6,none_),(7,old),(9,fresh),(10,out)] σ [(0,r'),(2,t2'),(3,t3'),(6,none_'),(7,old'),(9,fresh'),(10,out')] τ)(h:n28 (X w0 n) w0 n R τ r' t2' t3' none_' old' fresh' out'):n28 (X w0 n) w0 n R σ r t2 t3 none_ old fresh out:=U3 (L:=lv) (k:=28) (by kernel_rfl:cAt code 28 = .loop (cAt code 29)) @e @h
theorem b29_eq:b29 Z w0 n R σ r t2 t3 none_ old fresh out=(
 opt (B2 r) fun t34=>opt (A3 B3 T0.td t34 1) fun t35=>opt (A6 σ ti3 t35) fun t36=>isI .i64 t36 fun t36_1=>opt (B2 r) fun t38=>opt (A3 B3 T0.td t38 0) fun t39=>opt (A6 σ J7 t39) fun t40=>opt (R5 J7.td t40) fun t41=>isI .i64 t41 fun t41_1=>B1 (decide ((t36_1:Int)<t41_1)) (opt (B2 r) fun t45=>opt (A3 B3 T0.td t45 0) fun t46=>opt (A6 σ J7 t46) fun t47=>opt (B2 r) fun t49=>opt (A3 B3 T0.td t49 1) fun t50=>opt (A6 σ ti3 t50) fun t51=>isI .i64 t51 fun t51_1=>opt (D1 σ B3 J7.td t47 t51_1) fun t52=>opt (A6 σ ti9 t52) fun t53=>isS t53 fun t53_1=>A2 (cx w0) strings_HasPrefix.id [(.pv (.str t53_1)),(.pv (.str [64,64,32,45]))] σ fun r_1 σ'=>isB r_1 fun t54=>n32 Z w0 n R σ' r t2 t3 none_ old fresh out t54) (n32 Z w0 n R σ r t2 t3 none_ old fresh out false)):=by kernel_rfl
theorem b32_eq:b32 Z w0 n R σ r t2 t3 none_ old fresh out t55=(
 B1 t55 (A2 (cx w0) G5.id [r,out] σ fun r_1 σ'=>isTup r_1 fun vs=>opt ((vs)[0]?) fun t60=>isTup r_1 fun vs_1=>opt ((vs_1)[1]?) fun t61=>opt (C2 (σ' ++ [.cells 46 (AV.ofValue G1.zero).cells]) G1 (.ptr (List.length σ') 0) t60) fun σ'_1=>Q9 B3 109 true .neq t61 (.pv (.raw (.pointer none))) fun v=>isB v fun b=>B1 b (opt (A6 σ'_1 F1 none_) fun t64=>opt (A6 σ'_1 F1 none_) fun t65=>opt (C2 σ'_1 F1 t2 t64) fun σ'_2=>((opt (A6 σ'_2 F1 none_) fun t65_1=>((t65_1:AV)=t65))∧(opt (C2 σ'_2 F1 t3 t65) fun σ'_3=>opt (A6 σ'_3 F1 t2) fun v_1=>opt (A6 σ'_3 F1 t3) fun v_2=>D9 (cx w0) n (.tup [v_1,v_2,.nilsl,t61]) σ'_3 R))) (opt (A6 σ'_1 G1 (.ptr (List.length σ') 0)) fun t68=>opt2 (H9 σ'_1 G1 false 1 [(0,t68)]) fun t69 σ'_2=>opt2 (L0 σ'_2 G1 out t69) fun t70 σ'_3=>n28 Z w0 n R σ'_3 r t2 t3 none_ old fresh t70)) (n47 Z w0 n R σ r t2 t3 none_ old fresh out)):=by kernel_rfl
theorem n32_in(h:b32 (X w0 n) w0 n R σ r t2 t3 none_ old fresh out t55):n32 (X w0 n) w0 n R σ r t2 t3 none_ old fresh out t55:=E1 (S:=A7) (by kernel_rfl) @h
theorem b47_eq:b47 Z w0 n R σ r t2 t3 none_ old fresh out=(
 opt (R5 ti29.td out) fun t72=>isI .i64 t72 fun t72_1=>B1 ((t72_1:Int)==0) (opt (A6 σ F1 none_) fun t74=>opt (A6 σ F1 none_) fun t75=>opt (B2 r) fun t77=>opt (A3 B3 T0.td t77 1) fun t78=>opt (A6 σ ti3 t78) fun t79=>isI .i64 t79 fun t79_1=>opt (N3 B3 rg [(0,(.pv (.int .i64 100))),(1,(.pv (.int .i64 t79_1)))]) fun t80=>opt (boxO 113 t80) fun ob=>ptrK t2 (opt (C2 σ F1 t2 t74) fun σ'=>((opt (A6 σ' F1 none_) fun t75_1=>((t75_1:AV)=t75))∧(((opt (A6 σ' ti3 t78) fun t79_2=>((t79_2:AV)=(.pv (.int .i64 t79_1))))∧(ptrK t3 (opt (C2 σ' F1 t3 t75) fun σ'_1=>((opt (A6 σ'_1 ti3 t78) fun t79_3=>((t79_3:AV)=(.pv (.int .i64 t79_1))))∧(((opt (A6 σ'_1 ti3 t78) fun t79_4=>((t79_4:AV)=(.pv (.int .i64 t79_1))))∧(opt (A6 (σ'_1 ++ [ob]) F1 t2) fun v=>opt (A6 (σ'_1 ++ [ob]) F1 t3) fun v_1=>D9 (cx w0) n (.tup [v,v_1,.nilsl,(.ptr (List.length σ+0) 0)]) (σ'_1 ++ [ob]) R))))))))))) (opt (A6 σ F1 old) fun t82=>opt (A6 σ F1 fresh) fun t83=>opt (C2 σ F1 t2 t82) fun σ'=>((opt (A6 σ' F1 fresh) fun t83_1=>((t83_1:AV)=t83))∧(opt (C2 σ' F1 t3 t83) fun σ'_1=>opt (A6 σ'_1 F1 t2) fun v=>opt (A6 σ'_1 F1 t3) fun v_1=>D9 (cx w0) n (.tup [v,v_1,out,(.pv (.raw (.pointer none)))]) σ'_1 R)))):=by kernel_rfl
theorem n47_in(h:b47 (X w0 n) w0 n R σ r t2 t3 none_ old fresh out):n47 (X w0 n) w0 n R σ r t2 t3 none_ old fresh out:=E1 (S:=A7) (by kernel_rfl) @h
theorem b0_eq:b0 Z w0 n R σ r=(
 A2 (cx w0) D3.id [r,(.pv (.str [45,45,45,32]))] (((σ ++ [.cells 28 (AV.ofValue F1.zero).cells]) ++ [.cells 28 (AV.ofValue F1.zero).cells]) ++ [.cells 28 (AV.ofValue F1.zero).cells]) fun r_1 σ'=>isTup r_1 fun vs=>opt ((vs)[0]?) fun t16=>isTup r_1 fun vs_1=>opt ((vs_1)[1]?) fun t17=>opt (C2 (σ' ++ [.cells 28 (AV.ofValue F1.zero).cells]) F1 (.ptr (List.length σ') 0) t16) fun σ'_1=>Q9 B3 109 true .neq t17 (.pv (.raw (.pointer none))) fun v=>isB v fun b=>B1 b (opt (A6 σ'_1 F1 (.ptr (List.length ((σ ++ [.cells 28 (AV.ofValue F1.zero).cells]) ++ [.cells 28 (AV.ofValue F1.zero).cells])) 0)) fun t20=>opt (A6 σ'_1 F1 (.ptr (List.length ((σ ++ [.cells 28 (AV.ofValue F1.zero).cells]) ++ [.cells 28 (AV.ofValue F1.zero).cells])) 0)) fun t21=>opt (C2 σ'_1 F1 (.ptr (List.length σ) 0) t20) fun σ'_2=>((opt (A6 σ'_2 F1 (.ptr (List.length ((σ ++ [.cells 28 (AV.ofValue F1.zero).cells]) ++ [.cells 28 (AV.ofValue F1.zero).cells])) 0)) fun t21_1=>((t21_1:AV)=t21))∧(opt (C2 σ'_2 F1 (.ptr (List.length (σ ++ [.cells 28 (AV.ofValue F1.zero).cells])) 0) t21) fun σ'_3=>opt (A6 σ'_3 F1 (.ptr (List.length σ) 0)) fun v_1=>opt (A6 σ'_3 F1 (.ptr (List.length (σ ++ [.cells 28 (AV.ofValue F1.zero).cells])) 0)) fun v_2=>D9 (cx w0) n (.tup [v_1,v_2,.nilsl,t17]) σ'_3 R))) (A2 (cx w0) D3.id [r,(.pv (.str [43,43,43,32]))] σ'_1 fun r_2 σ'_2=>isTup r_2 fun vs_2=>opt ((vs_2)[0]?) fun t26=>isTup r_2 fun vs_3=>opt ((vs_3)[1]?) fun t27=>opt (C2 (σ'_2 ++ [.cells 28 (AV.ofValue F1.zero).cells]) F1 (.ptr (List.length σ'_2) 0) t26) fun σ'_3=>Q9 B3 109 true .neq t27 (.pv (.raw (.pointer none))) fun v_1=>isB v_1 fun b_1=>B1 b_1 (opt (A6 σ'_3 F1 (.ptr (List.length ((σ ++ [.cells 28 (AV.ofValue F1.zero).cells]) ++ [.cells 28 (AV.ofValue F1.zero).cells])) 0)) fun t30=>opt (A6 σ'_3 F1 (.ptr (List.length ((σ ++ [.cells 28 (AV.ofValue F1.zero).cells]) ++ [.cells 28 (AV.ofValue F1.zero).cells])) 0)) fun t31=>opt (C2 σ'_3 F1 (.ptr (List.length σ) 0) t30) fun σ'_4=>((opt (A6 σ'_4 F1 (.ptr (List.length ((σ ++ [.cells 28 (AV.ofValue F1.zero).cells]) ++ [.cells 28 (AV.ofValue F1.zero).cells])) 0)) fun t31_1=>((t31_1:AV)=t31))∧(opt (C2 σ'_4 F1 (.ptr (List.length (σ ++ [.cells 28 (AV.ofValue F1.zero).cells])) 0) t31) fun σ'_5=>opt (A6 σ'_5 F1 (.ptr (List.length σ) 0)) fun v_2=>opt (A6 σ'_5 F1 (.ptr (List.length (σ ++ [.cells 28 (AV.ofValue F1.zero).cells])) 0)) fun v_3=>D9 (cx w0) n (.tup [v_2,v_3,.nilsl,t27]) σ'_5 R))) (n28 Z w0 n R σ'_3 r (.ptr (List.length σ) 0) (.ptr (List.length (σ ++ [.cells 28 (AV.ofValue F1.zero).cells])) 0) (.ptr (List.length ((σ ++ [.cells 28 (AV.ofValue F1.zero).cells]) ++ [.cells 28 (AV.ofValue F1.zero).cells])) 0) (.ptr (List.length σ') 0) (.ptr (List.length σ'_2) 0) .nilsl))):=by kernel_rfl
theorem calls(h:b0 (X w0 (List.length σ)) w0 (List.length σ) R σ r):A2 (cx w0) D2.id [r] σ R:=
 D0 (I4 w0) (x:=fe) (S:=A7) (D2.ok w0) (by kernel_rfl) @h
attribute [irreducible] n28 b29 n32 b32 n47 b47 b0
end D2
namespace F9
def lvs:List (List Nat):=[[0],[0],[0,2,3],[0,2,3],[0,2,3],[0,2,3,19],[2,3],[2,3],[2,3,4,5,6,7],[0,2,3],[0,2,3],[0,2,3],[0,2,3,8],[0,2,3,8],[0,2,3,8],[0,2,3,8,30],[0,2,3,8],[0,2,3,8],[0,2,3,8],[0,2,3,8],[0,2,3,9],[0,2,3,9],[0,2,3,9,10,11,12,13],[0,2,3,9,10,11,12,13],[0,2,3,9,10,11,12,13],[0,2,3,9,10,11,12,13,45],[2,3,10,11,13],[2,3,10,11,13],[2,3,4,5,6,7],[0,2,3,9,10,11,12],[0,2,3,9,10,11,12],[0,2,3,9,10,11,12],[0,2,3,9,10,11,12,14],[0,2,3,9,10,11,12,14],[0,2,3,9,10,11,12,14],[0,2,3,10,11,12,14,66,67,68],[0,2,3,10,11,12,14,66,67,68],[0,2,3,10,11,12,14,66,67,68],[0,2,3,10,11,12,14,66,67,68],[0,2,3,10,11,12,14,66,67,68,69],[0,2,3,10,11,12,14,66,67,68,69],[0,2,3,10,11,12,14,66,67,68],[0,2,3,10,11,12,14],[0,2,3,10,11,12,14,66,67,68],[0,2,3,10,11,12,14,66,67,68],[0,2,3,10,11,12,14,66,67,68],[0,2,3,10,11,12,14,66,67,68],[0,2,3,10,11,12,14,16,66,67,68],[0,2,3,10,11,12,14,66,67,68],[0,2,3,10,11,12,14],[0,2,3,10,11,12,14],[2,3,4,5,6,7]]
def lv:Nat→List Nat:=J8 lvs
noncomputable def code:Code:=F0 Tryz.f26
noncomputable def fe:FE:=⟨Tryz.f26,code,lv⟩
def A7:List Nat:=[15,18,37,49]
abbrev X(w0:B4)(n:Nat):XT:=xr (cx w0) 86 lv n
theorem ok(w0:B4):FOK (cx w0) F9.id fe:=⟨Tryz.func26,by kernel_rfl,by kernel_rfl⟩
section
variable (Z:XT)(w0:B4)(n:Nat)(R:RT)(σ:A1)(text:List UInt8)(t2 t3:AV)(whole:List UInt8)(t30:Bool)(old fresh l_:AV)(size:Int)(t66:AV)(t67 t68:Int)
def q13:QT:=F2 (fun env σ=>Z (cAt code 18) 18 (prune (lv 18) env) σ (B9 (cx w0) Tryz.f26 n R)) (B9 (cx w0) Tryz.f26 n R)
def q33:QT:=F2 (fun env σ=>Z (cAt code 49) 49 (prune (lv 49) env) σ (B9 (cx w0) Tryz.f26 n R)) (B9 (cx w0) Tryz.f26 n R)
def q36:QT:=I3 0 (q33 Z w0 n R)
def q37:QT:=F2 (fun env σ=>Z (cAt code 36) 36 (prune (lv 36) env) σ (q36 Z w0 n R)) (q36 Z w0 n R)
def n15:Prop:=
 Z (cAt code 15) 15 [(0,(.pv (.str text))),(2,t2),(3,t3),(8,(.pv (.str whole))),(30,(.pv (.bool t30)))] σ (q13 Z w0 n R)
def b15:Prop:=
 A5 (cx w0) 86 lv n A7 Z (cAt code 15) 15 [(0,(.pv (.str text))),(2,t2),(3,t3),(8,(.pv (.str whole))),(30,(.pv (.bool t30)))] σ (q13 Z w0 n R)
def n18:Prop:=
 Z (cAt code 18) 18 [(0,(.pv (.str text))),(2,t2),(3,t3),(8,(.pv (.str whole)))] σ (B9 (cx w0) Tryz.f26 n R)
def b18:Prop:=
 A5 (cx w0) 86 lv n A7 Z (cAt code 18) 18 [(0,(.pv (.str text))),(2,t2),(3,t3),(8,(.pv (.str whole)))] σ (B9 (cx w0) Tryz.f26 n R)
def n36:Prop:=
 Z (cAt code 36) 36 [(0,(.pv (.str text))),(2,t2),(3,t3),(10,old),(11,fresh),(12,l_),(14,(.pv (.int .i64 size))),(66,t66),(67,(.pv (.int .i64 t67))),(68,(.pv (.int .i64 t68)))] σ (q36 Z w0 n R)
def b37:Prop:=
 A5 (cx w0) 86 lv n A7 Z (cAt code 37) 37 [(0,(.pv (.str text))),(2,t2),(3,t3),(10,old),(11,fresh),(12,l_),(14,(.pv (.int .i64 size))),(66,t66),(67,(.pv (.int .i64 t67))),(68,(.pv (.int .i64 t68)))] σ (q37 Z w0 n R)
def n49:Prop:=
 Z (cAt code 49) 49 [(0,(.pv (.str text))),(2,t2),(3,t3),(10,old),(11,fresh),(12,l_),(14,(.pv (.int .i64 size)))] σ (B9 (cx w0) Tryz.f26 n R)
def b49:Prop:=
 A5 (cx w0) 86 lv n A7 Z (cAt code 49) 49 [(0,(.pv (.str text))),(2,t2),(3,t3),(10,old),(11,fresh),(12,l_),(14,(.pv (.int .i64 size)))] σ (B9 (cx w0) Tryz.f26 n R)
def b0:Prop:=
 A5 (cx w0) 86 lv n A7 Z code 0 (H3 0 [(.pv (.str text))]) σ (B9 (cx w0) Tryz.f26 n R)
end
variable {Z:XT}{w0:B4}{n:Nat}{R:RT}{σ τ:A1}{text whole text':List UInt8}{t2 t3 old fresh l_ t66 t2' t3' old' fresh' l_' t66':AV}{t30:Bool}{size t67 t68 size' t67' t68':Int}
theorem b15_eq:b15 Z w0 n R σ text t2 t3 whole t30=(
 B1 t30 ((List.length (whole:List UInt8)+List.length ([10]:List UInt8)≤9223372036854775807∧(n18 Z w0 n R σ text t2 t3 (whole ++ [10])))) (n18 Z w0 n R σ text t2 t3 whole)):=by kernel_rfl
theorem n15_in(h:b15 (X w0 n) w0 n R σ text t2 t3 whole t30):n15 (X w0 n) w0 n R σ text t2 t3 whole t30:=E1 (S:=A7) (by kernel_rfl) @h
theorem b18_eq:b18 Z w0 n R σ text t2 t3 whole=(
 A2 (cx w0) C9.id [(.pv (.str whole))] σ fun r σ'=>opt (N3 B3 T0 [(0,r)]) fun t35=>((AV.cells t35).all AV.one=true∧(A2 (cx w0) D2.id [(.ptr (List.length σ') 0)] (σ' ++ [.cells 108 (AV.cells t35)]) fun r_1 σ'_1=>isTup r_1 fun vs=>opt ((vs)[0]?) fun t40=>isTup r_1 fun vs_1=>opt ((vs_1)[1]?) fun t41=>isTup r_1 fun vs_2=>opt ((vs_2)[2]?) fun t42=>isTup r_1 fun vs_3=>opt ((vs_3)[3]?) fun t43=>opt (C2 ((σ'_1 ++ [.cells 28 (AV.ofValue F1.zero).cells]) ++ [.cells 28 (AV.ofValue F1.zero).cells]) F1 (.ptr (List.length σ'_1) 0) t40) fun σ'_2=>opt (C2 σ'_2 F1 (.ptr (List.length (σ'_1 ++ [.cells 28 (AV.ofValue F1.zero).cells])) 0) t41) fun σ'_3=>Q9 B3 109 true .neq t43 (.pv (.raw (.pointer none))) fun v=>isB v fun b=>B1 b (opt (A6 σ'_3 F1 (.ptr (List.length σ'_1) 0)) fun t46=>opt (A6 σ'_3 F1 (.ptr (List.length (σ'_1 ++ [.cells 28 (AV.ofValue F1.zero).cells])) 0)) fun t47=>opt (B2 t43) fun t49=>opt (A3 B3 rg.td t49 1) fun t50=>opt (A6 σ'_3 ti3 t50) fun t51=>isI .i64 t51 fun t51_1=>opt (B2 t43) fun t54=>opt (A3 B3 rg.td t54 0) fun t55=>opt (A6 σ'_3 ti61 t55) fun t56=>isI .i64 t56 fun t56_1=>opt (G4 61 (.pv (.int .i64 t56_1))) fun t57=>opt (C2 σ'_3 F1 t2 t46) fun σ'_4=>((opt (A6 σ'_4 F1 (.ptr (List.length (σ'_1 ++ [.cells 28 (AV.ofValue F1.zero).cells])) 0)) fun t47_1=>((t47_1:AV)=t47))∧(((opt (A6 σ'_4 ti3 t50) fun t51_2=>((t51_2:AV)=(.pv (.int .i64 t51_1))))∧(((opt (A6 σ'_4 ti61 t55) fun t56_2=>((t56_2:AV)=(.pv (.int .i64 t56_1))))∧(opt (C2 σ'_4 F1 t3 t47) fun σ'_5=>((opt (A6 σ'_5 ti3 t50) fun t51_3=>((t51_3:AV)=(.pv (.int .i64 t51_1))))∧(((opt (A6 σ'_5 ti61 t55) fun t56_3=>((t56_3:AV)=(.pv (.int .i64 t56_1))))∧(((opt (A6 σ'_5 ti3 t50) fun t51_4=>((t51_4:AV)=(.pv (.int .i64 t51_1))))∧(((opt (A6 σ'_5 ti61 t55) fun t56_4=>((t56_4:AV)=(.pv (.int .i64 t56_1))))∧(((opt (A6 σ'_5 ti3 t50) fun t51_5=>((t51_5:AV)=(.pv (.int .i64 t51_1))))∧(((opt (A6 σ'_5 ti61 t55) fun t56_5=>((t56_5:AV)=(.pv (.int .i64 t56_1))))∧(((opt (A6 σ'_5 ti61 t55) fun t56_6=>((t56_6:AV)=(.pv (.int .i64 t56_1))))∧(opt (A6 σ'_5 F1 t2) fun v_1=>opt (A6 σ'_5 F1 t3) fun v_2=>D9 (cx w0) n (.tup [v_1,v_2,.nilsl,(.pv (.str [])),(.pv (.int .i64 (IntKind.wrap .i64 (t51_1+1)))),t57]) σ'_5 R))))))))))))))))))))) (opt (B2 (.ptr (List.length σ') 0)) fun t59=>opt (A3 B3 T0.td t59 0) fun t60=>opt (A6 σ'_3 J7 t60) fun t61=>opt (B2 (.ptr (List.length σ') 0)) fun t63=>opt (A3 B3 T0.td t63 1) fun t64=>opt (A6 σ'_3 ti3 t64) fun t65=>isI .i64 t65 fun t65_1=>opt (G7 σ'_3 B3 J7.td t61 none (some (.pv (.int .i64 t65_1)))) fun t66=>opt (R5 J7.td t66) fun t67=>isI .i64 t67 fun t67_1=>n36 Z w0 n R σ'_3 text t2 t3 (.ptr (List.length σ'_1) 0) (.ptr (List.length (σ'_1 ++ [.cells 28 (AV.ofValue F1.zero).cells])) 0) t42 0 t66 t67_1 0)))):=by kernel_rfl
theorem n18_in(h:b18 (X w0 n) w0 n R σ text t2 t3 whole):n18 (X w0 n) w0 n R σ text t2 t3 whole:=E1 (S:=A7) (by kernel_rfl) @h
theorem n36_in(h:b37 (X w0 n) w0 n R σ text t2 t3 old fresh l_ size t66 t67 t68):n36 (X w0 n) w0 n R σ text t2 t3 old fresh l_ size t66 t67 t68:=J9 (I4 w0) (S:=A7) (by kernel_rfl:cAt code 36 = .loop (cAt code 37)) @h
theorem b37_eq:b37 Z w0 n R σ text t2 t3 old fresh l_ size t66 t67 t68=(
 B1 (decide ((t68:Int)<t67)) (opt (D1 σ B3 J7.td t66 t68) fun t70=>opt (A6 σ ti9 t70) fun t71=>isS t71 fun t71_1=>n36 Z w0 n R σ text t2 t3 old fresh l_ (IntKind.wrap .i64 (size+(List.length (t71_1:List UInt8):Int))) t66 t67 (IntKind.wrap .i64 (t68+1))) (n49 Z w0 n R σ text t2 t3 old fresh l_ size)):=by kernel_rfl
theorem b49_eq:b49 Z w0 n R σ text t2 t3 old fresh l_ size=(
 opt (A6 σ F1 old) fun t77=>opt (A6 σ F1 fresh) fun t78=>opt (G7 σ B3 ti9.td (.pv (.str text)) (some (.pv (.int .i64 (if ((List.length (text:List UInt8):Int):Int)<size then (List.length (text:List UInt8):Int) else size)))) none) fun t85=>isS t85 fun t85_1=>opt (C2 σ F1 t2 t77) fun σ'=>((opt (A6 σ' F1 fresh) fun t78_1=>((t78_1:AV)=t78))∧(((opt (G7 σ' B3 ti9.td (.pv (.str text)) (some (.pv (.int .i64 (if ((List.length (text:List UInt8):Int):Int)<size then (List.length (text:List UInt8):Int) else size)))) none) fun t85_2=>((t85_2:AV)=(.pv (.str t85_1))))∧(opt (C2 σ' F1 t3 t78) fun σ'_1=>((opt (G7 σ'_1 B3 ti9.td (.pv (.str text)) (some (.pv (.int .i64 (if ((List.length (text:List UInt8):Int):Int)<size then (List.length (text:List UInt8):Int) else size)))) none) fun t85_3=>((t85_3:AV)=(.pv (.str t85_1))))∧(((opt (G7 σ'_1 B3 ti9.td (.pv (.str text)) (some (.pv (.int .i64 (if ((List.length (text:List UInt8):Int):Int)<size then (List.length (text:List UInt8):Int) else size)))) none) fun t85_4=>((t85_4:AV)=(.pv (.str t85_1))))∧(opt (A6 σ'_1 F1 t2) fun v=>opt (A6 σ'_1 F1 t3) fun v_1=>D9 (cx w0) n (.tup [v,v_1,l_,(.pv (.str t85_1)),(.pv (.int .i64 0)),(.pv (.raw .nilIface))]) σ'_1 R))))))))):=by kernel_rfl
theorem n49_in(h:b49 (X w0 n) w0 n R σ text t2 t3 old fresh l_ size):n49 (X w0 n) w0 n R σ text t2 t3 old fresh l_ size:=E1 (S:=A7) (by kernel_rfl) @h
theorem b0_eq:b0 Z w0 n R σ text=(
 B1 (decide (((List.length (text:List UInt8):Int):Int)>4194304)) (opt (N3 B3 F1 []) fun t20=>opt (N3 B3 F1 []) fun t21=>opt (G4 61 (.pv (.int .i64 2))) fun t22=>opt (C2 ((σ ++ [.cells 28 (AV.ofValue F1.zero).cells]) ++ [.cells 28 (AV.ofValue F1.zero).cells]) F1 (.ptr (List.length σ) 0) t20) fun σ'=>opt (C2 σ' F1 (.ptr (List.length (σ ++ [.cells 28 (AV.ofValue F1.zero).cells])) 0) t21) fun σ'_1=>opt (A6 σ'_1 F1 (.ptr (List.length σ) 0)) fun v=>opt (A6 σ'_1 F1 (.ptr (List.length (σ ++ [.cells 28 (AV.ofValue F1.zero).cells])) 0)) fun v_1=>D9 (cx w0) n (.tup [v,v_1,.nilsl,(.pv (.str [])),(.pv (.int .i64 0)),t22]) σ'_1 R) (B1 (!((text:List UInt8) == [])) (A2 (cx w0) M4.id [(.pv (.str text))] ((σ ++ [.cells 28 (AV.ofValue F1.zero).cells]) ++ [.cells 28 (AV.ofValue F1.zero).cells]) fun r σ'=>isB r fun t28=>n15 Z w0 n R σ' text (.ptr (List.length σ) 0) (.ptr (List.length (σ ++ [.cells 28 (AV.ofValue F1.zero).cells])) 0) text (!t28)) (n15 Z w0 n R ((σ ++ [.cells 28 (AV.ofValue F1.zero).cells]) ++ [.cells 28 (AV.ofValue F1.zero).cells]) text (.ptr (List.length σ) 0) (.ptr (List.length (σ ++ [.cells 28 (AV.ofValue F1.zero).cells])) 0) text false))):=by kernel_rfl
theorem calls(h:b0 (X w0 (List.length σ)) w0 (List.length σ) R σ text):A2 (cx w0) F9.id [(.pv (.str text))] σ R:=
 D0 (I4 w0) (x:=fe) (S:=A7) (F9.ok w0) (by kernel_rfl) @h
attribute [irreducible] n15 b15 n18 b18 n36 b37 n49 b49 b0
end F9
end Go.Sv
