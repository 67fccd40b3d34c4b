/- What the code of Go functions comes to over abstract stores, piece by piece; each equation by the kernel. Printed by a program of this session. -/
import Derived.Test.YtgdnoobpnhmpjaaGreatDoorSvT
import Derived.KernelRfl
set_option linter.unusedVariables false
set_option maxRecDepth 100000
namespace Go.Sv
open Go Go.Proofs
namespace P7
def lvs:List (List Nat):=[[0],[0],[0],[0],[2]]
def lv:Nat→List Nat:=J8 lvs
noncomputable def code:Code:=F0 Tryz.f150
noncomputable def fe:FE:=⟨Tryz.f150,code,lv⟩
def A7:List Nat:=[4]
abbrev X(w0:B4)(n:Nat):XT:=xr (cx w0) 11 lv n
theorem ok(w0:B4):FOK (cx w0) P7.id fe:=⟨Tryz.func150,by kernel_rfl,by kernel_rfl⟩
section
variable (Z:XT)(w0:B4)(n:Nat)(R:RT)(σ:A1)(t2:Bool)(s:List UInt8)
def n4:Prop:=
 Z (cAt code 4) 4 [(2,(.pv (.bool t2)))] σ (B9 (cx w0) Tryz.f150 n R)
def b4:Prop:=
 A5 (cx w0) 11 lv n A7 Z (cAt code 4) 4 [(2,(.pv (.bool t2)))] σ (B9 (cx w0) Tryz.f150 n R)
def b0:Prop:=
 A5 (cx w0) 11 lv n A7 Z code 0 (H3 0 [(.pv (.str s))]) σ (B9 (cx w0) Tryz.f150 n R)
end
variable {Z:XT}{w0:B4}{n:Nat}{R:RT}{σ τ:A1}{t2:Bool}{s:List UInt8}
theorem b4_eq:b4 Z w0 n R σ t2=(
 D9 (cx w0) n (.pv (.bool t2)) σ R):=by kernel_rfl
theorem n4_in(h:b4 (X w0 n) w0 n R σ t2):n4 (X w0 n) w0 n R σ t2:=E1 (S:=A7) (by kernel_rfl) @h
theorem b0_eq:b0 Z w0 n R σ s=(
 B1 (!((s:List UInt8) == [])) (A2 (cx w0) L6.id [(.pv (.str s))] σ fun r σ'=>isS r fun t7=>A2 (cx w0) K7.id [(.pv (.str t7)),(.pv (.str [10]))] σ' fun r_1 σ'_1=>isB r_1 fun t8=>n4 Z w0 n R σ'_1 (!t8)) (n4 Z w0 n R σ false)):=by kernel_rfl
theorem calls(h:b0 (X w0 (List.length σ)) w0 (List.length σ) R σ s):A2 (cx w0) P7.id [(.pv (.str s))] σ R:=
 D0 (I4 w0) (x:=fe) (S:=A7) (P7.ok w0) (by kernel_rfl) @h
attribute [irreducible] n4 b4 b0
end P7
namespace K9
def lvs:List (List Nat):=[[0,1],[0,1],[0,1],[0,1],[0,1],[0,1,8],[],[],[4],[0,1],[0,1],[0,1],[0,1],[0,1],[],[],[4]]
def lv:Nat→List Nat:=J8 lvs
noncomputable def code:Code:=F0 Tryz.f151
noncomputable def fe:FE:=⟨Tryz.f151,code,lv⟩
def A7:List Nat:=[]
abbrev X(w0:B4)(n:Nat):XT:=xr (cx w0) 22 lv n
theorem ok(w0:B4):FOK (cx w0) K9.id fe:=⟨Tryz.func151,by kernel_rfl,by kernel_rfl⟩
section
variable (Z:XT)(w0:B4)(n:Nat)(R:RT)(σ:A1)(s:AV)(text:List UInt8)
def b0:Prop:=
 A5 (cx w0) 22 lv n A7 Z code 0 (H3 0 [s,(.pv (.str text))]) σ (B9 (cx w0) Tryz.f151 n R)
end
variable {Z:XT}{w0:B4}{n:Nat}{R:RT}{σ τ:A1}{s:AV}{text:List UInt8}
theorem b0_eq:b0 Z w0 n R σ s text=(
 opt (B2 s) fun t6=>opt (A3 B3 R7.td t6 1) fun t7=>opt (A6 σ ti4 t7) fun t8=>isB t8 fun t8_1=>B1 t8_1 (D9 (cx w0) n (.pv (.bool false)) σ R) (opt (B2 s) fun t10=>opt (A3 B3 R7.td t10 0) fun t11=>opt (A6 σ ti3 t11) fun t12=>isI .i64 t12 fun t12_1=>opt (B2 s) fun t14=>opt (A3 B3 R7.td t14 0) fun t15=>opt (C2 σ ti3 t15 (.pv (.int .i64 (IntKind.wrap .i64 (t12_1+1))))) fun σ'=>A2 (cx w0) M4.id [(.pv (.str text))] σ' fun r σ'_1=>isB r fun t18=>opt (B2 s) fun t20=>opt (A3 B3 R7.td t20 1) fun t21=>opt (C2 σ'_1 ti4 t21 (.pv (.bool (!t18)))) fun σ'_2=>D9 (cx w0) n (.pv (.bool true)) σ'_2 R)):=by kernel_rfl
theorem calls(h:b0 (X w0 (List.length σ)) w0 (List.length σ) R σ s text):A2 (cx w0) K9.id [s,(.pv (.str text))] σ R:=
 D0 (I4 w0) (x:=fe) (S:=A7) (K9.ok w0) (by kernel_rfl) @h
attribute [irreducible] b0
end K9
namespace M6
def lvs:List (List Nat):=[[0,1],[0,1],[0,1],[0,1],[4]]
def lv:Nat→List Nat:=J8 lvs
noncomputable def code:Code:=F0 Tryz.f117
noncomputable def fe:FE:=⟨Tryz.f117,code,lv⟩
def A7:List Nat:=[4]
abbrev X(w0:B4)(n:Nat):XT:=xr (cx w0) 29 lv n
theorem ok(w0:B4):FOK (cx w0) M6.id fe:=⟨Tryz.func117,by kernel_rfl,by kernel_rfl⟩
section
variable (Z:XT)(w0:B4)(n:Nat)(R:RT)(σ:A1)(t4:Bool)(at_ count:Int)
def n4:Prop:=
 Z (cAt code 4) 4 [(4,(.pv (.bool t4)))] σ (B9 (cx w0) Tryz.f117 n R)
def b4:Prop:=
 A5 (cx w0) 29 lv n A7 Z (cAt code 4) 4 [(4,(.pv (.bool t4)))] σ (B9 (cx w0) Tryz.f117 n R)
def b0:Prop:=
 A5 (cx w0) 29 lv n A7 Z code 0 (H3 0 [(.pv (.int .i64 at_)),(.pv (.int .i64 count))]) σ (B9 (cx w0) Tryz.f117 n R)
end
variable {Z:XT}{w0:B4}{n:Nat}{R:RT}{σ τ:A1}{t4:Bool}{at_ count:Int}
theorem b4_eq:b4 Z w0 n R σ t4=(
 D9 (cx w0) n (.pv (.bool t4)) σ R):=by kernel_rfl
theorem n4_in(h:b4 (X w0 n) w0 n R σ t4):n4 (X w0 n) w0 n R σ t4:=E1 (S:=A7) (by kernel_rfl) @h
theorem b0_eq:b0 Z w0 n R σ at_ count=(
 B1 (decide ((count:Int)≥0)) (B1 (decide ((at_:Int)≥0)) (B1 (decide ((at_:Int)>0)) (B1 (decide ((at_:Int)≤2147483647)) (n4 Z w0 n R σ (decide ((count:Int)≤(IntKind.wrap .i64 (2147483647-at_))))) (n4 Z w0 n R σ false)) (B1 ((count:Int)==0) (B1 (decide ((at_:Int)≤2147483647)) (n4 Z w0 n R σ (decide ((count:Int)≤(IntKind.wrap .i64 (2147483647-at_))))) (n4 Z w0 n R σ false)) (n4 Z w0 n R σ false))) (n4 Z w0 n R σ false)) (n4 Z w0 n R σ false)):=by kernel_rfl
theorem calls(h:b0 (X w0 (List.length σ)) w0 (List.length σ) R σ at_ count):A2 (cx w0) M6.id [(.pv (.int .i64 at_)),(.pv (.int .i64 count))] σ R:=
 D0 (I4 w0) (x:=fe) (S:=A7) (M6.ok w0) (by kernel_rfl) @h
attribute [irreducible] n4 b4 b0
end M6
namespace L6
def lvs:List (List Nat):=[[0],[0],[0],[0],[2]]
def lv:Nat→List Nat:=J8 lvs
noncomputable def code:Code:=F0 Tryz.f44
noncomputable def fe:FE:=⟨Tryz.f44,code,lv⟩
def A7:List Nat:=[]
abbrev X(w0:B4)(n:Nat):XT:=xr (cx w0) 5 lv n
theorem ok(w0:B4):FOK (cx w0) L6.id fe:=⟨Tryz.func44,by kernel_rfl,by kernel_rfl⟩
section
variable (Z:XT)(w0:B4)(n:Nat)(R:RT)(σ:A1)(line:List UInt8)
def b0:Prop:=
 A5 (cx w0) 5 lv n A7 Z code 0 (H3 0 [(.pv (.str line))]) σ (B9 (cx w0) Tryz.f44 n R)
end
variable {Z:XT}{w0:B4}{n:Nat}{R:RT}{σ τ:A1}{line:List UInt8}
theorem b0_eq:b0 Z w0 n R σ line=(
 A2 (cx w0) strings_TrimSuffix.id [(.pv (.str line)),(.pv (.str [10]))] σ fun r σ'=>isS r fun t4=>D9 (cx w0) n (.pv (.str t4)) σ' R):=by kernel_rfl
theorem calls(h:b0 (X w0 (List.length σ)) w0 (List.length σ) R σ line):A2 (cx w0) L6.id [(.pv (.str line))] σ R:=
 D0 (I4 w0) (x:=fe) (S:=A7) (L6.ok w0) (by kernel_rfl) @h
attribute [irreducible] b0
end L6
namespace M4
def lvs:List (List Nat):=[[0],[0],[0],[0],[2]]
def lv:Nat→List Nat:=J8 lvs
noncomputable def code:Code:=F0 Tryz.f22
noncomputable def fe:FE:=⟨Tryz.f22,code,lv⟩
def A7:List Nat:=[]
abbrev X(w0:B4)(n:Nat):XT:=xr (cx w0) 5 lv n
theorem ok(w0:B4):FOK (cx w0) M4.id fe:=⟨Tryz.func22,by kernel_rfl,by kernel_rfl⟩
section
variable (Z:XT)(w0:B4)(n:Nat)(R:RT)(σ:A1)(line:List UInt8)
def b0:Prop:=
 A5 (cx w0) 5 lv n A7 Z code 0 (H3 0 [(.pv (.str line))]) σ (B9 (cx w0) Tryz.f22 n R)
end
variable {Z:XT}{w0:B4}{n:Nat}{R:RT}{σ τ:A1}{line:List UInt8}
theorem b0_eq:b0 Z w0 n R σ line=(
 A2 (cx w0) strings_HasSuffix.id [(.pv (.str line)),(.pv (.str [10]))] σ fun r σ'=>isB r fun t4=>D9 (cx w0) n (.pv (.bool t4)) σ' R):=by kernel_rfl
theorem calls(h:b0 (X w0 (List.length σ)) w0 (List.length σ) R σ line):A2 (cx w0) M4.id [(.pv (.str line))] σ R:=
 D0 (I4 w0) (x:=fe) (S:=A7) (M4.ok w0) (by kernel_rfl) @h
attribute [irreducible] b0
end M4
namespace G9
def lvs:List (List Nat):=[[0],[0],[1,2,3],[1,2,3],[1,2,3,5],[1,2,3,5],[1,2,3,5],[2,3,5,9,10,11],[2,3,5,9,10,11],[2,3,5,9,10,11],[2,3,5,9,10,11],[2,3,5,9,10,11,12],[2,3,5,9,10,11,12],[2,3,5,9,10,11],[2,3,5],[2,3,5,9,10,11],[2,3,5,9,10,11],[2,3,5,9,10,11],[2,3,5,9,10,11],[2,3,5,7,9,10,11],[2,3,5,7,9,10,11],[2,3,5,7,9,10,11],[2,3,5,7,9,10,11,28],[2,3],[2,3],[2,3,4],[2,3,5,7,9,10,11],[2,3,5,7,9,10,11],[2,3,5,7,9,10,11],[2,3,5,7,9,10,11],[2,3,5,7,9,10,11],[2,3,5,9,10,11,56],[2,3],[2,3],[2,3,4],[2,3,5,9,10,11],[2,3,5,9,10,11],[2,3,5],[2,3,5],[2,3,4]]
def lv:Nat→List Nat:=J8 lvs
noncomputable def code:Code:=F0 Tryz.f116
noncomputable def fe:FE:=⟨Tryz.f116,code,lv⟩
def A7:List Nat:=[9,22,29,31,37]
abbrev X(w0:B4)(n:Nat):XT:=xr (cx w0) 63 lv n
theorem ok(w0:B4):FOK (cx w0) G9.id fe:=⟨Tryz.func116,by kernel_rfl,by kernel_rfl⟩
section
variable (Z:XT)(w0:B4)(n:Nat)(R:RT)(σ:A1)(old fresh:AV)(changes:Bool)(r t9:AV)(t10 t11:Int)(t28 t56:Bool)(h_:AV)
def q5:QT:=F2 (fun env σ=>Z (cAt code 37) 37 (prune (lv 37) env) σ (B9 (cx w0) Tryz.f116 n R)) (B9 (cx w0) Tryz.f116 n R)
def q8:QT:=I3 0 (q5 Z w0 n R)
def q9:QT:=F2 (fun env σ=>Z (cAt code 8) 8 (prune (lv 8) env) σ (q8 Z w0 n R)) (q8 Z w0 n R)
def q16:QT:=F2 (fun env σ=>A5 (cx w0) 63 lv n A7 Z (cAt code 36) 36 (prune (lv 36) env) σ (q9 Z w0 n R)) (q9 Z w0 n R)
def q17:QT:=I3 1 (q16 Z w0 n R)
def q20:QT:=F2 (fun env σ=>A5 (cx w0) 63 lv n A7 Z (cAt code 27) 27 (prune (lv 27) env) σ (q17 Z w0 n R)) (q17 Z w0 n R)
def n8:Prop:=
 Z (cAt code 8) 8 [(2,old),(3,fresh),(5,(.pv (.bool changes))),(9,t9),(10,(.pv (.int .i64 t10))),(11,(.pv (.int .i64 t11)))] σ (q8 Z w0 n R)
def b9:Prop:=
 A5 (cx w0) 63 lv n A7 Z (cAt code 9) 9 [(2,old),(3,fresh),(5,(.pv (.bool changes))),(9,t9),(10,(.pv (.int .i64 t10))),(11,(.pv (.int .i64 t11)))] σ (q9 Z w0 n R)
def n22:Prop:=
 Z (cAt code 22) 22 [(2,old),(3,fresh),(5,(.pv (.bool changes))),(7,r),(9,t9),(10,(.pv (.int .i64 t10))),(11,(.pv (.int .i64 t11))),(28,(.pv (.bool t28)))] σ (q20 Z w0 n R)
def b22:Prop:=
 A5 (cx w0) 63 lv n A7 Z (cAt code 22) 22 [(2,old),(3,fresh),(5,(.pv (.bool changes))),(7,r),(9,t9),(10,(.pv (.int .i64 t10))),(11,(.pv (.int .i64 t11))),(28,(.pv (.bool t28)))] σ (q20 Z w0 n R)
def n29:Prop:=
 Z (cAt code 29) 29 [(2,old),(3,fresh),(5,(.pv (.bool changes))),(7,r),(9,t9),(10,(.pv (.int .i64 t10))),(11,(.pv (.int .i64 t11)))] σ (q17 Z w0 n R)
def b29:Prop:=
 A5 (cx w0) 63 lv n A7 Z (cAt code 29) 29 [(2,old),(3,fresh),(5,(.pv (.bool changes))),(7,r),(9,t9),(10,(.pv (.int .i64 t10))),(11,(.pv (.int .i64 t11)))] σ (q17 Z w0 n R)
def n31:Prop:=
 Z (cAt code 31) 31 [(2,old),(3,fresh),(5,(.pv (.bool changes))),(9,t9),(10,(.pv (.int .i64 t10))),(11,(.pv (.int .i64 t11))),(56,(.pv (.bool t56)))] σ (q17 Z w0 n R)
def b31:Prop:=
 A5 (cx w0) 63 lv n A7 Z (cAt code 31) 31 [(2,old),(3,fresh),(5,(.pv (.bool changes))),(9,t9),(10,(.pv (.int .i64 t10))),(11,(.pv (.int .i64 t11))),(56,(.pv (.bool t56)))] σ (q17 Z w0 n R)
def n37:Prop:=
 Z (cAt code 37) 37 [(2,old),(3,fresh),(5,(.pv (.bool changes)))] σ (B9 (cx w0) Tryz.f116 n R)
def b37:Prop:=
 A5 (cx w0) 63 lv n A7 Z (cAt code 37) 37 [(2,old),(3,fresh),(5,(.pv (.bool changes)))] σ (B9 (cx w0) Tryz.f116 n R)
def b0:Prop:=
 A5 (cx w0) 63 lv n A7 Z code 0 (H3 0 [h_]) σ (B9 (cx w0) Tryz.f116 n R)
end
variable {Z:XT}{w0:B4}{n:Nat}{R:RT}{σ τ:A1}{old fresh t9 r h_ old' fresh' t9':AV}{changes t28 t56 changes':Bool}{t10 t11 t10' t11':Int}
theorem n8_in(h:b9 (X w0 n) w0 n R σ old fresh changes t9 t10 t11):n8 (X w0 n) w0 n R σ old fresh changes t9 t10 t11:=J9 (I4 w0) (S:=A7) (by kernel_rfl:cAt code 8 = .loop (cAt code 9)) @h
theorem n8_weak(e:N2 (cx w0) n [(2,old),(3,fresh),(5,(.pv (.bool changes))),(9,t9),(10,(.pv (.int .i64 t10))),(11,(.pv (.int .i64 t11)))] σ [(2,old'),(3,fresh'),(5,(.pv (.bool changes'))),(9,t9'),(10,(.pv (.int .i64 t10'))),(11,(.pv (.int .i64 t11')))] τ)(h:n8 (X w0 n) w0 n R τ old' fresh' changes' t9' t10' t11'):n8 (X w0 n) w0 n R σ old fresh changes t9 t10 t11:=U3 (L:=lv) (k:=8) (by kernel_rfl:cAt code 8 = .loop (cAt code 9)) @e @h
theorem b9_eq:b9 Z w0 n R σ old fresh changes t9 t10 t11=(
 B1 (decide ((t11:Int)<t10)) (opt (D1 σ B3 lp.td t9 t11) fun t13=>opt (A6 σ T8 t13) fun t14=>opt (C2 (σ ++ [.cells 79 (AV.ofValue T8.zero).cells]) T8 (.ptr (List.length σ) 0) t14) fun σ'=>opt (A3 B3 T8.td (.ptr (List.length σ) 0) 0) fun t15=>opt (A6 σ' ti3 t15) fun t16=>isI .i64 t16 fun t16_1=>B1 (decide ((t16_1:Int)<1)) (n22 Z w0 n R σ' old fresh changes (.ptr (List.length σ) 0) t9 t10 t11 true) (opt (A3 B3 T8.td (.ptr (List.length σ) 0) 0) fun t19=>opt (A6 σ' ti3 t19) fun t20=>isI .i64 t20 fun t20_1=>B1 (decide ((t20_1:Int)>3)) (n22 Z w0 n R σ' old fresh changes (.ptr (List.length σ) 0) t9 t10 t11 true) (opt (A3 B3 T8.td (.ptr (List.length σ) 0) 1) fun t24=>opt (A6 σ' ti9 t24) fun t25=>isS t25 fun t25_1=>A2 (cx w0) P7.id [(.pv (.str t25_1))] σ' fun r σ'_1=>isB r fun t26=>n22 Z w0 n R σ'_1 old fresh changes (.ptr (List.length σ) 0) t9 t10 t11 (!t26)))) (n37 Z w0 n R σ old fresh changes)):=by kernel_rfl
theorem b22_eq:b22 Z w0 n R σ old fresh changes r t9 t10 t11 t28=(
 B1 t28 (opt (A6 σ R7 old) fun t29=>opt (A6 σ R7 fresh) fun t30=>opt (C2 σ R7 old t29) fun σ'=>opt (C2 σ' R7 fresh t30) fun σ'_1=>opt (A6 σ'_1 R7 old) fun v=>opt (A6 σ'_1 R7 fresh) fun v_1=>D9 (cx w0) n (.tup [v,v_1,(.pv (.bool false))]) σ'_1 R) (B1 changes (n29 Z w0 n R σ old fresh true r t9 t10 t11) (opt (A3 B3 T8.td r 0) fun t33=>opt (A6 σ ti3 t33) fun t34=>isI .i64 t34 fun t34_1=>n29 Z w0 n R σ old fresh ((t34_1:Int) != 1) r t9 t10 t11))):=by kernel_rfl
theorem n22_in(h:b22 (X w0 n) w0 n R σ old fresh changes r t9 t10 t11 t28):n22 (X w0 n) w0 n R σ old fresh changes r t9 t10 t11 t28:=E1 (S:=A7) (by kernel_rfl) @h
theorem b29_eq:b29 Z w0 n R σ old fresh changes r t9 t10 t11=(
 opt (A3 B3 T8.td r 0) fun t37=>opt (A6 σ ti3 t37) fun t38=>isI .i64 t38 fun t38_1=>B1 ((t38_1:Int) != 3) (opt (A3 B3 T8.td r 1) fun t41=>opt (A6 σ ti9 t41) fun t42=>isS t42 fun t42_1=>A2 (cx w0) K9.id [old,(.pv (.str t42_1))] σ fun r_1 σ'=>isB r_1 fun t43=>B1 (!t43) (n31 Z w0 n R σ' old fresh changes t9 t10 t11 true) (opt (A3 B3 T8.td r 0) fun t47=>opt (A6 σ' ti3 t47) fun t48=>isI .i64 t48 fun t48_1=>B1 ((t48_1:Int) != 2) (opt (A3 B3 T8.td r 1) fun t51=>opt (A6 σ' ti9 t51) fun t52=>isS t52 fun t52_1=>A2 (cx w0) K9.id [fresh,(.pv (.str t52_1))] σ' fun r_2 σ'_1=>isB r_2 fun t53=>n31 Z w0 n R σ'_1 old fresh changes t9 t10 t11 (!t53)) (n31 Z w0 n R σ' old fresh changes t9 t10 t11 false))) (opt (A3 B3 T8.td r 0) fun t47=>opt (A6 σ ti3 t47) fun t48=>isI .i64 t48 fun t48_1=>B1 ((t48_1:Int) != 2) (opt (A3 B3 T8.td r 1) fun t51=>opt (A6 σ ti9 t51) fun t52=>isS t52 fun t52_1=>A2 (cx w0) K9.id [fresh,(.pv (.str t52_1))] σ fun r_1 σ'=>isB r_1 fun t53=>n31 Z w0 n R σ' old fresh changes t9 t10 t11 (!t53)) (n31 Z w0 n R σ old fresh changes t9 t10 t11 false))):=by kernel_rfl
theorem n29_in(h:b29 (X w0 n) w0 n R σ old fresh changes r t9 t10 t11):n29 (X w0 n) w0 n R σ old fresh changes r t9 t10 t11:=E1 (S:=A7) (by kernel_rfl) @h
theorem b31_eq:b31 Z w0 n R σ old fresh changes t9 t10 t11 t56=(
 B1 t56 (opt (A6 σ R7 old) fun t57=>opt (A6 σ R7 fresh) fun t58=>opt (C2 σ R7 old t57) fun σ'=>opt (C2 σ' R7 fresh t58) fun σ'_1=>opt (A6 σ'_1 R7 old) fun v=>opt (A6 σ'_1 R7 fresh) fun v_1=>D9 (cx w0) n (.tup [v,v_1,(.pv (.bool false))]) σ'_1 R) (n8 Z w0 n R σ old fresh changes t9 t10 (IntKind.wrap .i64 (t11+1)))):=by kernel_rfl
theorem n31_in(h:b31 (X w0 n) w0 n R σ old fresh changes t9 t10 t11 t56):n31 (X w0 n) w0 n R σ old fresh changes t9 t10 t11 t56:=E1 (S:=A7) (by kernel_rfl) @h
theorem b37_eq:b37 Z w0 n R σ old fresh changes=(
 opt (A6 σ R7 old) fun t60=>opt (A6 σ R7 fresh) fun t61=>opt (C2 σ R7 old t60) fun σ'=>opt (C2 σ' R7 fresh t61) fun σ'_1=>opt (A6 σ'_1 R7 old) fun v=>opt (A6 σ'_1 R7 fresh) fun v_1=>D9 (cx w0) n (.tup [v,v_1,(.pv (.bool changes))]) σ'_1 R):=by kernel_rfl
theorem n37_in(h:b37 (X w0 n) w0 n R σ old fresh changes):n37 (X w0 n) w0 n R σ old fresh changes:=E1 (S:=A7) (by kernel_rfl) @h
theorem b0_eq:b0 Z w0 n R σ h_=(
 ((AV.cells h_).all AV.one=true∧(opt (A3 B3 G1.td (.ptr (List.length σ) 0) 5) fun t8=>opt (A6 (((σ ++ [.cells 46 (AV.cells h_)]) ++ [.cells 198 (AV.ofValue R7.zero).cells]) ++ [.cells 198 (AV.ofValue R7.zero).cells]) lp t8) fun t9=>opt (R5 lp.td t9) fun t10=>isI .i64 t10 fun t10_1=>n8 Z w0 n R (((σ ++ [.cells 46 (AV.cells h_)]) ++ [.cells 198 (AV.ofValue R7.zero).cells]) ++ [.cells 198 (AV.ofValue R7.zero).cells]) (.ptr (List.length (σ ++ [.cells 46 (AV.cells h_)])) 0) (.ptr (List.length ((σ ++ [.cells 46 (AV.cells h_)]) ++ [.cells 198 (AV.ofValue R7.zero).cells])) 0) false t9 t10_1 0))):=by kernel_rfl
theorem calls(h:b0 (X w0 (List.length σ)) w0 (List.length σ) R σ h_):A2 (cx w0) G9.id [h_] σ R:=
 D0 (I4 w0) (x:=fe) (S:=A7) (G9.ok w0) (by kernel_rfl) @h
attribute [irreducible] n8 b9 n22 b22 n29 b29 n31 b31 n37 b37 b0
end G9
namespace M0
def lvs:List (List Nat):=[[0],[0],[1],[1],[1,3,4,5],[1,3,4,5],[1,3,4,5],[54],[],[],[2],[],[],[],[2]]
def lv:Nat→List Nat:=J8 lvs
noncomputable def code:Code:=F0 Tryz.f77
noncomputable def fe:FE:=⟨Tryz.f77,code,lv⟩
def A7:List Nat:=[7]
abbrev X(w0:B4)(n:Nat):XT:=xr (cx w0) 56 lv n
theorem ok(w0:B4):FOK (cx w0) M0.id fe:=⟨Tryz.func77,by kernel_rfl,by kernel_rfl⟩
section
variable (Z:XT)(w0:B4)(n:Nat)(R:RT)(σ:A1)(t54:Bool)(h_:AV)
def q5:QT:=F2 (fun env σ=>A5 (cx w0) 56 lv n A7 Z (cAt code 12) 12 (prune (lv 12) env) σ (B9 (cx w0) Tryz.f77 n R)) (B9 (cx w0) Tryz.f77 n R)
def n7:Prop:=
 Z (cAt code 7) 7 [(54,(.pv (.bool t54)))] σ (q5 Z w0 n R)
def b7:Prop:=
 A5 (cx w0) 56 lv n A7 Z (cAt code 7) 7 [(54,(.pv (.bool t54)))] σ (q5 Z w0 n R)
def b0:Prop:=
 A5 (cx w0) 56 lv n A7 Z code 0 (H3 0 [h_]) σ (B9 (cx w0) Tryz.f77 n R)
end
variable {Z:XT}{w0:B4}{n:Nat}{R:RT}{σ τ:A1}{t54:Bool}{h_:AV}
theorem b7_eq:b7 Z w0 n R σ t54=(
 B1 t54 (opt (G4 61 (.pv (.int .i64 100))) fun t55=>D9 (cx w0) n t55 σ R) (D9 (cx w0) n (.pv (.raw .nilIface)) σ R)):=by kernel_rfl
theorem n7_in(h:b7 (X w0 n) w0 n R σ t54):n7 (X w0 n) w0 n R σ t54:=E1 (S:=A7) (by kernel_rfl) @h
theorem b0_eq:b0 Z w0 n R σ h_=(
 ((AV.cells h_).all AV.one=true∧(opt (A6 (σ ++ [.cells 46 (AV.cells h_)]) G1 (.ptr (List.length σ) 0)) fun t7=>A2 (cx w0) G9.id [t7] (σ ++ [.cells 46 (AV.cells h_)]) fun r σ'=>isTup r fun vs=>opt ((vs)[0]?) fun t9=>isTup r fun vs_1=>opt ((vs_1)[1]?) fun t10=>isTup r fun vs_2=>opt ((vs_2)[2]?) fun t11=>isB t11 fun t11_1=>opt (C2 ((σ' ++ [.cells 198 (AV.ofValue R7.zero).cells]) ++ [.cells 198 (AV.ofValue R7.zero).cells]) R7 (.ptr (List.length σ') 0) t9) fun σ'_1=>opt (C2 σ'_1 R7 (.ptr (List.length (σ' ++ [.cells 198 (AV.ofValue R7.zero).cells])) 0) t10) fun σ'_2=>B1 (!t11_1) (n7 Z w0 n R σ'_2 true) (opt (A3 B3 R7.td (.ptr (List.length σ') 0) 0) fun t15=>opt (A6 σ'_2 ti3 t15) fun t16=>isI .i64 t16 fun t16_1=>opt (A3 B3 G1.td (.ptr (List.length σ) 0) 1) fun t17=>opt (A6 σ'_2 ti3 t17) fun t18=>isI .i64 t18 fun t18_1=>B1 ((t16_1:Int) != t18_1) (n7 Z w0 n R σ'_2 true) (opt (A3 B3 R7.td (.ptr (List.length (σ' ++ [.cells 198 (AV.ofValue R7.zero).cells])) 0) 0) fun t22=>opt (A6 σ'_2 ti3 t22) fun t23=>isI .i64 t23 fun t23_1=>opt (A3 B3 G1.td (.ptr (List.length σ) 0) 3) fun t24=>opt (A6 σ'_2 ti3 t24) fun t25=>isI .i64 t25 fun t25_1=>B1 ((t23_1:Int) != t25_1) (n7 Z w0 n R σ'_2 true) (opt (A3 B3 G1.td (.ptr (List.length σ) 0) 0) fun t29=>opt (A6 σ'_2 ti3 t29) fun t30=>isI .i64 t30 fun t30_1=>opt (A3 B3 G1.td (.ptr (List.length σ) 0) 1) fun t31=>opt (A6 σ'_2 ti3 t31) fun t32=>isI .i64 t32 fun t32_1=>A2 (cx w0) M6.id [(.pv (.int .i64 t30_1)),(.pv (.int .i64 t32_1))] σ'_2 fun r_1 σ'_3=>isB r_1 fun t33=>B1 (!t33) (n7 Z w0 n R σ'_3 true) (opt (A3 B3 G1.td (.ptr (List.length σ) 0) 2) fun t37=>opt (A6 σ'_3 ti3 t37) fun t38=>isI .i64 t38 fun t38_1=>opt (A3 B3 G1.td (.ptr (List.length σ) 0) 3) fun t39=>opt (A6 σ'_3 ti3 t39) fun t40=>isI .i64 t40 fun t40_1=>A2 (cx w0) M6.id [(.pv (.int .i64 t38_1)),(.pv (.int .i64 t40_1))] σ'_3 fun r_2 σ'_4=>isB r_2 fun t41=>B1 (!t41) (n7 Z w0 n R σ'_4 true) (opt (A3 B3 G1.td (.ptr (List.length σ) 0) 4) fun t45=>opt (A6 σ'_4 ti9 t45) fun t46=>isS t46 fun t46_1=>B1 (decide (((List.length (t46_1:List UInt8):Int):Int)>4096)) (n7 Z w0 n R σ'_4 true) (opt (A3 B3 G1.td (.ptr (List.length σ) 0) 4) fun t51=>opt (A6 σ'_4 ti9 t51) fun t52=>isS t52 fun t52_1=>A2 (cx w0) K7.id [(.pv (.str t52_1)),(.pv (.str [10]))] σ'_4 fun r_3 σ'_5=>isB r_3 fun t53=>n7 Z w0 n R σ'_5 t53))))))))):=by kernel_rfl
theorem calls(h:b0 (X w0 (List.length σ)) w0 (List.length σ) R σ h_):A2 (cx w0) M0.id [h_] σ R:=
 D0 (I4 w0) (x:=fe) (S:=A7) (M0.ok w0) (by kernel_rfl) @h
attribute [irreducible] n7 b7 b0
end M0
end Go.Sv
