/- What the code of Go functions comes to over abstract stores, piece by piece; each equation by the kernel. Printed by a program of this session. What the code of Go functions comes to over abstract stores, piece by piece; each equation by the kernel. Printed by a program of this session. How many lines come and go, section by section, on both sides. A text with its counts put right, on both sides; the law of it. The law StreamTotals. The law StreamOrder. -/
import Derived.Test.YtgdnoobpnhmpjaaGreatDoorSvT
import Derived.KernelRfl
import Derived.Test.YtgdnoobpnhmpjaaGreatDoorSmJ
import Derived.Test.YtgdnoobpnhmpjaaGreatDoorSoE
import Derived.Test.YtgdnoobpnhmpjaaGreatDoorHk
set_option linter.unusedVariables false
set_option maxRecDepth 100000
set_option linter.unusedSimpArgs false
section
namespace Go.Sv
attribute [local irreducible] A5 V7 xr
open Go Go.Proofs
namespace B7
def lvs:List (List Nat):=[[0],[0],[0],[0],[0,3,4,5],[0,3,4,5],[0,3,4,5,6],[0,3,4,5,6],[0,3,4,5,6],[0,3,4,5,6,7],[0,3,4,5,6,7],[0,3,4,5,6,7],[0,3,4,5,6,7],[0,3,4,5,6,7],[0,3,4,5,6,7,17],[0,3,4,5,6,7],[4,5,6],[0,3,4,5,6,7],[0,3,4,5,6,7],[0,3,4,5,6,7],[0,3,4,5,6,7],[0,3,4,5,6,7],[0,3,4,5,7,36],[],[],[2],[0,3,4,5,7],[0,3,4,5,7],[0,3,4,5,6,7],[4,5,6],[4,5,6],[2]]
def lv:Nat→List Nat:=J8 lvs
noncomputable def code:Code:=F0 Tryz.f3
noncomputable def fe:FE:=⟨Tryz.f3,code,lv⟩
def A7:List Nat:=[11,22,29,31]
abbrev X(w0:B4)(n:Nat):XT:=xr (cx w0) 69 lv n
theorem ok(w0:B4):FOK (cx w0) B7.id fe:=⟨Tryz.func3,by kernel_rfl,by kernel_rfl⟩
section
variable (Z:XT)(w0:B4)(n:Nat)(R:RT)(σ:A1)(text:List UInt8)(l_:AV)(line:Int)(e_:AV)(last i:Int)(t36 t2:Bool)
def q7:QT:=F2 (fun env σ=>Z (cAt code 29) 29 (prune (lv 29) env) σ (B9 (cx w0) Tryz.f3 n R)) (B9 (cx w0) Tryz.f3 n R)
def q10:QT:=I3 0 (q7 Z w0 n R)
def q11:QT:=F2 (fun env σ=>Z (cAt code 10) 10 (prune (lv 10) env) σ (q10 Z w0 n R)) (q10 Z w0 n R)
def q18:QT:=F2 (fun env σ=>A5 (cx w0) 69 lv n A7 Z (cAt code 28) 28 (prune (lv 28) env) σ (q11 Z w0 n R)) (q11 Z w0 n R)
def q19:QT:=I3 1 (q18 Z w0 n R)
def q20:QT:=F2 (fun env σ=>A5 (cx w0) 69 lv n A7 Z (cAt code 27) 27 (prune (lv 27) env) σ (q19 Z w0 n R)) (q19 Z w0 n R)
def n10:Prop:=
 Z (cAt code 10) 10 [(0,(.pv (.str text))),(3,l_),(4,(.pv (.int .i64 line))),(5,e_),(6,(.pv (.int .i64 last))),(7,(.pv (.int .i64 i)))] σ (q10 Z w0 n R)
def b11:Prop:=
 A5 (cx w0) 69 lv n A7 Z (cAt code 11) 11 [(0,(.pv (.str text))),(3,l_),(4,(.pv (.int .i64 line))),(5,e_),(6,(.pv (.int .i64 last))),(7,(.pv (.int .i64 i)))] σ (q11 Z w0 n R)
def n22:Prop:=
 Z (cAt code 22) 22 [(0,(.pv (.str text))),(3,l_),(4,(.pv (.int .i64 line))),(5,e_),(7,(.pv (.int .i64 i))),(36,(.pv (.bool t36)))] σ (q20 Z w0 n R)
def b22:Prop:=
 A5 (cx w0) 69 lv n A7 Z (cAt code 22) 22 [(0,(.pv (.str text))),(3,l_),(4,(.pv (.int .i64 line))),(5,e_),(7,(.pv (.int .i64 i))),(36,(.pv (.bool t36)))] σ (q20 Z w0 n R)
def n29:Prop:=
 Z (cAt code 29) 29 [(4,(.pv (.int .i64 line))),(5,e_),(6,(.pv (.int .i64 last)))] σ (B9 (cx w0) Tryz.f3 n R)
def b29:Prop:=
 A5 (cx w0) 69 lv n A7 Z (cAt code 29) 29 [(4,(.pv (.int .i64 line))),(5,e_),(6,(.pv (.int .i64 last)))] σ (B9 (cx w0) Tryz.f3 n R)
def n31:Prop:=
 Z (cAt code 31) 31 [(2,(.pv (.bool t2)))] σ (B9 (cx w0) Tryz.f3 n R)
def b31:Prop:=
 A5 (cx w0) 69 lv n A7 Z (cAt code 31) 31 [(2,(.pv (.bool t2)))] σ (B9 (cx w0) Tryz.f3 n R)
def b0:Prop:=
 A5 (cx w0) 69 lv n A7 Z code 0 (H3 0 [(.pv (.str text))]) σ (B9 (cx w0) Tryz.f3 n R)
end
variable {Z:XT}{w0:B4}{n:Nat}{R:RT}{σ τ:A1}{text text':List UInt8}{l_ e_ l_' e_':AV}{line last i line' last' i':Int}{t36 t2:Bool}
theorem n10_in(h:b11 (X w0 n) w0 n R σ text l_ line e_ last i):n10 (X w0 n) w0 n R σ text l_ line e_ last i:=J9 (I4 w0) (S:=A7) (by kernel_rfl:cAt code 10 = .loop (cAt code 11)) @h
theorem b11_eq:b11 Z w0 n R σ text l_ line e_ last i=(
 opt (R5 ti22.td l_) fun t16=>isI .i64 t16 fun t16_1=>B1 (decide ((i:Int)<t16_1)) (opt (D1 σ B3 ti22.td l_ i) fun t22=>opt (A3 B3 nq.td t22 6) fun t23=>opt (A6 σ ti3 t23) fun t24=>isI .i64 t24 fun t24_1=>B1 (decide ((t24_1:Int)≤last)) (n22 Z w0 n R σ text l_ line e_ i true) (opt (D1 σ B3 ti22.td l_ i) fun t30=>opt (A3 B3 nq.td t30 6) fun t31=>opt (A6 σ ti3 t31) fun t32=>isI .i64 t32 fun t32_1=>A2 (cx w0) M8.id [(.pv (.str text))] σ fun r σ'=>isI .i64 r fun t34=>((opt (D1 σ' B3 ti22.td l_ i) fun t30_1=>((t30_1:AV)=t30))∧(((opt (A6 σ' ti3 t31) fun t32_2=>((t32_2:AV)=(.pv (.int .i64 t32_1))))∧(n22 Z w0 n R σ' text l_ line e_ i (decide ((t32_1:Int)>t34)))))))) (n29 Z w0 n R σ line e_ last)):=by kernel_rfl
theorem b22_eq:b22 Z w0 n R σ text l_ line e_ i t36=(
 B1 t36 (D9 (cx w0) n (.pv (.bool false)) σ R) (opt (D1 σ B3 ti22.td l_ i) fun t39=>opt (A3 B3 nq.td t39 6) fun t40=>opt (A6 σ ti3 t40) fun t41=>isI .i64 t41 fun t41_1=>n10 Z w0 n R σ text l_ line e_ t41_1 (IntKind.wrap .i64 (i+1)))):=by kernel_rfl
theorem n22_in(h:b22 (X w0 n) w0 n R σ text l_ line e_ i t36):n22 (X w0 n) w0 n R σ text l_ line e_ i t36:=E1 (S:=A7) (by kernel_rfl) @h
theorem b29_eq:b29 Z w0 n R σ line e_ last=(
 Q9 B3 24 true .eql e_ (.pv (.raw .nilIface)) fun v=>isB v fun b=>B1 ((line:Int)==0) (A2 (cx w0) I2.id [e_] σ fun r σ'=>isI .i64 r fun t48=>Q9 B3 4 false .eql (.pv (.bool b)) (.pv (.bool ((t48:Int)==0))) fun v_1=>isB v_1 fun b_1=>B1 b_1 (Q9 B3 24 true .eql e_ (.pv (.raw .nilIface)) fun v_2=>isB v_2 fun b_2=>B1 b_2 (A2 (cx w0) H5.id [] σ' fun r_1 σ'_1=>isB r_1 fun t67=>n31 Z w0 n R σ'_1 t67) (A2 (cx w0) I2.id [e_] σ' fun r_1 σ'_1=>isI .i64 r_1 fun t57=>B1 ((t57:Int)==2) (A2 (cx w0) H5.id [] σ'_1 fun r_2 σ'_2=>isB r_2 fun t67=>n31 Z w0 n R σ'_2 t67) (B1 (decide ((line:Int)>last)) (A2 (cx w0) H5.id [] σ'_1 fun r_2 σ'_2=>isB r_2 fun t67=>n31 Z w0 n R σ'_2 t67) (n31 Z w0 n R σ'_1 false)))) (n31 Z w0 n R σ' false)) (Q9 B3 4 false .eql (.pv (.bool b)) (.pv (.bool false)) fun v_1=>isB v_1 fun b_1=>B1 b_1 (Q9 B3 24 true .eql e_ (.pv (.raw .nilIface)) fun v_2=>isB v_2 fun b_2=>B1 b_2 (A2 (cx w0) H5.id [] σ fun r σ'=>isB r fun t67=>n31 Z w0 n R σ' t67) (A2 (cx w0) I2.id [e_] σ fun r σ'=>isI .i64 r fun t57=>B1 ((t57:Int)==2) (A2 (cx w0) H5.id [] σ' fun r_1 σ'_1=>isB r_1 fun t67=>n31 Z w0 n R σ'_1 t67) (B1 (decide ((line:Int)>last)) (A2 (cx w0) H5.id [] σ' fun r_1 σ'_1=>isB r_1 fun t67=>n31 Z w0 n R σ'_1 t67) (n31 Z w0 n R σ' false)))) (n31 Z w0 n R σ false))):=by kernel_rfl
theorem n29_in(h:b29 (X w0 n) w0 n R σ line e_ last):n29 (X w0 n) w0 n R σ line e_ last:=E1 (S:=A7) (by kernel_rfl) @h
theorem b31_eq:b31 Z w0 n R σ t2=(
 D9 (cx w0) n (.pv (.bool t2)) σ R):=by kernel_rfl
theorem n31_in(h:b31 (X w0 n) w0 n R σ t2):n31 (X w0 n) w0 n R σ t2:=E1 (S:=A7) (by kernel_rfl) @h
theorem b0_eq:b0 Z w0 n R σ text=(
 A2 (cx w0) stream_Parse.id [(.pv (.str text))] σ fun r σ'=>isTup r fun vs=>opt ((vs)[0]?) fun t11=>isTup r fun vs_1=>opt ((vs_1)[1]?) fun t12=>isI .i64 t12 fun t12_1=>isTup r fun vs_2=>opt ((vs_2)[2]?) fun t13=>n10 Z w0 n R σ' text t11 t12_1 t13 0 0):=by kernel_rfl
theorem calls(h:b0 (X w0 (List.length σ)) w0 (List.length σ) R σ text):A2 (cx w0) B7.id [(.pv (.str text))] σ R:=
 D0 (I4 w0) (x:=fe) (S:=A7) (B7.ok w0) (by kernel_rfl) @h
attribute [irreducible] n10 b11 n22 b22 n29 b29 n31 b31 b0
end B7
namespace M8
def lvs:List (List Nat):=[[0],[0],[0],[0],[2]]
def lv:Nat→List Nat:=J8 lvs
noncomputable def code:Code:=F0 Tryz.f8
noncomputable def fe:FE:=⟨Tryz.f8,code,lv⟩
def A7:List Nat:=[]
abbrev X(w0:B4)(n:Nat):XT:=xr (cx w0) 6 lv n
theorem ok(w0:B4):FOK (cx w0) M8.id fe:=⟨Tryz.func8,by kernel_rfl,by kernel_rfl⟩
section
variable (Z:XT)(w0:B4)(n:Nat)(R:RT)(σ:A1)(s:List UInt8)
def b0:Prop:=
 A5 (cx w0) 6 lv n A7 Z code 0 (H3 0 [(.pv (.str s))]) σ (B9 (cx w0) Tryz.f8 n R)
end
variable {Z:XT}{w0:B4}{n:Nat}{R:RT}{σ τ:A1}{s:List UInt8}
theorem b0_eq:b0 Z w0 n R σ s=(
 A2 (cx w0) E2.id [(.pv (.str s))] σ fun r σ'=>opt (R5 J7.td r) fun t5=>isI .i64 t5 fun t5_1=>D9 (cx w0) n (.pv (.int .i64 t5_1)) σ' R):=by kernel_rfl
theorem calls(h:b0 (X w0 (List.length σ)) w0 (List.length σ) R σ s):A2 (cx w0) M8.id [(.pv (.str s))] σ R:=
 D0 (I4 w0) (x:=fe) (S:=A7) (M8.ok w0) (by kernel_rfl) @h
attribute [irreducible] b0
end M8
end Go.Sv
end
section
namespace Go.Sv
open Go Go.Proofs
namespace stream_Reverse
variable {Z:XT}{w0:B4}{n:Nat}{R:RT}{σ τ:A1}{out t10 t t29 l_ out' t10' t' t29':AV}{t11 t12 t30 t31 t11' t12' t30' t31':Int}
end stream_Reverse
namespace stream_named
def lvs:List (List Nat):=[[0],[0],[1],[1],[1],[14,15,16],[14,15,16],[14,15,16],[14,15,16],[14,15,16,17],[14,15,16,17],[14,15,16],[],[14,15,16],[14,15,16],[14,15,16],[14,15,16],[5,14,15,16],[5,14,15,16],[5,14,15,16,25],[5],[5],[2,3],[14,15,16],[14,15,16],[],[],[2,3]]
def lv:Nat→List Nat:=J8 lvs
noncomputable def code:Code:=F0 Tryz.f37
noncomputable def fe:FE:=⟨Tryz.f37,code,lv⟩
def A7:List Nat:=[7,19,25]
abbrev X(w0:B4)(n:Nat):XT:=xr (cx w0) 28 lv n
theorem ok(w0:B4):FOK (cx w0) stream_named.id fe:=⟨Tryz.func37,by kernel_rfl,by kernel_rfl⟩
section
variable (Z:XT)(w0:B4)(n:Nat)(R:RT)(σ:A1)(n_:List UInt8)(t14:AV)(t15 t16:Int)(t25:Bool)(s:AV)
def q3:QT:=F2 (fun env σ=>Z (cAt code 25) 25 (prune (lv 25) env) σ (B9 (cx w0) Tryz.f37 n R)) (B9 (cx w0) Tryz.f37 n R)
def q6:QT:=I3 0 (q3 Z w0 n R)
def q7:QT:=F2 (fun env σ=>Z (cAt code 6) 6 (prune (lv 6) env) σ (q6 Z w0 n R)) (q6 Z w0 n R)
def q14:QT:=F2 (fun env σ=>A5 (cx w0) 28 lv n A7 Z (cAt code 24) 24 (prune (lv 24) env) σ (q7 Z w0 n R)) (q7 Z w0 n R)
def q15:QT:=I3 1 (q14 Z w0 n R)
def n6:Prop:=
 Z (cAt code 6) 6 [(14,t14),(15,(.pv (.int .i64 t15))),(16,(.pv (.int .i64 t16)))] σ (q6 Z w0 n R)
def b7:Prop:=
 A5 (cx w0) 28 lv n A7 Z (cAt code 7) 7 [(14,t14),(15,(.pv (.int .i64 t15))),(16,(.pv (.int .i64 t16)))] σ (q7 Z w0 n R)
def n19:Prop:=
 Z (cAt code 19) 19 [(5,(.pv (.str n_))),(14,t14),(15,(.pv (.int .i64 t15))),(16,(.pv (.int .i64 t16))),(25,(.pv (.bool t25)))] σ (q15 Z w0 n R)
def b19:Prop:=
 A5 (cx w0) 28 lv n A7 Z (cAt code 19) 19 [(5,(.pv (.str n_))),(14,t14),(15,(.pv (.int .i64 t15))),(16,(.pv (.int .i64 t16))),(25,(.pv (.bool t25)))] σ (q15 Z w0 n R)
def n25:Prop:=
 Z (cAt code 25) 25 [] σ (B9 (cx w0) Tryz.f37 n R)
def b25:Prop:=
 A5 (cx w0) 28 lv n A7 Z (cAt code 25) 25 [] σ (B9 (cx w0) Tryz.f37 n R)
def b0:Prop:=
 A5 (cx w0) 28 lv n A7 Z code 0 (H3 0 [s]) σ (B9 (cx w0) Tryz.f37 n R)
end
variable {Z:XT}{w0:B4}{n:Nat}{R:RT}{σ τ:A1}{t14 s t14':AV}{t15 t16 t15' t16':Int}{n_:List UInt8}{t25:Bool}
theorem n6_in(h:b7 (X w0 n) w0 n R σ t14 t15 t16):n6 (X w0 n) w0 n R σ t14 t15 t16:=J9 (I4 w0) (S:=A7) (by kernel_rfl:cAt code 6 = .loop (cAt code 7)) @h
theorem b7_eq:b7 Z w0 n R σ t14 t15 t16=(
 B1 (decide ((t16:Int)<t15)) (opt (D1 σ B3 J7.td t14 t16) fun t18=>opt (A6 σ ti9 t18) fun t19=>isS t19 fun t19_1=>B1 (!((t19_1:List UInt8) == [])) (n19 Z w0 n R σ t19_1 t14 t15 t16 (!((t19_1:List UInt8) == [47,100,101,118,47,110,117,108,108]))) (n19 Z w0 n R σ t19_1 t14 t15 t16 false)) (n25 Z w0 n R σ)):=by kernel_rfl
theorem b19_eq:b19 Z w0 n R σ n_ t14 t15 t16 t25=(
 B1 t25 (D9 (cx w0) n (.tup [(.pv (.str n_)),(.pv (.bool true))]) σ R) (n6 Z w0 n R σ t14 t15 (IntKind.wrap .i64 (t16+1)))):=by kernel_rfl
theorem n19_in(h:b19 (X w0 n) w0 n R σ n_ t14 t15 t16 t25):n19 (X w0 n) w0 n R σ n_ t14 t15 t16 t25:=E1 (S:=A7) (by kernel_rfl) @h
theorem b25_eq:b25 Z w0 n R σ=(
 D9 (cx w0) n (.tup [(.pv (.str [])),(.pv (.bool false))]) σ R):=by kernel_rfl
theorem n25_in(h:b25 (X w0 n) w0 n R σ):n25 (X w0 n) w0 n R σ:=E1 (S:=A7) (by kernel_rfl) @h
theorem b0_eq:b0 Z w0 n R σ s=(
 ((AV.cells s).all AV.one=true∧(opt (A3 B3 nq.td (.ptr (List.length σ) 0) 2) fun t6=>opt (A3 B3 F1.td t6 0) fun t7=>opt (A6 (σ ++ [.cells 31 (AV.cells s)]) ti9 t7) fun t8=>isS t8 fun t8_1=>opt (A3 B3 nq.td (.ptr (List.length σ) 0) 1) fun t9=>opt (A3 B3 F1.td t9 0) fun t10=>opt (A6 (σ ++ [.cells 31 (AV.cells s)]) ti9 t10) fun t11=>isS t11 fun t11_1=>opt (A3 B3 nq.td (.ptr (List.length σ) 0) 3) fun t12=>opt (A6 (σ ++ [.cells 31 (AV.cells s)]) ti9 t12) fun t13=>isS t13 fun t13_1=>opt2 (H9 (σ ++ [.cells 31 (AV.cells s)]) ti9 false 3 [(0,(.pv (.str t8_1))),(1,(.pv (.str t11_1))),(2,(.pv (.str t13_1)))]) fun t14 σ'=>opt (R5 J7.td t14) fun t15=>isI .i64 t15 fun t15_1=>n6 Z w0 n R σ' t14 t15_1 0))):=by kernel_rfl
theorem calls(h:b0 (X w0 (List.length σ)) w0 (List.length σ) R σ s):A2 (cx w0) stream_named.id [s] σ R:=
 D0 (I4 w0) (x:=fe) (S:=A7) (stream_named.ok w0) (by kernel_rfl) @h
attribute [irreducible] n6 b7 n19 b19 n25 b25 b0
end stream_named
namespace stream_Counts
variable {Z:XT}{w0:B4}{n:Nat}{R:RT}{σ τ:A1}{l_ t15 out t35 l_' t15' out' t35':AV}{t16 t17 t36 t37 t16' t17' t36' t37':Int}{t32:Bool}
end stream_Counts
namespace hunks_Reverse
variable {Z:XT}{w0:B4}{n:Nat}{R:RT}{σ τ:A1}{t2 out old fresh end_ t22 h_ t2' out' old' fresh' end_' t22':AV}{t23 t24 t23' t24':Int}
end hunks_Reverse
namespace vg
variable {Z:XT}{w0:B4}{n:Nat}{R:RT}{σ τ:A1}{t0 t1 t2:AV}
end vg
end Go.Sv
end
section
namespace Go.Sv
open Go Go.RowKit Go.Proofs
def findN:List (List UInt8)→List UInt8
 | []=>[]
 | x::r=>if isNm x=true then x else findN r
section
variable {w0:B4}{σ:A1}{R:AV→A1→Prop}
theorem nm_loop{σ:A1}{n:Nat}(hn:n≤σ.length)(l:List (List UInt8))(hl:l.length≤1000):∀(r:List (List UInt8)) (k:Nat),(l.map PV.str).drop k=r.map PV.str→R (.tup [.pv (.str (findN r)),.pv (.bool (!(findN r == [])))]) σ →
  stream_named.n6 (stream_named.X w0 n) w0 n R σ (.pv (.sl (l.map PV.str))) l.length k
 | [],k,hd,hR=>by
  have hk:=X7 hd
  rw[List.length_map] at hk
  refine stream_named.n6_in ?_
  rw[stream_named.b7_eq,B0,if_neg (by omega)]
  refine stream_named.n25_in ?_
  rw[stream_named.b25_eq]
  exact D6 hn hR
 | x::r,k,hd,hR=>by
  obtain ⟨h1,h2,h3⟩:=Q6 hd
  rw[List.length_map] at h3
  have no:isNm x=false→stream_named.n19 (stream_named.X w0 n) w0 n R σ x (.pv (.sl (l.map PV.str))) l.length k false:=by
   intro h
   refine stream_named.n19_in ?_
   rw[stream_named.b19_eq,C3,K6 h3 (by omega)]
   refine nm_loop hn l hl r (k+1) h2 ?_
   unfold findN at hR
   rw[h] at hR
   exact hR
  refine stream_named.n6_in ?_
  rw[stream_named.b7_eq,B0,if_pos (by omega)]
  refine A0 (T6 ju h1 rfl) ?_
  repeat ((with_reducible first|apply A0|apply wI|apply wT|apply wP|apply wS|apply wB);exact rfl)
  cases e1:(x==([]:List UInt8)) with
  | true=>
   rw[show (!true)=false from rfl,C3]
   exact no (by unfold isNm;rw[e1];rfl)
  | false=>
   rw[show (!false)=true from rfl,D4]
   cases e2:(x==([47,100,101,118,47,110,117,108,108]:List UInt8)) with
   | true=>
    exact no (by unfold isNm devN;rw[e1,e2];rfl)
   | false=>
    have hy:isNm x=true:=by unfold isNm devN;rw[e1,e2];rfl
    refine stream_named.n19_in ?_
    rw[stream_named.b19_eq]
    refine A4 (fun _=>?_) (fun h=>absurd h (by decide))
    unfold findN at hR
    rw[if_pos hy,e1] at hR
    exact D6 hn hR
theorem pg(Ld:Laid w0.w){s:Sec}(hR:R (.tup [.pv (.str (ua s)),.pv (.bool (!(ua s == [])))]) σ):A2 (cx w0) stream_named.id [.pv (fy s)] σ R:=by
 refine A2.alone Ld rfl (fun w1 L1=>?_) rfl hR
 refine stream_named.calls ?_
 rw[stream_named.b0_eq]
 refine ⟨rfl,?_⟩
 repeat ((with_reducible first|apply A0|apply wI|apply wT|apply wP|apply wS|apply wB);exact rfl)
 refine J5 (v:=.pv (.sl [.str s.np,.str s.op,.str s.ix])) rfl ?_
 repeat ((with_reducible first|apply A0|apply wI|apply wT|apply wP|apply wS|apply wB);exact rfl)
 exact nm_loop (Nat.zero_le _) [s.np,s.op,s.ix] (by simp) [s.np,s.op,s.ix] 0 rfl rfl
end
end Go.Sv
end
section
namespace Go.Sv
open Go Go.RowKit Go.Proofs
theorem cm:∀(s:Ln),∀l∈E4 s,l ≠ []
 | [],l,h=>by cases h
 | c::r,l,h=>by
  have ih:=cm r
  unfold E4 at h
  split at h
  ·rcases List.mem_cons.1 h with rfl|h
   ·simp
   ·exact ih l h
  ·split at h
   ·simp only[List.mem_singleton] at h
    subst h;simp
   ·rename_i k ls e
    rcases List.mem_cons.1 h with rfl|h
    ·simp
    ·exact ih l (by rw[e];exact List.mem_cons_of_mem _ h)
section
variable {w0:B4}{σ:A1}{R:AV→A1→Prop}
theorem snum_nil(L:Laid w0.w)(hR:R (.pv (.int .i64 0)) σ):A2 (cx w0) I2.id [.pv (.raw .nilIface)] σ R:=by
 refine A2.alone L rfl (fun w1 L1=>?_) rfl hR
 refine I2.calls ?_
 rw[I2.b0_eq,dy]
 refine A0 rfl (A0 (v:=true) rfl (E5 ?_))
 refine A4 (fun _=>?_) (fun h=>absurd h (by decide))
 exact D6 (Nat.zero_le _) rfl
theorem snum_err(L:Laid w0.w){n:Int}(hR:R (.pv (.int .i64 n)) σ):A2 (cx w0) I2.id [.pv (.iface 61 (.int .i64 n))] σ R:=by
 refine A2.alone L rfl (fun w1 L1=>?_) rfl hR
 refine I2.calls ?_
 rw[I2.b0_eq,dy]
 refine A0 rfl (A0 (v:=false) rfl (E5 ?_))
 refine A4 (fun h=>absurd h (by decide)) (fun _=>?_)
 refine A0 rfl ?_
 refine As_spec (id:=0) L1 rfl (E5 ?_)
 refine A4 (fun h=>absurd h (by decide)) (fun _=>?_)
 refine A0 (v:=.pv (.int .i64 n)) rfl (G2 ?_)
 exact D6 (Nat.zero_le _) rfl
end
end Go.Sv
end
section
namespace Go.Sv
open Go Go.RowKit Go.Proofs
section
variable {w0:B4}
abbrev okR:AV→A1→Prop:=fun r _=>r = .pv (.bool true)
end
end Go.Sv
end
section
namespace Go.Sv.So
open Go Go.RowKit Go.Proofs
section
variable {w0:B4}
theorem rCount_spec{σ:A1}{R:AV→A1→Prop}(Ld:Laid w0.w){s:Ln}(hs:s.length≤1099511627776)(hR:R (.pv (.int .i64 ((E4 s).length:Nat))) σ):A2 (cx w0) M8.id [.pv (.str s)] σ R:=by
 refine M8.calls ?_
 rw[M8.b0_eq]
 refine rSplit_spec Ld hs ?_
 repeat ((with_reducible first|apply A0|apply wI|apply wT|apply wP|apply wS|apply wB);exact rfl)
 rw[List.length_map]
 exact D5 hR
theorem wt{a b:Bool}{k:AV→Prop}(h:k (.pv (.bool (a==b)))):Q9 B3 4 false .eql (.pv (.bool a)) (.pv (.bool b)) k:=by
 show aEqK B3 4 false .eql (.pv (.bool a)) (.pv (.bool b)) k
 unfold aEqK
 refine A0 rfl (A0 (v:=a==b) ?_ h)
 cases a<;>cases b<;>rfl
abbrev okR:AV→A1→Prop:=fun r _=>r = .pv (.bool true)
theorem ord_end(Ld:Laid w0.w){line last:Int}{e:AV}(h:(line=0∧e = .pv (.raw .nilIface)) ∨ ∃n:Int,e = .pv (.iface 61 (.int .i64 n))∧(n=2∨(0<line∧last<line))):
  B7.n29 (B7.X w0 0) w0 0 okR [] line e last:=by
 have h31:B7.n31 (B7.X w0 0) w0 0 okR [] true:=by
  refine B7.n31_in ?_
  rw[B7.b31_eq]
  exact D5 rfl
 refine B7.n29_in ?_
 rw[B7.b29_eq]
 rcases h with ⟨rfl,rfl⟩|⟨n,rfl,h⟩
 ·rw[dy]
  refine A0 rfl (A0 (v:=true) rfl (E5 ?_))
  refine A4 (fun _=>?_) (fun h=>absurd h (by decide))
  refine snum_nil Ld (G2 ?_)
  refine wt (E5 ?_)
  refine A4 (fun _=>?_) (fun h=>absurd h (by decide))
  rw[dy]
  refine A0 rfl (A0 (v:=true) rfl (E5 ?_))
  refine A4 (fun _=>?_) (fun h=>absurd h (by decide))
  exact pe Ld (E5 h31)
 ·have hE:B1 ((n:Int)==2) (A2 (cx w0) H5.id [] [] fun r_2 σ'_2=>isB r_2 fun t67=>B7.n31 (B7.X w0 0) w0 0 okR σ'_2 t67) (B1 (decide ((line:Int)>last)) (A2 (cx w0) H5.id [] [] fun r_2 σ'_2=>isB r_2 fun t67=>B7.n31 (B7.X w0 0) w0 0 okR σ'_2 t67) (B7.n31 (B7.X w0 0) w0 0 okR [] false)):=by
   refine A4 (fun _=>pe Ld (E5 h31)) (fun g=>?_)
   refine A4 (fun _=>pe Ld (E5 h31)) (fun g2=>?_)
   have g':=of_decide_eq_false g2
   rcases h with rfl|⟨_,h⟩
   ·simp at g
   ·omega
  rw[dy]
  refine A0 rfl (A0 (v:=false) rfl (E5 ?_))
  refine A4 (fun g=>?_) (fun _=>?_)
  ·have hn:n=2:=by
    rcases h with h|⟨h,_⟩
    ·exact h
    ·have:line=0:=by simpa using g
     omega
   subst hn
   refine snum_err Ld (G2 ?_)
   refine wt (E5 ?_)
   refine A4 (fun _=>?_) (fun h=>absurd h (by decide))
   rw[dy]
   refine A0 rfl (A0 (v:=false) rfl (E5 ?_))
   refine A4 (fun h=>absurd h (by decide)) (fun _=>?_)
   exact snum_err Ld (G2 hE)
  ·refine wt (E5 ?_)
   refine A4 (fun _=>?_) (fun h=>absurd h (by decide))
   rw[dy]
   refine A0 rfl (A0 (v:=false) rfl (E5 ?_))
   refine A4 (fun h=>absurd h (by decide)) (fun _=>?_)
   exact snum_err Ld (G2 hE)
theorem ord_loop(Ld:Laid w0.w){text:Ln}{out:List Sec}{line:Int}{e:AV}(hb:∀s∈out,s.ln≤ordN text)(hn:out.length≤ordN text)(h:(line=0∧e = .pv (.raw .nilIface)) ∨ ∃n:Int,e = .pv (.iface 61 (.int .i64 n))∧(n=2∨(0<line ∧ ∀s∈out,s.ln<line))):
  ∀(r:List Sec) (k:Nat) (last:Int),out.drop k=r→k≤out.length→Rise last r→(last=0 ∨ ∃s∈out,s.ln=last)→B7.n10 (B7.X w0 0) w0 0 okR [] text (.pv (.sl (out.map fy))) line e last (k:Nat)
 | [],k,last,hr,hk,hri,hl=>by
  have hlen:out.length≤k:=List.drop_eq_nil_iff.1 hr
  refine B7.n10_in ?_
  rw[B7.b11_eq]
  repeat ((with_reducible first|apply A0|apply wI|apply wT|apply wP|apply wS|apply wB);exact rfl)
  rw[List.length_map,B0,if_neg (by omega)]
  refine ord_end Ld ?_
  rcases h with h|⟨n,h,h2⟩
  ·exact .inl h
  ·refine .inr ⟨n,h,?_⟩
   rcases h2 with h2|⟨h2,h3⟩
   ·exact .inl h2
   ·refine .inr ⟨h2,?_⟩
    rcases hl with rfl|⟨s,hs,rfl⟩
    ·exact h2
    ·exact h3 s hs
 | s::r,k,last,hr,hk,hri,hl=>by
  obtain ⟨gk,gr,glt⟩:=Q6 hr
  have hs:=List.mem_of_getElem? gk
  have hbs:=hb s hs
  have hT:text.length≤4194304∧ordN text=(E4 text).length:=by
   by_cases hh:4194304<text.length
   ·have:ordN text=0:=if_pos hh
    omega
   ·exact ⟨by omega,if_neg hh⟩
  have hsl:=fq text
  have hix:(out.map fy)[k]? = some (fy s):=by rw[List.getElem?_map,gk];rfl
  refine B7.n10_in ?_
  rw[B7.b11_eq]
  repeat ((with_reducible first|apply A0|apply wI|apply wT|apply wP|apply wS|apply wB);exact rfl)
  rw[List.length_map,B0,if_pos (by omega)]
  refine A0 (T6 tab31 hix rfl) ?_
  repeat ((with_reducible first|apply A0|apply wI|apply wT|apply wP|apply wS|apply wB);exact rfl)
  have h1:=hri.1
  rw[B0,if_neg (by omega)]
  refine A0 (T6 tab31 hix rfl) ?_
  repeat ((with_reducible first|apply A0|apply wI|apply wT|apply wP|apply wS|apply wB);exact rfl)
  refine rCount_spec Ld (by omega) (G2 ⟨A0 (T6 tab31 hix rfl) rfl,A0 rfl rfl,?_⟩)
  rw[decide_eq_false (by omega)]
  refine B7.n22_in ?_
  rw[B7.b22_eq,C3]
  refine A0 (T6 tab31 hix rfl) ?_
  repeat ((with_reducible first|apply A0|apply wI|apply wT|apply wP|apply wS|apply wB);exact rfl)
  rw[K6 glt (by omega)]
  exact ord_loop Ld hb hn h r (k+1) s.ln gr (by omega) hri.2 (.inr ⟨s,hs,rfl⟩)
theorem order_law(Ld:Laid w0.w){text:Ln}:A2 (cx w0) B7.id [.pv (.str text)] [] okR:=by
 refine B7.calls ?_
 rw[B7.b0_eq]
 refine Parse_ord Ld fun w hw=>?_
 cases hw with
 | good out h hb hn=>
  repeat ((with_reducible first|apply A0|apply wI|apply wT|apply wP|apply wS|apply wB);exact rfl)
  exact ord_loop Ld hb hn (.inl ⟨rfl,rfl⟩) out 0 0 rfl (Nat.zero_le _) h (.inl rfl)
 | bad out h hb hn line e h1=>
  repeat ((with_reducible first|apply A0|apply wI|apply wT|apply wP|apply wS|apply wB);exact rfl)
  exact ord_loop Ld hb hn (.inr ⟨e,rfl,h1⟩) out 0 0 rfl (Nat.zero_le _) h (.inl rfl)
end
end Go.Sv.So
namespace Go.Sv
open Go Go.RowKit Go.Proofs
theorem ru{w0:B4}(L:Laid w0.w){p:PV}(h1:hasT B3 12 9 p):A2 (cx w0) B7.id [.pv p] [] fun r _=>r = .pv (.bool true):=by
 obtain ⟨s,rfl,_⟩:=hasT_str ju rfl h1
 exact So.order_law L
end Go.Sv
end
