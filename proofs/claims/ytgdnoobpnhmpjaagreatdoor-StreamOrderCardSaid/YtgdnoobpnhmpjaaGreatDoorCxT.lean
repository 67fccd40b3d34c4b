/- What the code of Go functions comes to over abstract stores, piece by piece; each equation by the kernel. Printed by a program of this session. What the code of Go functions comes to over abstract stores, piece by piece; each equation by the kernel. Printed by a program of this session. What the code of Go functions comes to over abstract stores, piece by piece; each equation by the kernel. Printed by a program of this session. The machine's own search for a byte, as a call over stores; computed runs that meet it. The library's contracts at this program, in plain words: Atoi of any length, TrimLeft of one byte, Index of one byte, Join. -/
import Derived.Test.YtgdnoobpnhmpjaaGreatDoorSvT
import Derived.Test.YtgdnoobpnhmpjaaGreatDoorSmI
import Derived.KernelRfl
import Derived.Test.YtgdnoobpnhmpjaaGreatDoorSvIx
import Derived.Lib.Bytealg
import Derived.Laws.Externs
import Derived.Shelf.Strconv.Atoi
import Derived.Shelf.Strconv.AtoiAll
import Derived.Shelf.Strings.Trim
import Derived.Shelf.Strings.Search2
import Derived.Shelf.Strings.OnBuilder
import Derived.Test.YtgdnoobpnhmpjaaGreatDoorProg
set_option linter.unusedVariables false
set_option maxRecDepth 100000
section
namespace Go.Sv
attribute [local irreducible] A5 V7 xr
open Go Go.Proofs
namespace N9
def lvs:List (List Nat):=[[0,1],[0,1],[0,1],[0,1],[4,5]]
def lv:Nat→List Nat:=J8 lvs
noncomputable def code:Code:=F0 Tryz.f138
noncomputable def fe:FE:=⟨Tryz.f138,code,lv⟩
def A7:List Nat:=[]
abbrev X(w0:B4)(n:Nat):XT:=xr (cx w0) 11 lv n
theorem ok(w0:B4):FOK (cx w0) N9.id fe:=⟨Tryz.func138,by kernel_rfl,by kernel_rfl⟩
section
variable (Z:XT)(w0:B4)(n:Nat)(R:RT)(σ:A1)(s suffix:List UInt8)
def b0:Prop:=
 A5 (cx w0) 11 lv n A7 Z code 0 (H3 0 [(.pv (.str s)),(.pv (.str suffix))]) σ (B9 (cx w0) Tryz.f138 n R)
end
variable {Z:XT}{w0:B4}{n:Nat}{R:RT}{σ τ:A1}{s suffix:List UInt8}
theorem b0_eq:b0 Z w0 n R σ s suffix=(
 A2 (cx w0) K3.id [(.pv (.str s)),(.pv (.str suffix))] σ fun r σ'=>isTup r fun vs=>opt ((vs)[0]?) fun t9=>isS t9 fun t9_1=>isTup r fun vs_1=>opt ((vs_1)[1]?) fun t10=>isB t10 fun t10_1=>D9 (cx w0) n (.tup [(.pv (.str t9_1)),(.pv (.bool t10_1))]) σ' R):=by kernel_rfl
theorem calls(h:b0 (X w0 (List.length σ)) w0 (List.length σ) R σ s suffix):A2 (cx w0) N9.id [(.pv (.str s)),(.pv (.str suffix))] σ R:=
 D0 (I4 w0) (x:=fe) (S:=A7) (N9.ok w0) (by kernel_rfl) @h
attribute [irreducible] b0
end N9
namespace K3
def lvs:List (List Nat):=[[0,1],[0,1],[0,1],[0,1],[0,1],[0,1,9],[0],[0],[4,5],[0,1],[0,1],[0,1],[4,5]]
def lv:Nat→List Nat:=J8 lvs
noncomputable def code:Code:=F0 Tryz.f166
noncomputable def fe:FE:=⟨Tryz.f166,code,lv⟩
def A7:List Nat:=[]
abbrev X(w0:B4)(n:Nat):XT:=xr (cx w0) 18 lv n
theorem ok(w0:B4):FOK (cx w0) K3.id fe:=⟨Tryz.func166,by kernel_rfl,by kernel_rfl⟩
section
variable (Z:XT)(w0:B4)(n:Nat)(R:RT)(σ:A1)(s suffix:List UInt8)
def b0:Prop:=
 A5 (cx w0) 18 lv n A7 Z code 0 (H3 0 [(.pv (.str s)),(.pv (.str suffix))]) σ (B9 (cx w0) Tryz.f166 n R)
end
variable {Z:XT}{w0:B4}{n:Nat}{R:RT}{σ τ:A1}{s suffix:List UInt8}
theorem b0_eq:b0 Z w0 n R σ s suffix=(
 A2 (cx w0) H7.id [(.pv (.str s)),(.pv (.str suffix))] σ fun r σ'=>isB r fun t8=>B1 (!t8) (D9 (cx w0) n (.tup [(.pv (.str s)),(.pv (.bool false))]) σ' R) (opt (G7 σ' B3 ti9.td (.pv (.str s)) none (some (.pv (.int .i64 (IntKind.wrap .i64 ((List.length (s:List UInt8):Int)-(List.length (suffix:List UInt8):Int))))))) fun t17=>isS t17 fun t17_1=>D9 (cx w0) n (.tup [(.pv (.str t17_1)),(.pv (.bool true))]) σ' R)):=by kernel_rfl
theorem calls(h:b0 (X w0 (List.length σ)) w0 (List.length σ) R σ s suffix):A2 (cx w0) K3.id [(.pv (.str s)),(.pv (.str suffix))] σ R:=
 D0 (I4 w0) (x:=fe) (S:=A7) (K3.ok w0) (by kernel_rfl) @h
attribute [irreducible] b0
end K3
namespace H7
def lvs:List (List Nat):=[[0,1],[0,1],[0,1],[0,1],[4]]
def lv:Nat→List Nat:=J8 lvs
noncomputable def code:Code:=F0 Tryz.f89
noncomputable def fe:FE:=⟨Tryz.f89,code,lv⟩
def A7:List Nat:=[4]
abbrev X(w0:B4)(n:Nat):XT:=xr (cx w0) 21 lv n
theorem ok(w0:B4):FOK (cx w0) H7.id fe:=⟨Tryz.func89,by kernel_rfl,by kernel_rfl⟩
section
variable (Z:XT)(w0:B4)(n:Nat)(R:RT)(σ:A1)(t4:Bool)(s suffix:List UInt8)
def n4:Prop:=
 Z (cAt code 4) 4 [(4,(.pv (.bool t4)))] σ (B9 (cx w0) Tryz.f89 n R)
def b4:Prop:=
 A5 (cx w0) 21 lv n A7 Z (cAt code 4) 4 [(4,(.pv (.bool t4)))] σ (B9 (cx w0) Tryz.f89 n R)
def b0:Prop:=
 A5 (cx w0) 21 lv n A7 Z code 0 (H3 0 [(.pv (.str s)),(.pv (.str suffix))]) σ (B9 (cx w0) Tryz.f89 n R)
end
variable {Z:XT}{w0:B4}{n:Nat}{R:RT}{σ τ:A1}{t4:Bool}{s suffix:List UInt8}
theorem b4_eq:b4 Z w0 n R σ t4=(
 D9 (cx w0) n (.pv (.bool t4)) σ R):=by kernel_rfl
theorem n4_in(h:b4 (X w0 n) w0 n R σ t4):n4 (X w0 n) w0 n R σ t4:=E1 (S:=A7) (by kernel_rfl) @h
theorem b0_eq:b0 Z w0 n R σ s suffix=(
 B1 (decide (((List.length (s:List UInt8):Int):Int)≥(List.length (suffix:List UInt8):Int))) (opt (G7 σ B3 ti9.td (.pv (.str s)) (some (.pv (.int .i64 (IntKind.wrap .i64 ((List.length (s:List UInt8):Int)-(List.length (suffix:List UInt8):Int)))))) none) fun t17=>isS t17 fun t17_1=>n4 Z w0 n R σ ((t17_1:List UInt8)==suffix)) (n4 Z w0 n R σ false)):=by kernel_rfl
theorem calls(h:b0 (X w0 (List.length σ)) w0 (List.length σ) R σ s suffix):A2 (cx w0) H7.id [(.pv (.str s)),(.pv (.str suffix))] σ R:=
 D0 (I4 w0) (x:=fe) (S:=A7) (H7.ok w0) (by kernel_rfl) @h
attribute [irreducible] n4 b4 b0
end H7
namespace L3
def lvs:List (List Nat):=[[0,1],[0,1],[0,1],[0,1],[0,1],[0,1,12],[0],[0],[4],[0,1],[0,1],[0,1],[0,1],[0,1,21],[0,1],[0,1],[4],[0,1],[0,1],[0,1],[0,1],[0,1,5,6],[0,1,5,6],[0,1,5,34],[0,5],[0,5],[4],[0,1],[0,1],[0,1],[4]]
def lv:Nat→List Nat:=J8 lvs
noncomputable def code:Code:=F0 Tryz.f167
noncomputable def fe:FE:=⟨Tryz.f167,code,lv⟩
def A7:List Nat:=[5,13]
abbrev X(w0:B4)(n:Nat):XT:=xr (cx w0) 43 lv n
theorem ok(w0:B4):FOK (cx w0) L3.id fe:=⟨Tryz.func167,by kernel_rfl,by kernel_rfl⟩
section
variable (Z:XT)(w0:B4)(n:Nat)(R:RT)(σ:A1)(s cutset:List UInt8)(t12 t21:Bool)
def q3:QT:=F2 (fun env σ=>A5 (cx w0) 43 lv n A7 Z (cAt code 10) 10 (prune (lv 10) env) σ (B9 (cx w0) Tryz.f167 n R)) (B9 (cx w0) Tryz.f167 n R)
def q11:QT:=F2 (fun env σ=>A5 (cx w0) 43 lv n A7 Z (cAt code 18) 18 (prune (lv 18) env) σ (B9 (cx w0) Tryz.f167 n R)) (B9 (cx w0) Tryz.f167 n R)
def n5:Prop:=
 Z (cAt code 5) 5 [(0,(.pv (.str s))),(1,(.pv (.str cutset))),(12,(.pv (.bool t12)))] σ (q3 Z w0 n R)
def b5:Prop:=
 A5 (cx w0) 43 lv n A7 Z (cAt code 5) 5 [(0,(.pv (.str s))),(1,(.pv (.str cutset))),(12,(.pv (.bool t12)))] σ (q3 Z w0 n R)
def n13:Prop:=
 Z (cAt code 13) 13 [(0,(.pv (.str s))),(1,(.pv (.str cutset))),(21,(.pv (.bool t21)))] σ (q11 Z w0 n R)
def b13:Prop:=
 A5 (cx w0) 43 lv n A7 Z (cAt code 13) 13 [(0,(.pv (.str s))),(1,(.pv (.str cutset))),(21,(.pv (.bool t21)))] σ (q11 Z w0 n R)
def b0:Prop:=
 A5 (cx w0) 43 lv n A7 Z code 0 (H3 0 [(.pv (.str s)),(.pv (.str cutset))]) σ (B9 (cx w0) Tryz.f167 n R)
end
variable {Z:XT}{w0:B4}{n:Nat}{R:RT}{σ τ:A1}{s cutset:List UInt8}{t12 t21:Bool}
theorem b5_eq:b5 Z w0 n R σ s cutset t12=(
 B1 t12 (D9 (cx w0) n (.pv (.str s)) σ R) (B1 (((List.length (cutset:List UInt8):Int):Int)==1) (opt (L7 B3 ti9.td (.pv (.str cutset)) 0) fun t19=>isI .u8 t19 fun t19_1=>n13 Z w0 n R σ s cutset (decide ((t19_1:Int)<128))) (n13 Z w0 n R σ s cutset false))):=by kernel_rfl
theorem n5_in(h:b5 (X w0 n) w0 n R σ s cutset t12):n5 (X w0 n) w0 n R σ s cutset t12:=E1 (S:=A7) (by kernel_rfl) @h
theorem b13_eq:b13 Z w0 n R σ s cutset t21=(
 B1 t21 (opt (L7 B3 ti9.td (.pv (.str cutset)) 0) fun t24=>isI .u8 t24 fun t24_1=>opt (L7 B3 ti9.td (.pv (.str cutset)) 0) fun t27=>isI .u8 t27 fun t27_1=>A2 (cx w0) strings_trimRightByte.id [(.pv (.str s)),(.pv (.int .u8 t24_1))] σ fun r σ'=>isS r fun t25=>A2 (cx w0) M5.id [(.pv (.str t25)),(.pv (.int .u8 t27_1))] σ' fun r_1 σ'_1=>isS r_1 fun t28=>D9 (cx w0) n (.pv (.str t28)) σ'_1 R) (A2 (cx w0) H0.id [(.pv (.str cutset))] σ fun r σ'=>isTup r fun vs=>opt ((vs)[0]?) fun t32=>isTup r fun vs_1=>opt ((vs_1)[1]?) fun t33=>isB t33 fun t33_1=>opt (C2 (σ' ++ [.cells 178 (AV.ofValue ti178.zero).cells]) ti178 (.ptr (List.length σ') 0) t32) fun σ'_1=>B1 t33_1 (A2 (cx w0) F3.id [(.pv (.str s)),(.ptr (List.length σ') 0)] σ'_1 fun r_1 σ'_2=>isS r_1 fun t36=>A2 (cx w0) B8.id [(.pv (.str t36)),(.ptr (List.length σ') 0)] σ'_2 fun r_2 σ'_3=>isS r_2 fun t37=>D9 (cx w0) n (.pv (.str t37)) σ'_3 R) (A2 (cx w0) strings_trimRightUnicode.id [(.pv (.str s)),(.pv (.str cutset))] σ'_1 fun r_1 σ'_2=>isS r_1 fun t40=>A2 (cx w0) strings_trimLeftUnicode.id [(.pv (.str t40)),(.pv (.str cutset))] σ'_2 fun r_2 σ'_3=>isS r_2 fun t42=>D9 (cx w0) n (.pv (.str t42)) σ'_3 R))):=by kernel_rfl
theorem n13_in(h:b13 (X w0 n) w0 n R σ s cutset t21):n13 (X w0 n) w0 n R σ s cutset t21:=E1 (S:=A7) (by kernel_rfl) @h
theorem b0_eq:b0 Z w0 n R σ s cutset=(
 B1 ((s:List UInt8) == []) (n5 Z w0 n R σ s cutset true) (n5 Z w0 n R σ s cutset ((cutset:List UInt8) == []))):=by kernel_rfl
theorem calls(h:b0 (X w0 (List.length σ)) w0 (List.length σ) R σ s cutset):A2 (cx w0) L3.id [(.pv (.str s)),(.pv (.str cutset))] σ R:=
 D0 (I4 w0) (x:=fe) (S:=A7) (L3.ok w0) (by kernel_rfl) @h
attribute [irreducible] n5 b5 n13 b13 b0
end L3
namespace F3
def lvs:List (List Nat):=[[0,1],[0,1],[0,1],[0,1],[0,1],[0,1],[0,1],[0,1],[0,1,7],[0,1],[0],[0,1],[0,1],[0,1],[0,1],[0,1,15],[0],[0,1],[0,1],[0],[0],[4]]
def lv:Nat→List Nat:=J8 lvs
noncomputable def code:Code:=F0 Tryz.f187
noncomputable def fe:FE:=⟨Tryz.f187,code,lv⟩
def A7:List Nat:=[5,19]
abbrev X(w0:B4)(n:Nat):XT:=xr (cx w0) 22 lv n
theorem ok(w0:B4):FOK (cx w0) F3.id fe:=⟨Tryz.func187,by kernel_rfl,by kernel_rfl⟩
section
variable (Z:XT)(w0:B4)(n:Nat)(R:RT)(σ:A1)(s:List UInt8)(as_:AV)
def q3:QT:=F2 (fun env σ=>Z (cAt code 19) 19 (prune (lv 19) env) σ (B9 (cx w0) Tryz.f187 n R)) (B9 (cx w0) Tryz.f187 n R)
def q4:QT:=I3 0 (q3 Z w0 n R)
def q5:QT:=F2 (fun env σ=>Z (cAt code 4) 4 (prune (lv 4) env) σ (q4 Z w0 n R)) (q4 Z w0 n R)
def n4:Prop:=
 Z (cAt code 4) 4 [(0,(.pv (.str s))),(1,as_)] σ (q4 Z w0 n R)
def b5:Prop:=
 A5 (cx w0) 22 lv n A7 Z (cAt code 5) 5 [(0,(.pv (.str s))),(1,as_)] σ (q5 Z w0 n R)
def n19:Prop:=
 Z (cAt code 19) 19 [(0,(.pv (.str s)))] σ (B9 (cx w0) Tryz.f187 n R)
def b19:Prop:=
 A5 (cx w0) 22 lv n A7 Z (cAt code 19) 19 [(0,(.pv (.str s)))] σ (B9 (cx w0) Tryz.f187 n R)
def b0:Prop:=
 A5 (cx w0) 22 lv n A7 Z code 0 (H3 0 [(.pv (.str s)),as_]) σ (B9 (cx w0) Tryz.f187 n R)
end
variable {Z:XT}{w0:B4}{n:Nat}{R:RT}{σ τ:A1}{s s':List UInt8}{as_ as_':AV}
theorem n4_in(h:b5 (X w0 n) w0 n R σ s as_):n4 (X w0 n) w0 n R σ s as_:=J9 (I4 w0) (S:=A7) (by kernel_rfl:cAt code 4 = .loop (cAt code 5)) @h
theorem b5_eq:b5 Z w0 n R σ s as_=(
 B1 (decide (((List.length (s:List UInt8):Int):Int)>0)) (opt (L7 B3 ti9.td (.pv (.str s)) (IntKind.wrap .i64 ((List.length (s:List UInt8):Int)-1))) fun t13=>isI .u8 t13 fun t13_1=>A2 (cx w0) E0.id [as_,(.pv (.int .u8 t13_1))] σ fun r σ'=>isB r fun t14=>B1 (!t14) (n19 Z w0 n R σ' s) (opt (G7 σ' B3 ti9.td (.pv (.str s)) none (some (.pv (.int .i64 (IntKind.wrap .i64 ((List.length (s:List UInt8):Int)-1)))))) fun t20=>isS t20 fun t20_1=>n4 Z w0 n R σ' t20_1 as_)) (n19 Z w0 n R σ s)):=by kernel_rfl
theorem b19_eq:b19 Z w0 n R σ s=(
 D9 (cx w0) n (.pv (.str s)) σ R):=by kernel_rfl
theorem n19_in(h:b19 (X w0 n) w0 n R σ s):n19 (X w0 n) w0 n R σ s:=E1 (S:=A7) (by kernel_rfl) @h
theorem b0_eq:b0 Z w0 n R σ s as_=(
 n4 Z w0 n R σ s as_):=by kernel_rfl
theorem calls(h:b0 (X w0 (List.length σ)) w0 (List.length σ) R σ s as_):A2 (cx w0) F3.id [(.pv (.str s)),as_] σ R:=
 D0 (I4 w0) (x:=fe) (S:=A7) (F3.ok w0) (by kernel_rfl) @h
attribute [irreducible] n4 b5 n19 b19 b0
end F3
end Go.Sv
end
section
namespace Go.Sv
open Go Go.Proofs
namespace H0
def lvs:List (List Nat):=[[0],[0],[0,2],[0,2],[0,2],[0,2,4],[0,2,4],[0,2,4],[0,2,4],[0,2,4],[0,2,4,9],[0,2,4],[2],[0,2,4],[0,2,4],[0,2,4],[0,2,4],[0,2,4,5],[0,2,4,5],[0,2,4,5],[0,2,4,5,16],[2],[2],[2,3],[0,2,4,5],[0,2,4,5],[0,2,4],[2],[2],[2,3]]
def lv:Nat→List Nat:=J8 lvs
noncomputable def code:Code:=F0 Tryz.f110
noncomputable def fe:FE:=⟨Tryz.f110,code,lv⟩
theorem ok(w0:B4):FOK (cx w0) H0.id fe:=⟨Tryz.func110,by kernel_rfl,by kernel_rfl⟩
end H0
namespace E0
def lvs:List (List Nat):=[[0,1],[0,1],[0,1],[0,1],[4]]
def lv:Nat→List Nat:=J8 lvs
noncomputable def code:Code:=F0 Tryz.f147
noncomputable def fe:FE:=⟨Tryz.f147,code,lv⟩
theorem ok(w0:B4):FOK (cx w0) E0.id fe:=⟨Tryz.func147,by kernel_rfl,by kernel_rfl⟩
end E0
end Go.Sv
end
section
namespace Go.Sv
attribute [local irreducible] A5 V7 xr
open Go Go.Proofs
namespace O9
def lvs:List (List Nat):=[[0,1],[0,1],[0,1,4,5],[0,1,4,5],[4,5,6,7,8,9]]
def lv:Nat→List Nat:=J8 lvs
noncomputable def code:Code:=F0 Tryz.f62
noncomputable def fe:FE:=⟨Tryz.f62,code,lv⟩
theorem ok(w0:B4):FOK (cx w0) O9.id fe:=⟨Tryz.func62,by kernel_rfl,by kernel_rfl⟩
end O9
end Go.Sv
end
section
namespace Go.Sv
open Go Go.RowKit Go.Shelf Go.Proofs
theorem vb{w0:B4}{σ:A1}{R:AV→A1→Prop}{s:List UInt8}{c:UInt8}(hR:R (.pv (.int .i64 (Lib.indexByte s c))) σ):A2 (cx w0) bytealg_IndexByteString.id [.pv (.str s),.pv (.int .u8 c.toNat)] σ R:=
 A2.prim fun m K w vs hB hv=>by
  obtain ⟨x,y,rfl,hx,hy⟩:=hv.two
  obtain rfl:=hx.str_inv
  obtain rfl:=hy.int_inv
  have h1:=run_callFunc_extern (e:=Extern.BytealgIndexByte.indexByte) Tryz.func131 (by kernel_rfl) (by kernel_rfl) (by kernel_rfl) (by kernel_rfl) #[.string ⟨s.toArray⟩,.int .u8 (c.toNat:Int)] w
  rw[Lib.run_indexByteString,show ((c.toNat:Int)).toNat.toUInt8=c by simp] at h1
  exact ⟨_,_,w,h1,Below.refl _ _,.pv _ _ (.int _ _),hR⟩
theorem pxIndexByte_ok{w0:B4}:POK (cx w0) bytealg_IndexByteString.id bx:=by
 intro args σ r σ' h R hR
 unfold bx at h
 split at h
 ·rename_i s n
  split at h
  ·rename_i hc
   simp only[Bool.and_eq_true,decide_eq_true_eq] at hc
   cases h
   have e:((UInt8.ofNat n.toNat).toNat:Int)=n:=by rw[UInt8.toNat_ofNat'];omega
   have:=vb (w0:=w0) (s:=s) (c:=UInt8.ofNat n.toNat) hR
   rw[e] at this
   exact this
  ·cases h
 ·cases h
def lu:List (FuncId×(List AV→A1→Option (AV×A1))):=(bytealg_IndexByteString.id,bx)::prims
theorem primsX_ok{w0:B4}(L:Laid w0.w):PsOK (cx w0) lu:=⟨pxIndexByte_ok,prims_ok L⟩
theorem er{w0:B4}(L:Laid w0.w){T:List (FuncId×FE)}(hT:oc (cx w0) T){depth fuel:Nat}{f:FuncId}{args:List AV}{σ:A1}{r:AV}{σ':A1}(h:ey (cx w0) (jl T) (au lu) depth fuel f args σ=some (r,σ')){R:AV→A1→Prop}(hR:R r σ'):A2 (cx w0) f args σ R:=
 (qy fuel (I4 w0) (cxG w0) (qz T hT) (rn L fun w1 L1=>primsX_ok L1)).here f args σ r σ' h R hR
end Go.Sv
end
section
namespace Go.Proofs
open Go.Shelf
def Tryz.lays172_ren:Go.Shelf.Ren:=⟨fun|172=>124|244=>156|245=>157|247=>173|279=>174|280=>175|281=>176|282=>177|287=>189|316=>190|171=>82|205=>191|321=>199|322=>200|243=>126|246=>158|283=>178|284=>179|285=>180|286=>181|129=>193|317=>192|318=>194|319=>195|320=>196|337=>201|338=>202|n=>n,fun|9=>9|3=>3|75=>24|76=>69|4=>4|5=>5|167=>238|37=>95|0=>0|85=>239|2=>2|168=>241|53=>245|175=>256|46=>236|210=>259|127=>232|145=>271|143=>269|21=>21|171=>244|173=>248|212=>262|51=>263|20=>20|213=>264|232=>273|233=>274|80=>104|n=>n,fun|15=>4|16=>5|17=>6|18=>7|19=>8|n=>n⟩
theorem Tryz.lays172:Go.Proofs.Lays.n172 Tryz.prog Tryz.lays172_ren:={
 mixed:=by kernel_rfl
 f129:=Tryz.func193.trans (congrArg some (by kernel_rfl))
 f171:=Tryz.func82.trans (congrArg some (by kernel_rfl))
 f172:=Tryz.func124.trans (congrArg some (by kernel_rfl))
 f205:=Tryz.func191.trans (congrArg some (by kernel_rfl))
 f243:=Tryz.func126.trans (congrArg some (by kernel_rfl))
 f244:=Tryz.func156.trans (congrArg some (by kernel_rfl))
 f245:=Tryz.func157.trans (congrArg some (by kernel_rfl))
 f246:=Tryz.func158.trans (congrArg some (by kernel_rfl))
 f247:=Tryz.func173.trans (congrArg some (by kernel_rfl))
 f279:=Tryz.func174.trans (congrArg some (by kernel_rfl))
 f280:=Tryz.func175.trans (congrArg some (by kernel_rfl))
 f281:=Tryz.func176.trans (congrArg some (by kernel_rfl))
 f282:=Tryz.func177.trans (congrArg some (by kernel_rfl))
 f283:=Tryz.func178.trans (congrArg some (by kernel_rfl))
 f284:=Tryz.func179.trans (congrArg some (by kernel_rfl))
 f285:=Tryz.func180.trans (congrArg some (by kernel_rfl))
 f286:=Tryz.func181.trans (congrArg some (by kernel_rfl))
 f287:=Tryz.func189.trans (congrArg some (by kernel_rfl))
 f316:=Tryz.func190.trans (congrArg some (by kernel_rfl))
 f317:=Tryz.func192.trans (congrArg some (by kernel_rfl))
 f318:=Tryz.func194.trans (congrArg some (by kernel_rfl))
 f319:=Tryz.func195.trans (congrArg some (by kernel_rfl))
 f320:=Tryz.func196.trans (congrArg some (by kernel_rfl))
 f321:=Tryz.func199.trans (congrArg some (by kernel_rfl))
 f322:=Tryz.func200.trans (congrArg some (by kernel_rfl))
 f337:=Tryz.func201.trans (congrArg some (by kernel_rfl))
 f338:=Tryz.func202.trans (congrArg some (by kernel_rfl))
 t0:=Tryz.underlying0
 a0:=Tryz.isAgg0
 z0:=Tryz.sizeOf0
 v0:=Tryz.zeroValue0
 t2:=Tryz.underlying2
 a2:=Tryz.isAgg2
 z2:=Tryz.sizeOf2
 v2:=Tryz.zeroValue2
 t3:=Tryz.underlying3
 a3:=Tryz.isAgg3
 z3:=Tryz.sizeOf3
 v3:=Tryz.zeroValue3
 t4:=Tryz.underlying4
 a4:=Tryz.isAgg4
 z4:=Tryz.sizeOf4
 v4:=Tryz.zeroValue4
 t5:=Tryz.underlying5
 a5:=Tryz.isAgg5
 z5:=Tryz.sizeOf5
 v5:=Tryz.zeroValue5
 t9:=Tryz.underlying9
 a9:=Tryz.isAgg9
 z9:=Tryz.sizeOf9
 v9:=Tryz.zeroValue9
 t20:=Tryz.underlying20
 a20:=Tryz.isAgg20
 z20:=Tryz.sizeOf20
 v20:=Tryz.zeroValue20
 t21:=Tryz.underlying21
 a21:=Tryz.isAgg21
 z21:=Tryz.sizeOf21
 v21:=Tryz.zeroValue21
 t37:=Tryz.underlying95
 a37:=Tryz.isAgg95
 z37:=Tryz.sizeOf95
 v37:=Tryz.zeroValue95
 t46:=Tryz.underlying236
 a46:=Tryz.isAgg236
 z46:=Tryz.sizeOf236
 v46:=Tryz.zeroValue236
 t51:=Tryz.underlying263
 a51:=Tryz.isAgg263
 z51:=Tryz.sizeOf263
 v51:=Tryz.zeroValue263
 t53:=Tryz.underlying245
 a53:=Tryz.isAgg245
 z53:=Tryz.sizeOf245
 v53:=Tryz.zeroValue245
 t75:=Tryz.underlying24
 a75:=Tryz.isAgg24
 z75:=Tryz.sizeOf24
 v75:=Tryz.zeroValue24
 t76:=Tryz.underlying69
 a76:=Tryz.isAgg69
 z76:=Tryz.sizeOf69
 v76:=Tryz.zeroValue69
 t85:=Tryz.underlying239
 a85:=Tryz.isAgg239
 z85:=Tryz.sizeOf239
 v85:=Tryz.zeroValue239
 t127:=Tryz.underlying232
 a127:=Tryz.isAgg232
 z127:=Tryz.sizeOf232
 v127:=Tryz.zeroValue232
 t143:=Tryz.underlying269
 a143:=Tryz.isAgg269
 z143:=Tryz.sizeOf269
 v143:=Tryz.zeroValue269
 t145:=Tryz.underlying271
 a145:=Tryz.isAgg271
 z145:=Tryz.sizeOf271
 v145:=Tryz.zeroValue271
 t167:=Tryz.underlying238
 a167:=Tryz.isAgg238
 z167:=Tryz.sizeOf238
 v167:=Tryz.zeroValue238
 t168:=Tryz.underlying241
 a168:=Tryz.isAgg241
 z168:=Tryz.sizeOf241
 v168:=Tryz.zeroValue241
 t171:=Tryz.underlying244
 a171:=Tryz.isAgg244
 z171:=Tryz.sizeOf244
 v171:=Tryz.zeroValue244
 t173:=Tryz.underlying248
 a173:=Tryz.isAgg248
 z173:=Tryz.sizeOf248
 v173:=Tryz.zeroValue248
 t175:=Tryz.underlying256
 a175:=Tryz.isAgg256
 z175:=Tryz.sizeOf256
 v175:=Tryz.zeroValue256
 t210:=Tryz.underlying259
 a210:=Tryz.isAgg259
 z210:=Tryz.sizeOf259
 v210:=Tryz.zeroValue259
 t212:=Tryz.underlying262
 a212:=Tryz.isAgg262
 z212:=Tryz.sizeOf262
 v212:=Tryz.zeroValue262
 t213:=Tryz.underlying264
 a213:=Tryz.isAgg264
 z213:=Tryz.sizeOf264
 t232:=Tryz.underlying273
 a232:=Tryz.isAgg273
 z232:=Tryz.sizeOf273
 v232:=Tryz.zeroValue273
 t233:=Tryz.underlying274
 a233:=Tryz.isAgg274
 z233:=Tryz.sizeOf274
 v233:=Tryz.zeroValue274
 g15:=by kernel_rfl
 g16:=by kernel_rfl
 g17:=by kernel_rfl
 g18:=by kernel_rfl
 g19:=by kernel_rfl }
open Go.RowKit in
theorem Tryz.strconv_Atoi(s:ByteArray)(n:Int)(hl:s.size≤18)(h:Lib.atoi s.data.toList=some n)(w:World):
  Calls Tryz.prog 124 #[.string s] w fun e w'=>e = .returned (.tuple #[.int .i64 n,.nilIface]) ∧ ∃t,w'=Lib.bytesWorld w 5 t:=Any.strconv_Atoi Tryz.lays172 s n hl h w
def Tryz.laysC172_ren:Go.Shelf.Ren:=⟨fun|172=>124|244=>156|245=>157|247=>173|279=>174|280=>175|281=>176|282=>177|287=>189|316=>190|171=>82|205=>191|321=>199|322=>200|243=>126|246=>158|283=>178|284=>179|285=>180|286=>181|129=>193|317=>192|318=>194|319=>195|320=>196|337=>201|338=>202|n=>n,fun|9=>9|3=>3|75=>24|76=>69|4=>4|5=>5|167=>238|37=>95|0=>0|85=>239|2=>2|168=>241|53=>245|175=>256|46=>236|210=>259|127=>232|145=>271|143=>269|21=>21|171=>244|173=>248|212=>262|51=>263|20=>20|213=>264|232=>273|233=>274|80=>104|n=>n,fun|15=>4|16=>5|17=>6|18=>7|19=>8|n=>n⟩
theorem Tryz.laysC172:Go.Proofs.LaysC.n172 Tryz.prog Tryz.laysC172_ren:={
 mixed:=by kernel_rfl
 f129:=Tryz.func193.trans (congrArg some (by kernel_rfl))
 f171:=Tryz.func82.trans (congrArg some (by kernel_rfl))
 f172:=Tryz.func124.trans (congrArg some (by kernel_rfl))
 f205:=Tryz.func191.trans (congrArg some (by kernel_rfl))
 f243:=Tryz.func126.trans (congrArg some (by kernel_rfl))
 f244:=Tryz.func156.trans (congrArg some (by kernel_rfl))
 f245:=Tryz.func157.trans (congrArg some (by kernel_rfl))
 f246:=Tryz.func158.trans (congrArg some (by kernel_rfl))
 f247:=Tryz.func173.trans (congrArg some (by kernel_rfl))
 f279:=Tryz.func174.trans (congrArg some (by kernel_rfl))
 f280:=Tryz.func175.trans (congrArg some (by kernel_rfl))
 f281:=Tryz.func176.trans (congrArg some (by kernel_rfl))
 f282:=Tryz.func177.trans (congrArg some (by kernel_rfl))
 f283:=Tryz.func178.trans (congrArg some (by kernel_rfl))
 f284:=Tryz.func179.trans (congrArg some (by kernel_rfl))
 f285:=Tryz.func180.trans (congrArg some (by kernel_rfl))
 f286:=Tryz.func181.trans (congrArg some (by kernel_rfl))
 f287:=Tryz.func189.trans (congrArg some (by kernel_rfl))
 f316:=Tryz.func190.trans (congrArg some (by kernel_rfl))
 f317:=Tryz.func192.trans (congrArg some (by kernel_rfl))
 f318:=Tryz.func194.trans (congrArg some (by kernel_rfl))
 f319:=Tryz.func195.trans (congrArg some (by kernel_rfl))
 f320:=Tryz.func196.trans (congrArg some (by kernel_rfl))
 f321:=Tryz.func199.trans (congrArg some (by kernel_rfl))
 f322:=Tryz.func200.trans (congrArg some (by kernel_rfl))
 f337:=Tryz.func201.trans (congrArg some (by kernel_rfl))
 f338:=Tryz.func202.trans (congrArg some (by kernel_rfl))
 t0:=Tryz.underlying0
 a0:=Tryz.isAgg0
 z0:=Tryz.sizeOf0
 v0:=Tryz.zeroValue0
 t2:=Tryz.underlying2
 a2:=Tryz.isAgg2
 z2:=Tryz.sizeOf2
 v2:=Tryz.zeroValue2
 t3:=Tryz.underlying3
 a3:=Tryz.isAgg3
 z3:=Tryz.sizeOf3
 v3:=Tryz.zeroValue3
 t4:=Tryz.underlying4
 a4:=Tryz.isAgg4
 z4:=Tryz.sizeOf4
 v4:=Tryz.zeroValue4
 t5:=Tryz.underlying5
 a5:=Tryz.isAgg5
 z5:=Tryz.sizeOf5
 v5:=Tryz.zeroValue5
 t9:=Tryz.underlying9
 a9:=Tryz.isAgg9
 z9:=Tryz.sizeOf9
 v9:=Tryz.zeroValue9
 t20:=Tryz.underlying20
 a20:=Tryz.isAgg20
 z20:=Tryz.sizeOf20
 v20:=Tryz.zeroValue20
 t21:=Tryz.underlying21
 a21:=Tryz.isAgg21
 z21:=Tryz.sizeOf21
 v21:=Tryz.zeroValue21
 t37:=Tryz.underlying95
 a37:=Tryz.isAgg95
 z37:=Tryz.sizeOf95
 v37:=Tryz.zeroValue95
 t46:=Tryz.underlying236
 a46:=Tryz.isAgg236
 z46:=Tryz.sizeOf236
 v46:=Tryz.zeroValue236
 t51:=Tryz.underlying263
 a51:=Tryz.isAgg263
 z51:=Tryz.sizeOf263
 v51:=Tryz.zeroValue263
 t53:=Tryz.underlying245
 a53:=Tryz.isAgg245
 z53:=Tryz.sizeOf245
 v53:=Tryz.zeroValue245
 t75:=Tryz.underlying24
 a75:=Tryz.isAgg24
 z75:=Tryz.sizeOf24
 v75:=Tryz.zeroValue24
 t76:=Tryz.underlying69
 a76:=Tryz.isAgg69
 z76:=Tryz.sizeOf69
 v76:=Tryz.zeroValue69
 t85:=Tryz.underlying239
 a85:=Tryz.isAgg239
 z85:=Tryz.sizeOf239
 v85:=Tryz.zeroValue239
 t127:=Tryz.underlying232
 a127:=Tryz.isAgg232
 z127:=Tryz.sizeOf232
 v127:=Tryz.zeroValue232
 t143:=Tryz.underlying269
 a143:=Tryz.isAgg269
 z143:=Tryz.sizeOf269
 v143:=Tryz.zeroValue269
 t145:=Tryz.underlying271
 a145:=Tryz.isAgg271
 z145:=Tryz.sizeOf271
 v145:=Tryz.zeroValue271
 t167:=Tryz.underlying238
 a167:=Tryz.isAgg238
 z167:=Tryz.sizeOf238
 v167:=Tryz.zeroValue238
 t168:=Tryz.underlying241
 a168:=Tryz.isAgg241
 z168:=Tryz.sizeOf241
 v168:=Tryz.zeroValue241
 t171:=Tryz.underlying244
 a171:=Tryz.isAgg244
 z171:=Tryz.sizeOf244
 v171:=Tryz.zeroValue244
 t173:=Tryz.underlying248
 a173:=Tryz.isAgg248
 z173:=Tryz.sizeOf248
 v173:=Tryz.zeroValue248
 t175:=Tryz.underlying256
 a175:=Tryz.isAgg256
 z175:=Tryz.sizeOf256
 v175:=Tryz.zeroValue256
 t210:=Tryz.underlying259
 a210:=Tryz.isAgg259
 z210:=Tryz.sizeOf259
 v210:=Tryz.zeroValue259
 t212:=Tryz.underlying262
 a212:=Tryz.isAgg262
 z212:=Tryz.sizeOf262
 v212:=Tryz.zeroValue262
 t213:=Tryz.underlying264
 a213:=Tryz.isAgg264
 z213:=Tryz.sizeOf264
 t232:=Tryz.underlying273
 a232:=Tryz.isAgg273
 z232:=Tryz.sizeOf273
 v232:=Tryz.zeroValue273
 t233:=Tryz.underlying274
 a233:=Tryz.isAgg274
 z233:=Tryz.sizeOf274
 v233:=Tryz.zeroValue274
 g15:=by kernel_rfl
 g16:=by kernel_rfl
 g17:=by kernel_rfl
 g18:=by kernel_rfl
 g19:=by kernel_rfl
 t80:=Tryz.underlying104
 a80:=Tryz.isAgg104
 z80:=Tryz.sizeOf104
 v80:=Tryz.zeroValue104
 i0:=by kernel_rfl
 i2:=by kernel_rfl
 i3:=by kernel_rfl
 i4:=by kernel_rfl
 i5:=by kernel_rfl
 i9:=by kernel_rfl
 i20:=by kernel_rfl
 i21:=by kernel_rfl
 i37:=by kernel_rfl
 i46:=by kernel_rfl
 i51:=by kernel_rfl
 i53:=by kernel_rfl
 i75:=by kernel_rfl
 i76:=by kernel_rfl
 i80:=by kernel_rfl
 i85:=by kernel_rfl
 i127:=by kernel_rfl
 i143:=by kernel_rfl
 i145:=by kernel_rfl
 i167:=by kernel_rfl
 i168:=by kernel_rfl
 i171:=by kernel_rfl
 i173:=by kernel_rfl
 i175:=by kernel_rfl
 i210:=by kernel_rfl
 i212:=by kernel_rfl
 i232:=by kernel_rfl
 i233:=by kernel_rfl
 m15:=by kernel_rfl
 m16:=by kernel_rfl
 m17:=by kernel_rfl
 m18:=by kernel_rfl
 m19:=by kernel_rfl
 c0:=by kernel_rfl
 c2:=by kernel_rfl
 c3:=by kernel_rfl
 c4:=by kernel_rfl
 c5:=by kernel_rfl
 c9:=by kernel_rfl
 c20:=by kernel_rfl
 c21:=by kernel_rfl
 c37:=by kernel_rfl
 c46:=by kernel_rfl
 c51:=by kernel_rfl
 c53:=by kernel_rfl
 c75:=by kernel_rfl
 c76:=by kernel_rfl
 c80:=by kernel_rfl
 c85:=by kernel_rfl
 c127:=by kernel_rfl
 c143:=by kernel_rfl
 c145:=by kernel_rfl
 c167:=by kernel_rfl
 c168:=by kernel_rfl
 c171:=by kernel_rfl
 c173:=by kernel_rfl
 c175:=by kernel_rfl
 c210:=by kernel_rfl
 c212:=by kernel_rfl
 c213:=by kernel_rfl
 c232:=by kernel_rfl
 c233:=by kernel_rfl }
open Go.RowKit in
theorem Tryz.strconv_Atoi_ok(s:ByteArray)(hmax:s.size≤9223372036854775806)(v:Int)(h:Lib.atoiAll s.data.toList = .ok v)(w:World):
  Calls Tryz.prog 124 #[.string s] w fun e w'=>e = .returned (.tuple #[.int .i64 v,.nilIface])∧(w'=w ∨ ∃t,w'=Lib.bytesWorld w 5 t):=Any.strconv_Atoi_ok Tryz.laysC172 s hmax v h w
def Tryz.lays161_ren:Go.Shelf.Ren:=⟨fun|161=>70|231=>109|227=>110|233=>111|235=>112|228=>147|197=>148|151=>149|260=>172|152=>145|137=>53|119=>169|224=>170|225=>171|217=>88|266=>131|n=>n,fun|9=>9|4=>4|3=>3|5=>5|117=>179|116=>178|0=>0|124=>182|105=>226|21=>21|119=>252|46=>236|139=>255|138=>254|n=>n,fun|3=>2|4=>3|n=>n⟩
theorem Tryz.lays161:Go.Proofs.Lays.n161 Tryz.prog Tryz.lays161_ren:={
 mixed:=by kernel_rfl
 f119:=Tryz.func169.trans (congrArg some (by kernel_rfl))
 f137:=Tryz.func53.trans (congrArg some (by kernel_rfl))
 f151:=Tryz.func149.trans (congrArg some (by kernel_rfl))
 f152:=Tryz.func145.trans (congrArg some (by kernel_rfl))
 f161:=Tryz.func70.trans (congrArg some (by kernel_rfl))
 f197:=Tryz.func148.trans (congrArg some (by kernel_rfl))
 f217:=Tryz.func88.trans (congrArg some (by kernel_rfl))
 f224:=Tryz.func170.trans (congrArg some (by kernel_rfl))
 f225:=Tryz.func171.trans (congrArg some (by kernel_rfl))
 f227:=Tryz.func110.trans (congrArg some (by kernel_rfl))
 f228:=Tryz.func147.trans (congrArg some (by kernel_rfl))
 f231:=Tryz.func109.trans (congrArg some (by kernel_rfl))
 f233:=Tryz.func111.trans (congrArg some (by kernel_rfl))
 f235:=Tryz.func112.trans (congrArg some (by kernel_rfl))
 f260:=Tryz.func172.trans (congrArg some (by kernel_rfl))
 f266:=Tryz.func131.trans (congrArg some (by kernel_rfl))
 t0:=Tryz.underlying0
 a0:=Tryz.isAgg0
 z0:=Tryz.sizeOf0
 v0:=Tryz.zeroValue0
 t3:=Tryz.underlying3
 a3:=Tryz.isAgg3
 z3:=Tryz.sizeOf3
 v3:=Tryz.zeroValue3
 t4:=Tryz.underlying4
 a4:=Tryz.isAgg4
 z4:=Tryz.sizeOf4
 v4:=Tryz.zeroValue4
 t5:=Tryz.underlying5
 a5:=Tryz.isAgg5
 z5:=Tryz.sizeOf5
 v5:=Tryz.zeroValue5
 t9:=Tryz.underlying9
 a9:=Tryz.isAgg9
 z9:=Tryz.sizeOf9
 v9:=Tryz.zeroValue9
 t21:=Tryz.underlying21
 a21:=Tryz.isAgg21
 z21:=Tryz.sizeOf21
 v21:=Tryz.zeroValue21
 t46:=Tryz.underlying236
 a46:=Tryz.isAgg236
 z46:=Tryz.sizeOf236
 v46:=Tryz.zeroValue236
 t105:=Tryz.underlying226
 a105:=Tryz.isAgg226
 z105:=Tryz.sizeOf226
 v105:=Tryz.zeroValue226
 t116:=Tryz.underlying178
 a116:=Tryz.isAgg178
 z116:=Tryz.sizeOf178
 t117:=Tryz.underlying179
 a117:=Tryz.isAgg179
 z117:=Tryz.sizeOf179
 v117:=Tryz.zeroValue179
 t119:=Tryz.underlying252
 a119:=Tryz.isAgg252
 z119:=Tryz.sizeOf252
 t124:=Tryz.underlying182
 a124:=Tryz.isAgg182
 z124:=Tryz.sizeOf182
 v124:=Tryz.zeroValue182
 t138:=Tryz.underlying254
 a138:=Tryz.isAgg254
 z138:=Tryz.sizeOf254
 v138:=Tryz.zeroValue254
 t139:=Tryz.underlying255
 a139:=Tryz.isAgg255
 z139:=Tryz.sizeOf255
 v139:=Tryz.zeroValue255
 g3:=by kernel_rfl
 g4:=by kernel_rfl }
open Go.RowKit in
theorem Tryz.strings_TrimLeft_one(s:ByteArray)(c:UInt8)(hc:c.toNat<128)(w:World):
  Calls Tryz.prog 70 #[.string s,.string ⟨#[c]⟩] w fun e w'=>e = .returned (.string ⟨(Lib.trimLeftB s.data.toList c).toArray⟩)∧w'=w:=Any.strings_TrimLeft_one Tryz.lays161 s c hc w
def Tryz.lays219_ren:Go.Shelf.Ren:=⟨fun|219=>161|217=>88|225=>171|224=>170|267=>184|266=>131|314=>197|n=>n,fun|9=>9|3=>3|4=>4|5=>5|46=>236|146=>266|51=>263|n=>n,fun|1=>1|n=>n⟩
theorem Tryz.lays219:Go.Proofs.Lays.n219 Tryz.prog Tryz.lays219_ren:={
 mixed:=by kernel_rfl
 f217:=Tryz.func88.trans (congrArg some (by kernel_rfl))
 f219:=Tryz.func161.trans (congrArg some (by kernel_rfl))
 f224:=Tryz.func170.trans (congrArg some (by kernel_rfl))
 f225:=Tryz.func171.trans (congrArg some (by kernel_rfl))
 f266:=Tryz.func131.trans (congrArg some (by kernel_rfl))
 f267:=Tryz.func184.trans (congrArg some (by kernel_rfl))
 f314:=Tryz.func197.trans (congrArg some (by kernel_rfl))
 t3:=Tryz.underlying3
 a3:=Tryz.isAgg3
 z3:=Tryz.sizeOf3
 v3:=Tryz.zeroValue3
 t4:=Tryz.underlying4
 a4:=Tryz.isAgg4
 z4:=Tryz.sizeOf4
 v4:=Tryz.zeroValue4
 t5:=Tryz.underlying5
 a5:=Tryz.isAgg5
 z5:=Tryz.sizeOf5
 v5:=Tryz.zeroValue5
 t9:=Tryz.underlying9
 a9:=Tryz.isAgg9
 z9:=Tryz.sizeOf9
 v9:=Tryz.zeroValue9
 t46:=Tryz.underlying236
 a46:=Tryz.isAgg236
 z46:=Tryz.sizeOf236
 v46:=Tryz.zeroValue236
 t51:=Tryz.underlying263
 a51:=Tryz.isAgg263
 z51:=Tryz.sizeOf263
 v51:=Tryz.zeroValue263
 t146:=Tryz.underlying266
 a146:=Tryz.isAgg266
 z146:=Tryz.sizeOf266
 v146:=Tryz.zeroValue266
 g1:=by kernel_rfl }
open Go.RowKit Go.Lib in
theorem Tryz.stringslite_Index_one(s:ByteArray)(c:UInt8)(w:World):
  Calls Tryz.prog 161 #[.string s,.string ⟨#[c]⟩] w fun e w'=>e = .returned (.int .i64 (Lib.indexByte s.data.toList c))∧w'=w:=Any.stringslite_Index_one Tryz.lays219 s c w
def Tryz.lays156_ren:Go.Shelf.Ren:=⟨fun|156=>83|165=>127|166=>128|169=>129|240=>159|241=>160|276=>182|277=>183|n=>n,fun|31=>63|9=>9|3=>3|4=>4|0=>0|20=>20|72=>210|76=>69|70=>208|37=>95|75=>24|127=>232|164=>130|5=>5|80=>104|n=>n,fun|n=>n⟩
theorem Tryz.lays156:Go.Proofs.Lays.n156 Tryz.prog Tryz.lays156_ren:={
 mixed:=by kernel_rfl
 f156:=Tryz.func83.trans (congrArg some (by kernel_rfl))
 f165:=Tryz.func127.trans (congrArg some (by kernel_rfl))
 f166:=Tryz.func128.trans (congrArg some (by kernel_rfl))
 f169:=Tryz.func129.trans (congrArg some (by kernel_rfl))
 f240:=Tryz.func159.trans (congrArg some (by kernel_rfl))
 f241:=Tryz.func160.trans (congrArg some (by kernel_rfl))
 f276:=Tryz.func182.trans (congrArg some (by kernel_rfl))
 f277:=Tryz.func183.trans (congrArg some (by kernel_rfl))
 t0:=Tryz.underlying0
 a0:=Tryz.isAgg0
 z0:=Tryz.sizeOf0
 v0:=Tryz.zeroValue0
 t3:=Tryz.underlying3
 a3:=Tryz.isAgg3
 z3:=Tryz.sizeOf3
 v3:=Tryz.zeroValue3
 t4:=Tryz.underlying4
 a4:=Tryz.isAgg4
 z4:=Tryz.sizeOf4
 v4:=Tryz.zeroValue4
 t9:=Tryz.underlying9
 a9:=Tryz.isAgg9
 z9:=Tryz.sizeOf9
 v9:=Tryz.zeroValue9
 t20:=Tryz.underlying20
 a20:=Tryz.isAgg20
 z20:=Tryz.sizeOf20
 v20:=Tryz.zeroValue20
 t31:=Tryz.underlying63
 a31:=Tryz.isAgg63
 z31:=Tryz.sizeOf63
 v31:=Tryz.zeroValue63
 t37:=Tryz.underlying95
 a37:=Tryz.isAgg95
 z37:=Tryz.sizeOf95
 v37:=Tryz.zeroValue95
 t70:=Tryz.underlying208
 a70:=Tryz.isAgg208
 z70:=Tryz.sizeOf208
 v70:=Tryz.zeroValue208
 t72:=Tryz.underlying210
 a72:=Tryz.isAgg210
 z72:=Tryz.sizeOf210
 v72:=Tryz.zeroValue210
 t75:=Tryz.underlying24
 a75:=Tryz.isAgg24
 z75:=Tryz.sizeOf24
 v75:=Tryz.zeroValue24
 t76:=Tryz.underlying69
 a76:=Tryz.isAgg69
 z76:=Tryz.sizeOf69
 v76:=Tryz.zeroValue69
 t127:=Tryz.underlying232
 a127:=Tryz.isAgg232
 z127:=Tryz.sizeOf232
 v127:=Tryz.zeroValue232
 t164:=Tryz.underlying130
 a164:=Tryz.isAgg130
 z164:=Tryz.sizeOf130
 v164:=Tryz.zeroValue130 }
theorem Tryz.Builder_Extra_156:Builder.Extra Tryz.prog Tryz.lays156_ren:={
 sizeBuilder:=by kernel_rfl
 liesBuilder:=by kernel_rfl
 t5:=Tryz.underlying5
 a5:=Tryz.isAgg5
 z5:=Tryz.sizeOf5
 v5:=Tryz.zeroValue5
 infoByte:=by kernel_rfl
 cellsByte:=by kernel_rfl
 sizeByte:=by kernel_rfl
 neB5:=by decide }
open Go.RowKit in
theorem Tryz.strings_Join_none(a:Option Addr)(c:Nat)(sep:ByteArray)(w:World):
  Calls Tryz.prog 83 #[.slice a 0 c,.string sep] w fun e w'=>e = .returned (.string ⟨#[]⟩)∧w'=w:=Any.strings_Join_none Tryz.lays156 Tryz.Builder_Extra_156 a c sep w
open Go.RowKit in
theorem Tryz.strings_Join(bk o c:Nat)(xs:List ByteArray)(sep:ByteArray)(w:World)(hcells:∀(j:Nat) x,xs[j]? = some x→w.cell? ⟨bk,o+j,none⟩=some (.string x))(hbk:bk<w.heap.size)(hN:xs.length≤140737488355328)(hcap:xs.length≤c)(hlen:(Lib.join (xs.map (·.data.toList)) sep.data.toList).length≤140737488355328):
  Calls Tryz.prog 83 #[.slice (some ⟨bk,o,none⟩) xs.length c,.string sep] w fun e w'=>e = .returned (.string ⟨(Lib.join (xs.map (·.data.toList)) sep.data.toList).toArray⟩)∧Below w.heap.size w w':=Any.strings_Join Tryz.lays156 Tryz.Builder_Extra_156 bk o c xs sep w hcells hbk hN hcap hlen
end Go.Proofs
end
