/- What the code of Go functions comes to over abstract stores, piece by piece; each equation by the kernel. Printed by a program of this session. A patch's lines with their counts put right: headers and rows, on both sides. A patch's lines with their counts put right: headers and rows, the document's side. Numbers at a text's beginning, on both sides; a hunk's first line. A hunk's first line: what the document's side answers. A hunk's first line: what the program's side answers. -/
import Derived.Test.YtgdnoobpnhmpjaaGreatDoorSvT
import Derived.KernelRfl
import Derived.Test.YtgdnoobpnhmpjaaGreatDoorSmG
import Derived.Test.YtgdnoobpnhmpjaaGreatDoorUnU
import Derived.Lib.Strings
import Derived.Test.YtgdnoobpnhmpjaaGreatDoorSmI
import Derived.Test.YtgdnoobpnhmpjaaGreatDoorCxT
import Derived.Lib.IndexBytes
import Derived.Test.YtgdnoobpnhmpjaaGreatDoorHk
set_option linter.unusedVariables false
set_option maxRecDepth 100000
set_option linter.unusedSimpArgs false
section
namespace Go.Sv
open Go Go.Proofs
namespace N5
def lvs:List (List Nat):=[[0,1,2],[0,1,2],[0,1,2],[0,1,2],[0,1,2],[0,1,2,12],[],[],[6],[0,1,2],[0,1,2],[0,1,2],[8],[8],[6]]
def lv:Nat→List Nat:=J8 lvs
noncomputable def code:Code:=F0 Tryz.f52
noncomputable def fe:FE:=⟨Tryz.f52,code,lv⟩
def A7:List Nat:=[]
abbrev X(w0:B4)(n:Nat):XT:=xr (cx w0) 23 lv n
theorem ok(w0:B4):FOK (cx w0) N5.id fe:=⟨Tryz.func52,by kernel_rfl,by kernel_rfl⟩
section
variable (Z:XT)(w0:B4)(n:Nat)(R:RT)(σ:A1)(l_:AV)(at_:Int)(with_:List UInt8)
def b0:Prop:=
 A5 (cx w0) 23 lv n A7 Z code 0 (H3 0 [l_,(.pv (.int .i64 at_)),(.pv (.str with_))]) σ (B9 (cx w0) Tryz.f52 n R)
end
variable {Z:XT}{w0:B4}{n:Nat}{R:RT}{σ τ:A1}{l_:AV}{at_:Int}{with_:List UInt8}
theorem b0_eq:b0 Z w0 n R σ l_ at_ with_=(
 opt (R5 J7.td l_) fun t11=>isI .i64 t11 fun t11_1=>B1 (decide ((at_:Int)≥t11_1)) (D9 (cx w0) n (.pv (.bool false)) σ R) (opt (D1 σ B3 J7.td l_ at_) fun t16=>opt (A6 σ ti9 t16) fun t17=>isS t17 fun t17_1=>A2 (cx w0) I5.id [(.pv (.str t17_1)),(.pv (.str with_))] σ fun r σ'=>isTup r fun vs=>opt ((vs)[0]?) fun t20=>isS t20 fun t20_1=>isTup r fun vs_1=>opt ((vs_1)[1]?) fun t21=>isB t21 fun t21_1=>D9 (cx w0) n (.pv (.bool t21_1)) σ' R)):=by kernel_rfl
theorem calls(h:b0 (X w0 (List.length σ)) w0 (List.length σ) R σ l_ at_ with_):A2 (cx w0) N5.id [l_,(.pv (.int .i64 at_)),(.pv (.str with_))] σ R:=
 D0 (I4 w0) (x:=fe) (S:=A7) (N5.ok w0) (by kernel_rfl) @h
attribute [irreducible] b0
end N5
namespace nn
variable {Z:XT}{w0:B4}{n:Nat}{R:RT}{σ τ:A1}{s t4 line:List UInt8}{ok t5:Bool}{a b t2 t3:Int}
end nn
namespace nw
variable {Z:XT}{w0:B4}{n:Nat}{R:RT}{σ τ:A1}{s:List UInt8}{ok:Bool}
end nw
namespace ql
variable {Z:XT}{w0:B4}{n:Nat}{R:RT}{σ τ:A1}{a n_:Int}
end ql
namespace pz
variable {Z:XT}{w0:B4}{n:Nat}{R:RT}{σ τ:A1}{l_ l_':AV}{at_ n_ m c at_' n_' m':Int}{t22 t45 t55 t67:Bool}
end pz
namespace lh
variable {Z:XT}{w0:B4}{n:Nat}{R:RT}{σ τ:A1}{l_ out l_' out':AV}{in_ t38 t86 in_':Bool}{at_ a b end_ at_':Int}{H8 line text:List UInt8}
end lh
namespace I5
def lvs:List (List Nat):=[[0,1],[0,1],[0,1],[0,1],[0,1],[0,1,18],[],[],[4,5],[0,1],[0,1],[0,1],[4,5]]
def lv:Nat→List Nat:=J8 lvs
noncomputable def code:Code:=F0 Tryz.f84
noncomputable def fe:FE:=⟨Tryz.f84,code,lv⟩
def A7:List Nat:=[5]
abbrev X(w0:B4)(n:Nat):XT:=xr (cx w0) 23 lv n
theorem ok(w0:B4):FOK (cx w0) I5.id fe:=⟨Tryz.func84,by kernel_rfl,by kernel_rfl⟩
section
variable (Z:XT)(w0:B4)(n:Nat)(R:RT)(σ:A1)(s with_:List UInt8)(t18:Bool)
def q3:QT:=F2 (fun env σ=>A5 (cx w0) 23 lv n A7 Z (cAt code 10) 10 (prune (lv 10) env) σ (B9 (cx w0) Tryz.f84 n R)) (B9 (cx w0) Tryz.f84 n R)
def n5:Prop:=
 Z (cAt code 5) 5 [(0,(.pv (.str s))),(1,(.pv (.str with_))),(18,(.pv (.bool t18)))] σ (q3 Z w0 n R)
def b5:Prop:=
 A5 (cx w0) 23 lv n A7 Z (cAt code 5) 5 [(0,(.pv (.str s))),(1,(.pv (.str with_))),(18,(.pv (.bool t18)))] σ (q3 Z w0 n R)
def b0:Prop:=
 A5 (cx w0) 23 lv n A7 Z code 0 (H3 0 [(.pv (.str s)),(.pv (.str with_))]) σ (B9 (cx w0) Tryz.f84 n R)
end
variable {Z:XT}{w0:B4}{n:Nat}{R:RT}{σ τ:A1}{s with_:List UInt8}{t18:Bool}
theorem b5_eq:b5 Z w0 n R σ s with_ t18=(
 B1 t18 (D9 (cx w0) n (.tup [(.pv (.str [])),(.pv (.bool false))]) σ R) (opt (G7 σ B3 ti9.td (.pv (.str s)) (some (.pv (.int .i64 (List.length (with_:List UInt8):Int)))) none) fun t22=>isS t22 fun t22_1=>D9 (cx w0) n (.tup [(.pv (.str t22_1)),(.pv (.bool true))]) σ R)):=by kernel_rfl
theorem n5_in(h:b5 (X w0 n) w0 n R σ s with_ t18):n5 (X w0 n) w0 n R σ s with_ t18:=E1 (S:=A7) (by kernel_rfl) @h
theorem b0_eq:b0 Z w0 n R σ s with_=(
 B1 (decide (((List.length (s:List UInt8):Int):Int)<(List.length (with_:List UInt8):Int))) (n5 Z w0 n R σ s with_ true) (opt (G7 σ B3 ti9.td (.pv (.str s)) none (some (.pv (.int .i64 (List.length (with_:List UInt8):Int))))) fun t15=>isS t15 fun t15_1=>n5 Z w0 n R σ s with_ (!((t15_1:List UInt8)==with_)))):=by kernel_rfl
theorem calls(h:b0 (X w0 (List.length σ)) w0 (List.length σ) R σ s with_):A2 (cx w0) I5.id [(.pv (.str s)),(.pv (.str with_))] σ R:=
 D0 (I4 w0) (x:=fe) (S:=A7) (I5.ok w0) (by kernel_rfl) @h
attribute [irreducible] n5 b5 b0
end I5
namespace nl
variable {Z:XT}{w0:B4}{n:Nat}{R:RT}{σ τ:A1}{s t3 s':List UInt8}{i n_ t2 i' n_':Int}{t22 t4:Bool}
end nl
namespace E2
def lvs:List (List Nat):=[[0],[0],[0],[0],[0,3],[0,3],[0,3,4],[0,3,4],[0,3,4],[0,3,4,5],[0,3,4,5],[0,3,4,5],[0,3,4,5],[0,3,4,5],[0,3,4,5,9],[0,3,4,5],[0,3,4],[0,3,4,5],[0,3,4,5],[0,3,4,5],[0,3,4,5],[0,3,4,5,15],[0,3,4,5],[0,3,4,5],[0,3,5],[0,3,4,5],[0,3,4,5],[0,3,4],[0,3,4],[0,3,4],[0,3,4,29],[0,3,4],[3],[3],[3],[2]]
def lv:Nat→List Nat:=J8 lvs
noncomputable def code:Code:=F0 Tryz.f31
noncomputable def fe:FE:=⟨Tryz.f31,code,lv⟩
def A7:List Nat:=[11,26,27,33]
abbrev X(w0:B4)(n:Nat):XT:=xr (cx w0) 37 lv n
theorem ok(w0:B4):FOK (cx w0) E2.id fe:=⟨Tryz.func31,by kernel_rfl,by kernel_rfl⟩
section
variable (Z:XT)(w0:B4)(n:Nat)(R:RT)(σ:A1)(s:List UInt8)(out:AV)(from_ i:Int)
def q7:QT:=F2 (fun env σ=>Z (cAt code 27) 27 (prune (lv 27) env) σ (B9 (cx w0) Tryz.f31 n R)) (B9 (cx w0) Tryz.f31 n R)
def q10:QT:=I3 0 (q7 Z w0 n R)
def q11:QT:=F2 (fun env σ=>Z (cAt code 10) 10 (prune (lv 10) env) σ (q10 Z w0 n R)) (q10 Z w0 n R)
def n10:Prop:=
 Z (cAt code 10) 10 [(0,(.pv (.str s))),(3,out),(4,(.pv (.int .i64 from_))),(5,(.pv (.int .i64 i)))] σ (q10 Z w0 n R)
def b11:Prop:=
 A5 (cx w0) 37 lv n A7 Z (cAt code 11) 11 [(0,(.pv (.str s))),(3,out),(4,(.pv (.int .i64 from_))),(5,(.pv (.int .i64 i)))] σ (q11 Z w0 n R)
def n26:Prop:=
 Z (cAt code 26) 26 [(0,(.pv (.str s))),(3,out),(4,(.pv (.int .i64 from_))),(5,(.pv (.int .i64 i)))] σ (q11 Z w0 n R)
def b26:Prop:=
 A5 (cx w0) 37 lv n A7 Z (cAt code 26) 26 [(0,(.pv (.str s))),(3,out),(4,(.pv (.int .i64 from_))),(5,(.pv (.int .i64 i)))] σ (q11 Z w0 n R)
def n27:Prop:=
 Z (cAt code 27) 27 [(0,(.pv (.str s))),(3,out),(4,(.pv (.int .i64 from_)))] σ (B9 (cx w0) Tryz.f31 n R)
def b27:Prop:=
 A5 (cx w0) 37 lv n A7 Z (cAt code 27) 27 [(0,(.pv (.str s))),(3,out),(4,(.pv (.int .i64 from_)))] σ (B9 (cx w0) Tryz.f31 n R)
def n33:Prop:=
 Z (cAt code 33) 33 [(3,out)] σ (B9 (cx w0) Tryz.f31 n R)
def b33:Prop:=
 A5 (cx w0) 37 lv n A7 Z (cAt code 33) 33 [(3,out)] σ (B9 (cx w0) Tryz.f31 n R)
def b0:Prop:=
 A5 (cx w0) 37 lv n A7 Z code 0 (H3 0 [(.pv (.str s))]) σ (B9 (cx w0) Tryz.f31 n R)
end
variable {Z:XT}{w0:B4}{n:Nat}{R:RT}{σ τ:A1}{s s':List UInt8}{out out':AV}{from_ i from_' i':Int}
theorem n10_in(h:b11 (X w0 n) w0 n R σ s out from_ i):n10 (X w0 n) w0 n R σ s out from_ i:=J9 (I4 w0) (S:=A7) (by kernel_rfl:cAt code 10 = .loop (cAt code 11)) @h
theorem n10_weak(e:N2 (cx w0) n [(0,(.pv (.str s))),(3,out),(4,(.pv (.int .i64 from_))),(5,(.pv (.int .i64 i)))] σ [(0,(.pv (.str s'))),(3,out'),(4,(.pv (.int .i64 from_'))),(5,(.pv (.int .i64 i')))] τ)(h:n10 (X w0 n) w0 n R τ s' out' from_' i'):n10 (X w0 n) w0 n R σ s out from_ i:=U3 (L:=lv) (k:=10) (by kernel_rfl:cAt code 10 = .loop (cAt code 11)) @e @h
theorem b11_eq:b11 Z w0 n R σ s out from_ i=(
 B1 (decide ((i:Int)<(List.length (s:List UInt8):Int))) (opt (L7 B3 ti9.td (.pv (.str s)) i) fun t14=>isI .u8 t14 fun t14_1=>B1 ((t14_1:Int)==10) (opt (G7 σ B3 ti9.td (.pv (.str s)) (some (.pv (.int .i64 from_))) (some (.pv (.int .i64 (IntKind.wrap .i64 (i+1)))))) fun t21=>isS t21 fun t21_1=>opt2 (H9 σ ti9 false 1 [(0,(.pv (.str t21_1)))]) fun t22 σ'=>opt2 (L0 σ' ti9 out t22) fun t23 σ'_1=>n26 Z w0 n R σ'_1 s t23 (IntKind.wrap .i64 (i+1)) i) (n26 Z w0 n R σ s out from_ i)) (n27 Z w0 n R σ s out from_)):=by kernel_rfl
theorem b26_eq:b26 Z w0 n R σ s out from_ i=(
 n10 Z w0 n R σ s out from_ (IntKind.wrap .i64 (i+1))):=by kernel_rfl
theorem n26_in(h:b26 (X w0 n) w0 n R σ s out from_ i):n26 (X w0 n) w0 n R σ s out from_ i:=E1 (S:=A7) (by kernel_rfl) @h
theorem b27_eq:b27 Z w0 n R σ s out from_=(
 B1 (decide ((from_:Int)<(List.length (s:List UInt8):Int))) (opt (G7 σ B3 ti9.td (.pv (.str s)) (some (.pv (.int .i64 from_))) none) fun t33=>isS t33 fun t33_1=>opt2 (H9 σ ti9 false 1 [(0,(.pv (.str t33_1)))]) fun t34 σ'=>opt2 (L0 σ' ti9 out t34) fun t35 σ'_1=>n33 Z w0 n R σ'_1 t35) (n33 Z w0 n R σ out)):=by kernel_rfl
theorem n27_in(h:b27 (X w0 n) w0 n R σ s out from_):n27 (X w0 n) w0 n R σ s out from_:=E1 (S:=A7) (by kernel_rfl) @h
theorem b33_eq:b33 Z w0 n R σ out=(
 D9 (cx w0) n out σ R):=by kernel_rfl
theorem n33_in(h:b33 (X w0 n) w0 n R σ out):n33 (X w0 n) w0 n R σ out:=E1 (S:=A7) (by kernel_rfl) @h
theorem b0_eq:b0 Z w0 n R σ s=(
 n10 Z w0 n R σ s .nilsl 0 0):=by kernel_rfl
theorem calls(h:b0 (X w0 (List.length σ)) w0 (List.length σ) R σ s):A2 (cx w0) E2.id [(.pv (.str s))] σ R:=
 D0 (I4 w0) (x:=fe) (S:=A7) (E2.ok w0) (by kernel_rfl) @h
attribute [irreducible] n10 b11 n26 b26 n27 b27 n33 b33 b0
end E2
namespace px
variable {Z:XT}{w0:B4}{n:Nat}{R:RT}{σ τ:A1}{l_ b l_' b':AV}{i i':Int}
end px
namespace re
variable {Z:XT}{w0:B4}{n:Nat}{R:RT}{σ τ:A1}{line:List UInt8}
end re
end Go.Sv
end
section
namespace Go.Sv
abbrev Ln:=List UInt8
abbrev oldM:Ln:=[45,45,45,32]
abbrev newM:Ln:=[43,43,43,32]
def headF:List Ln→Bool
 | a::b::_=>Lib.hasPrefix a oldM&&Lib.hasPrefix b newM
 | _=>false
def om(o f:Nat)(x:Nat×Nat×Nat):Nat×Nat×Nat:=(x.1+1,x.2.1+o,x.2.2+f)
def Z3:List Ln→Nat×Nat×Nat
 | []=>(0,0,0)
 | l::r=>if headF (l::r)=true then (0,0,0) else match l.head? with
  | some c=>if c=32∨c=10 then om 1 1 (Z3 r) else if c=45 then om 1 0 (Z3 r) else if c=43 then om 0 1 (Z3 r) else if c=92 then om 0 0 (Z3 r) else (0,0,0)
  | none=>(0,0,0)
def ci(s w:Ln):Option Ln:=if Lib.hasPrefix s w=true then some (s.drop w.length) else none
open Go Go.RowKit Go.Proofs
abbrev im(L:List Ln):PV:=.sl (L.map .str)
section
variable {w0:B4}{σ:A1}{R:AV→A1→Prop}
theorem Q5{s:Ln}{k:Nat}(h:k≤s.length):G7 σ B3 ti9.td (.pv (.str s)) none (some (.pv (.int .i64 (k:Int))))=some (.pv (.str (s.take k))):=by
 show (if (0:Int)≤0∧(0:Int)≤(k:Int)∧(k:Int)≤((s.length:Nat):Int) then some (AV.pv (.str ((s.take (k:Int).toNat).drop (0:Int).toNat))) else none)=_
 rw[if_pos (by omega)]
 simp
theorem F5{s:Ln}{k:Nat}(h:k≤s.length):G7 σ B3 ti9.td (.pv (.str s)) (some (.pv (.int .i64 (k:Int)))) none=some (.pv (.str (s.drop k))):=by
 show (if (0:Int)≤(k:Int)∧(k:Int)≤((s.length:Nat):Int)∧((s.length:Nat):Int)≤((s.length:Nat):Int) then some (AV.pv (.str ((s.take ((s.length:Nat):Int).toNat).drop (k:Int).toNat))) else none)=_
 rw[if_pos (by omega)]
 simp
theorem gg{i k n off len:Nat}{ks:List Ln}{fz:Bool}(ho:σ[i]? = some (.arr 1 (ks.map PV.str) fz))(hn:ks.length=n)(hk:k<len):D1 σ B3 J7.td (.arr i n off len) (k:Int)=some (.eptr i n (off+k) 0):=
 eh (es:=1) ju ho hk rfl (by rw[List.length_map];exact hn)
theorem Z1{i n:Nat}{ks:List Ln}{fz:Bool}(ho:σ[i]? = some (.arr 1 (ks.map PV.str) fz))(hn:ks.length=n){j:Nat}{s:Ln}(hj:ks[j]? = some s):A6 σ ti9 (.eptr i n j 0)=some (.pv (.str s)):=by
 have hg:(ks.map PV.str)[j]? = some (.str s):=by rw[List.getElem?_map,hj];rfl
 have hv:(ks.map PV.str).length=n:=by rw[List.length_map];exact hn
 simp only[A6,ho,if_pos hv,hg]
 rfl
theorem header_spec{i n off len:Nat}{ks:List Ln}{fz:Bool}(ho:σ[i]? = some (.arr 1 (ks.map PV.str) fz))(hn:ks.length=n)(hl:off+len=n)(hR:R (.pv (.bool (headF (ks.drop off)))) σ):A2 (cx w0) stream_header.id [.arr i n off len] σ R:=by
 have fin:∀q,q=headF (ks.drop off)→stream_header.n4 (stream_header.X w0 σ.length) w0 σ.length R σ q:=by
  rintro q rfl
  refine stream_header.n4_in ?_
  rw[stream_header.b4_eq]
  exact D5 hR
 refine stream_header.calls ?_
 rw[stream_header.b0_eq]
 refine A0 (v:=.pv (.int .i64 (len:Nat))) rfl (G2 ?_)
 rw[B0]
 refine B5 (fun g=>?_) (fun g=>fin _ ?_)
 ·have g0:ks[off]? = some (ks[off]'(by omega)):=List.getElem?_eq_getElem _
  have g1:ks[off+1]? = some (ks[off+1]'(by omega)):=List.getElem?_eq_getElem _
  generalize ks[off]'(by omega)=a at g0
  generalize ks[off+1]'(by omega)=b at g1
  have e:headF (ks.drop off)=(Lib.hasPrefix a oldM&&Lib.hasPrefix b newM):=by
   have h0:(ks.drop off)[0]? = some a:=by rw[List.getElem?_drop];exact g0
   have h1:(ks.drop off)[1]? = some b:=by rw[List.getElem?_drop];exact g1
   match hd:ks.drop off with
   | []=>rw[hd] at h0;simp at h0
   | [x]=>rw[hd] at h1;simp at h1
   | x::y::r=>
    rw[hd] at h0 h1
    simp only[List.getElem?_cons_zero,List.getElem?_cons_succ,Option.some.injEq] at h0 h1
    subst h0;subst h1;rfl
  refine A0 (gg (k:=0) ho hn (by omega)) ?_
  refine A0 (Z1 ho hn g0) (F4 ?_)
  refine O3 (E5 ?_)
  refine A4 (fun q=>?_) (fun q=>fin _ ?_)
  ·refine A0 (gg (k:=1) ho hn (by omega)) ?_
   refine A0 (Z1 ho hn g1) (F4 ?_)
   refine O3 (E5 (fin _ ?_))
   rw[e,q,Bool.true_and]
  ·rw[e,q,Bool.false_and]
 ·match hd:ks.drop off with
  | []=>rfl
  | [x]=>rfl
  | x::y::r=>
   have:=congrArg List.length hd
   rw[List.length_drop] at this
   simp only[List.length_cons] at this
   omega
theorem ln_cut{i k n off len:Nat}{ks:List Ln}{fz:Bool}(ho:σ[i]? = some (.arr 1 (ks.map PV.str) fz))(hn:ks.length=n)(hk:k≤len):G7 σ B3 J7.td (.arr i n off len) (some (.pv (.int .i64 (k:Int)))) none=some (.arr i n (off+k) (len-k)):=by
 show (if (0:Int)≤(k:Int)∧(k:Int)≤((len:Nat):Int)∧((len:Nat):Int)≤((len:Nat):Int) then (match B3 9,σ[i]? with
  | some ei,some (.arr es xs _)=>if xs.length=n∧es=ei.size then some (AV.arr i n (off+(k:Int).toNat) (((len:Nat):Int)-(k:Int)).toNat) else none
  | _,_=>none) else none)=_
 rw[if_pos (by omega),ho,ju]
 simp only
 rw[if_pos ⟨by rw[List.length_map];exact hn,rfl⟩,Int.toNat_natCast,show (((len:Nat):Int)-(k:Int)).toNat=len-k by omega]
abbrev rw6(w0:B4)(R:AV→A1→Prop)(σ:A1)(l:AV)(k o f:Nat):Prop:=stream_rows.n6 (stream_rows.X w0 σ.length) w0 σ.length R σ l k o f
theorem mt{i n off len:Nat}{ks:List Ln}{fz:Bool}(ho:σ[i]? = some (.arr 1 (ks.map PV.str) fz))(hn:ks.length=n)(hl:off+len=n)(hne:∀l∈ks,l ≠ [])(hb:n≤8388608):∀(q k o f:Nat),k+q=len→o≤k→f≤k →
  (∀ x,x=Z3 (ks.drop (off+k))→R (.tup [.pv (.int .i64 ((k+x.1:Nat):Int)),.pv (.int .i64 ((o+x.2.1:Nat):Int)),.pv (.int .i64 ((f+x.2.2:Nat):Int))]) σ)→rw6 w0 R σ (.arr i n off len) k o f
 | 0,k,o,f,hk,h1,h2,hR=>by
  have e:ks.drop (off+k) = []:=List.drop_eq_nil_of_le (by omega)
  have hR':=hR (0,0,0) (by rw[e];rfl)
  refine stream_rows.n6_in ?_
  rw[stream_rows.b7_eq]
  refine A0 (v:=.pv (.int .i64 (len:Nat))) rfl (G2 ?_)
  rw[B0,if_neg (by omega)]
  refine stream_rows.n10_in ?_
  rw[stream_rows.b10_eq,C3]
  refine stream_rows.n44_in ?_
  rw[stream_rows.b44_eq]
  exact D5 hR'
 | q+1,k,o,f,hk,h1,h2,hR=>by
  have hlt:off+k<ks.length:=by omega
  have gl:ks[off+k]? = some ks[off+k]:=List.getElem?_eq_getElem hlt
  have hd:ks.drop (off+k)=ks[off+k]::ks.drop (off+k+1):=List.drop_eq_getElem_cons hlt
  generalize ks[off+k]=l at gl hd
  have hnil:=hne l (List.mem_of_getElem? gl)
  obtain ⟨c,r0,rfl⟩:∃c r0,l=c::r0:=by
   cases l with
   | nil=>exact absurd rfl hnil
   | cons c r0=>exact ⟨c,r0,rfl⟩
  have stop:Z3 (ks.drop (off+k))=(0,0,0)→R (.tup [.pv (.int .i64 (k:Nat)),.pv (.int .i64 (o:Nat)),.pv (.int .i64 (f:Nat))]) σ:=fun e=>hR (0,0,0) e.symm
  have next:∀u v,u≤1→v≤1→Z3 (ks.drop (off+k))=om u v (Z3 (ks.drop (off+k+1)))→stream_rows.n43 (stream_rows.X w0 σ.length) w0 σ.length R σ (.arr i n off len) k ((o+u:Nat):Int) ((f+v:Nat):Int):=by
   intro u v hu hv e
   refine stream_rows.n43_in ?_
   rw[stream_rows.b43_eq,K6 (n:=len) (by omega) (by omega)]
   refine mt ho hn hl hne hb q (k+1) (o+u) (f+v) (by omega) (by omega) (by omega) fun x hx=>?_
   have:=hR _ e.symm
   rw[show off+(k+1)=off+k+1 by omega] at hx
   subst hx
   simp only[om] at this
   rw[show k+((Z3 (ks.drop (off+k+1))).1+1)=k+1+(Z3 (ks.drop (off+k+1))).1 by omega,show o+((Z3 (ks.drop (off+k+1))).2.1+u)=o+u+(Z3 (ks.drop (off+k+1))).2.1 by omega,show f+((Z3 (ks.drop (off+k+1))).2.2+v)=f+v+(Z3 (ks.drop (off+k+1))).2.2 by omega] at this
   exact this
  refine stream_rows.n6_in ?_
  rw[stream_rows.b7_eq]
  refine A0 (v:=.pv (.int .i64 (len:Nat))) rfl (G2 ?_)
  rw[B0,if_pos (by omega)]
  refine A0 (ln_cut ho hn (by omega)) ?_
  refine header_spec ho hn (by omega) (E5 ?_)
  refine stream_rows.n10_in ?_
  rw[stream_rows.b10_eq,E9]
  refine A4 (fun g=>?_) (fun g=>?_)
  ·refine stream_rows.n44_in ?_
   rw[stream_rows.b44_eq]
   refine D5 (stop ?_)
   rw[hd] at g ⊢
   unfold Z3;rw[if_pos g]
  ·have hrow:Z3 (ks.drop (off+k))=if c=32∨c=10 then om 1 1 (Z3 (ks.drop (off+k+1))) else if c=45 then om 1 0 (Z3 (ks.drop (off+k+1))) else if c=43 then om 0 1 (Z3 (ks.drop (off+k+1))) else if c=92 then om 0 0 (Z3 (ks.drop (off+k+1))) else (0,0,0):=by
    rw[hd] at g ⊢
    rw[Z3,if_neg (by rw[g];decide)]
    rfl
   have cn:∀d:UInt8,((c.toNat:Int)=(d.toNat:Int))↔c=d:=fun d=>⟨fun h=>UInt8.toNat_inj.1 (by omega),fun h=>by rw[h]⟩
   have w1:∀z:Nat,z≤k→IntKind.wrap .i64 ((z:Int)+1)=((z+1:Nat):Int):=fun z hz=>K6 (n:=16777216) (by omega) (by omega)
   have h24:∀b:Bool,(b=true↔(c=32∨c=10))→stream_rows.n24 (stream_rows.X w0 σ.length) w0 σ.length R σ (.arr i n off len) k o f (c.toNat:Nat) b:=by
    intro b hb'
    refine stream_rows.n24_in ?_
    rw[stream_rows.b24_eq]
    refine A4 (fun g1=>?_) (fun g1=>?_)
    ·rw[w1 o h1,w1 f h2]
     exact next 1 1 (Nat.le_refl _) (Nat.le_refl _) (by rw[hrow,if_pos (hb'.1 g1)])
    ·have n1:¬(c=32∨c=10):=fun h=>by rw[hb'.2 h] at g1;cases g1
     rw[if_neg n1] at hrow
     rw[G6]
     refine B5 (fun g2=>?_) (fun g2=>?_)
     ·rw[if_pos ((cn 45).1 g2)] at hrow
      rw[w1 o h1]
      exact next 1 0 (Nat.le_refl _) (Nat.zero_le _) hrow
     ·rw[if_neg (fun h=>g2 ((cn 45).2 h))] at hrow
      rw[G6]
      refine B5 (fun g3=>?_) (fun g3=>?_)
      ·rw[if_pos ((cn 43).1 g3)] at hrow
       rw[w1 f h2]
       exact next 0 1 (Nat.zero_le _) (Nat.le_refl _) hrow
      ·rw[if_neg (fun h=>g3 ((cn 43).2 h))] at hrow
       rw[G6]
       refine B5 (fun g4=>?_) (fun g4=>?_)
       ·rw[if_pos ((cn 92).1 g4)] at hrow
        exact next 0 0 (Nat.zero_le _) (Nat.zero_le _) hrow
       ·rw[if_neg (fun h=>g4 ((cn 92).2 h))] at hrow
        exact D5 (stop hrow)
   refine A0 (gg (k:=k) ho hn (by omega)) ?_
   refine A0 (Z1 ho hn gl) (F4 ?_)
   refine A0 (M3 (k:=0) (c:=c) rfl) (G2 ?_)
   rw[G6]
   refine B5 (fun g1=>?_) (fun g1=>?_)
   ·refine h24 _ ?_
    rw[beq_iff_eq]
    exact ⟨fun h=>.inl ((cn 32).1 h),fun _=>g1⟩
   ·refine h24 _ ?_
    rw[beq_iff_eq]
    refine ⟨fun h=>.inr ((cn 10).1 h),fun h=>?_⟩
    rcases h with h|h
    ·exact absurd ((cn 32).2 h) g1
    ·exact (cn 10).2 h
theorem rows_spec{i n off len:Nat}{ks:List Ln}{fz:Bool}(ho:σ[i]? = some (.arr 1 (ks.map PV.str) fz))(hn:ks.length=n)(hl:off+len=n)(hne:∀l∈ks,l ≠ [])(hb:n≤8388608)
  (hR:∀x,x=Z3 (ks.drop off)→R (.tup [.pv (.int .i64 (x.1:Nat)),.pv (.int .i64 (x.2.1:Nat)),.pv (.int .i64 (x.2.2:Nat))]) σ):A2 (cx w0) stream_rows.id [.arr i n off len] σ R:=by
 refine stream_rows.calls ?_
 rw[stream_rows.b0_eq]
 refine mt ho hn hl hne hb len 0 0 0 (Nat.zero_add _) (Nat.le_refl _) (Nat.le_refl _) fun x hx=>?_
 rw[Nat.add_zero] at hx
 have:=hR x hx
 rw[Nat.zero_add,Nat.zero_add,Nat.zero_add]
 exact this
end
end Go.Sv
end
section
namespace Go.Sv
open Go Go.RowKit Go.Proofs
def stF(L:List Ln)(k:Nat)(w:Ln):Bool:=match L[k]? with
 | some s=>Lib.hasPrefix s w
 | none=>false
theorem pre_take{s w:Ln}(h:w.length≤s.length):Lib.hasPrefix s w=(s.take w.length==w):=by
 rw[Bool.eq_iff_iff,beq_iff_eq]
 unfold Lib.hasPrefix
 rw[List.isPrefixOf_iff_prefix,List.prefix_iff_eq_take]
 exact ⟨fun h=>h.symm,fun h=>h.symm⟩
theorem vk{s w:Ln}(h:Lib.hasPrefix s w=true):w.length≤s.length:=by
 unfold Lib.hasPrefix at h
 rw[List.isPrefixOf_iff_prefix] at h
 exact h.length_le
def behA(s w:Ln):AV:=match ci s w with
 | some t=>.tup [.pv (.str t),.pv (.bool true)]
 | none=>.tup [.pv (.str []),.pv (.bool false)]
section
variable {w0:B4}{σ:A1}{R:AV→A1→Prop}
theorem Behind_spec{s w:Ln}(hR:R (behA s w) σ):A2 (cx w0) I5.id [.pv (.str s),.pv (.str w)] σ R:=by
 have h5:∀q:Bool,(q=false↔Lib.hasPrefix s w=true)→I5.n5 (I5.X w0 σ.length) w0 σ.length R σ s w q:=by
  intro q hq
  refine I5.n5_in ?_
  rw[I5.b5_eq]
  refine A4 (fun g=>?_) (fun g=>?_)
  ·unfold behA ci at hR
   rw[if_neg (fun h=>by rw[hq.2 h] at g;cases g)] at hR
   exact D5 hR
  ·have hp:=hq.1 g
   unfold behA ci at hR
   rw[if_pos hp] at hR
   refine A0 (F5 (vk hp)) (F4 (D5 hR))
 refine I5.calls ?_
 rw[I5.b0_eq,B0]
 refine B5 (fun g=>?_) (fun g=>?_)
 ·exact h5 true ⟨nofun,fun h=>absurd (vk h) (by omega)⟩
 ·refine A0 (Q5 (by omega)) (F4 (h5 _ ?_))
  rw[pre_take (by omega)]
  simp
theorem V8{L:List Ln}{k:Nat}{w:Ln}(hR:R (.pv (.bool (stF L k w))) σ):A2 (cx w0) N5.id [.pv (im L),.pv (.int .i64 (k:Nat)),.pv (.str w)] σ R:=by
 refine N5.calls ?_
 rw[N5.b0_eq]
 repeat ((with_reducible first|apply A0|apply wI|apply wT|apply wP|apply wS|apply wB);exact rfl)
 rw[List.length_map,B0]
 refine B5 (fun g=>?_) (fun g=>?_)
 ·refine D5 ?_
  unfold stF at hR
  rw[List.getElem?_eq_none (by omega)] at hR
  exact hR
 ·have gl:L[k]? = some (L[k]'(by omega)):=List.getElem?_eq_getElem _
  generalize L[k]'(by omega)=l at gl
  refine A0 (T6 ju (show (L.map PV.str)[k]? = some (PV.str l) by rw[List.getElem?_map,gl];rfl) rfl) ?_
  repeat ((with_reducible first|apply A0|apply wI|apply wT|apply wP|apply wS|apply wB);exact rfl)
  refine Behind_spec ?_
  unfold stF at hR
  rw[gl] at hR
  simp only at hR
  unfold behA ci
  cases hp:Lib.hasPrefix l w with
  | true=>
   rw[if_pos rfl]
   repeat ((with_reducible first|apply A0|apply wI|apply wT|apply wP|apply wS|apply wB);exact rfl)
   rw[hp] at hR
   exact D5 hR
  | false=>
   rw[if_neg (by decide)]
   repeat ((with_reducible first|apply A0|apply wI|apply wT|apply wP|apply wS|apply wB);exact rfl)
   rw[hp] at hR
   exact D5 hR
end
end Go.Sv
end
section
namespace Go.Sv
open Go Go.RowKit Go.Proofs
def P5(c:UInt8):Bool:=decide (48≤c.toNat)&&decide (c.toNat≤57)
def ap(n:Nat):Ln→Nat
 | []=>n
 | c::r=>ap (n*10+(c.toNat-48)) r
abbrev Q2(s:Ln):Ln:=s.takeWhile P5
abbrev H8(s:Ln):Ln:=s.dropWhile P5
def L4(s:Ln):Option (Nat×Ln):=if Q2 s = []∨2147483647<ap 0 (Q2 s) then none else some (ap 0 (Q2 s),H8 s)
def ai(s:Ln):Option (Nat×Ln):=match L4 s with
 | none=>none
 | some (a,t)=>match ci t [44] with
  | none=>some (a,t)
  | some u=>match L4 u with
   | none=>none
   | some (_,v)=>some (a,v)
theorem valD_app(n:Nat)(s t:Ln):ap n (s++t)=ap (ap n s) t:=by
 induction s generalizing n with
 | nil=>rfl
 | cons c s ih=>exact ih _
theorem valD_ge:∀(s:Ln) (n:Nat),n≤ap n s
 | [],n=>Nat.le_refl _
 | c::s,n=>Nat.le_trans (by omega) (valD_ge s (n*10+(c.toNat-48)))
section
variable {w0:B4}{σ:A1}{R:AV→A1→Prop}
theorem qc(s:Ln):(H8 s).length≤s.length:=(List.dropWhile_sublist P5).length_le
theorem fp{s w t:Ln}(h:ci s w=some t):t.length≤s.length:=by
 unfold ci at h
 split at h
 ·cases h;rw[List.length_drop];omega
 ·cases h
theorem numF_len{s t:Ln}{a:Nat}(h:L4 s=some (a,t)):t.length≤s.length:=by
 unfold L4 at h
 split at h
 ·cases h
 ·cases h;exact qc s
end
end Go.Sv
end
section
namespace Go.Sv
open Go Go.RowKit Go.Proofs
def Q4(l:Ln):Option (Nat×Nat×Ln):=match ci (H4 l) [64,64,32,45] with
 | none=>none
 | some s1=>match ai s1 with
  | none=>none
  | some (a,s2)=>match ci s2 [32,43] with
   | none=>none
   | some s3=>match ai s3 with
    | none=>none
    | some (b,s4)=>match ci s4 [32,64,64] with
     | none=>none
     | some s5=>if s5 = []∨s5.head? = some 32 then some (a,b,s5) else none
theorem ml(s:Ln):(H4 s).length≤s.length:=by
 unfold H4
 split
 ·rw[List.length_dropLast];omega
 ·exact Nat.le_refl _
theorem rangeF_len{s t:Ln}{a:Nat}(h:ai s=some (a,t)):t.length≤s.length:=by
 unfold ai at h
 split at h
 ·cases h
 ·rename_i a' t' e
  have l1:=numF_len e
  split at h
  ·cases h;exact l1
  ·rename_i u e2
   have l2:=fp e2
   split at h
   ·cases h
   ·rename_i b v e3
    have l3:=numF_len e3
    cases h;omega
end Go.Sv
end
section
namespace Go.Sv
open Go Go.RowKit Go.Proofs
theorem index_at{b:UInt8}:∀(p t:Ln),(∀ c∈p,c≠b)→Lib.indexByte (p++b::t) b=(p.length:Int)
 | [],t,_=>by simp[Lib.indexByte]
 | c::p,t,h=>by
  have hc:c≠b:=h c (by simp)
  have ih:=index_at p t (fun x hx=>h x (List.mem_cons_of_mem _ hx))
  rw[List.cons_append,Lib.indexByte,beq_false_of_ne hc]
  simp only[Bool.false_eq_true,if_false]
  rw[ih]
  have hb:(((p.length:Nat):Int) == -1)=false:=beq_false_of_ne (by omega)
  rw[hb]
  simp
theorem index_no{b:UInt8}:∀(p:Ln),(∀ c∈p,c≠b)→Lib.indexByte p b = -1
 | [],_=>rfl
 | c::p,h=>by
  have hc:c≠b:=h c (by simp)
  have ih:=index_no p (fun x hx=>h x (List.mem_cons_of_mem _ hx))
  rw[Lib.indexByte,beq_false_of_ne hc]
  simp only[Bool.false_eq_true,if_false]
  rw[ih];rfl
theorem mh(s:Ln):∀c∈Q2 s,P5 c=true:=by
 induction s with
 | nil=>exact nofun
 | cons c s ih=>
  intro d hd
  rw[Q2,List.takeWhile_cons] at hd
  split at hd
  ·rename_i h
   rcases List.mem_cons.1 hd with rfl|hd
   ·exact h
   ·exact ih d hd
  ·cases hd
theorem io{c:UInt8}(h:P5 c=true):48≤c.toNat∧c.toNat≤57:=by
 unfold P5 at h
 rw[Bool.and_eq_true,decide_eq_true_eq,decide_eq_true_eq] at h
 exact h
theorem digs_no(s:Ln):∀c∈Q2 s,c≠44:=by
 intro c hc e
 have:=io (mh s c hc)
 subst e
 have:UInt8.toNat 44=44:=rfl
 omega
theorem mz(s:Ln):Q2 s++H8 s=s:=List.takeWhile_append_dropWhile
theorem parse_val:∀(l:Ln) (acc:Nat),(∀ c∈l,P5 c=true)→ap acc l<9223372036854775808→Lib.parseUint10 acc l = .ok (ap acc l)
 | [],acc,_,_=>rfl
 | c::l,acc,h,hv=>by
  have hc:=io (h c (by simp))
  have hge:=valD_ge l (acc*10+(c.toNat-48))
  have hv':ap (acc*10+(c.toNat-48)) l<9223372036854775808:=hv
  rw[Lib.parseUint10,if_pos hc,if_neg (by omega),if_neg (by omega)]
  exact parse_val l _ (fun x hx=>h x (List.mem_cons_of_mem _ hx)) hv'
theorem atoi_val{l:Ln}(hne:l ≠ [])(h:∀c∈l,P5 c=true)(hv:ap 0 l<9223372036854775808):Lib.atoiAll l = .ok (ap 0 l:Int):=by
 cases l with
 | nil=>exact absurd rfl hne
 | cons c r=>
  have hc:=io (h c (by simp))
  have e1:Lib.parseMag (c::r) = .ok (ap 0 (c::r)):=by
   unfold Lib.parseMag
   rw[if_neg hne]
   exact parse_val _ 0 h hv
  unfold Lib.atoiAll
  simp only
  rw[if_neg (by omega),e1]
  simp only
  rw[if_neg (by omega),if_neg (by omega),if_neg (by omega)]
theorem nb:∀(l:Ln),ap 0 (l.dropWhile (· == 48))=ap 0 l
 | []=>rfl
 | c::l=>by
  rw[List.dropWhile_cons]
  split
  ·rename_i h
   have:c=48:=by simpa using h
   subst this
   rw[nb l];rfl
  ·rfl
theorem valD_pow:∀(l:Ln) (n:Nat),n*10 ^ l.length≤ap n l
 | [],n=>by
  show n*10 ^ 0≤n
  rw[Nat.pow_zero,Nat.mul_one]
  exact Nat.le_refl _
 | c::l,n=>by
  have:=valD_pow l (n*10+(c.toNat-48))
  refine Nat.le_trans ?_ this
  rw[List.length_cons,Nat.pow_succ,Nat.mul_comm (10 ^ l.length) 10,←Nat.mul_assoc]
  exact Nat.mul_le_mul_right _ (by omega)
theorem long_val{l:Ln}(h:∀c∈l,P5 c=true)(hl:10<(l.dropWhile (· == 48)).length):2147483647<ap 0 l:=by
 rw[← nb]
 have hsub:∀c∈l.dropWhile (· == 48),P5 c=true:=fun c hc=>h c ((List.dropWhile_sublist _).subset hc)
 have hnot:=List.head?_dropWhile_not (fun c:UInt8=>c==48) l
 generalize l.dropWhile (· == 48)=m at hl hsub hnot
 cases m with
 | nil=>cases hl
 | cons c r=>
  simp only[List.head?_cons] at hnot
  have hc:=io (hsub c (by simp))
  have hn:c.toNat≠48:=fun e=>by
   have:c=48:=UInt8.toNat_inj.1 (by rw[e];rfl)
   rw[this] at hnot
   simp at hnot
  have h1:=valD_pow r (0*10+(c.toNat-48))
  have h2:(10:Nat) ^ 10≤10 ^ r.length:=Nat.pow_le_pow_right (by decide) (by simp only[List.length_cons] at hl;omega)
  have h3:10 ^ r.length≤(0*10+(c.toNat-48))*10 ^ r.length:=Nat.le_mul_of_pos_left _ (by omega)
  have h4:(10:Nat) ^ 10=10000000000:=rfl
  rw[h4] at h2
  show 2147483647<ap (0*10+(c.toNat-48)) r
  generalize (10:Nat) ^ r.length=Y at h1 h2 h3
  generalize (0*10+(c.toNat-48))*Y=Z at h1 h3
  exact Nat.lt_of_lt_of_le (Nat.lt_of_lt_of_le (by decide) h2) (Nat.le_trans h3 h1)
section
variable {w0:B4}{σ:A1}{R:AV→A1→Prop}
theorem cq{s:Ln}{c:UInt8}(hR:R (.pv (.int .i64 (Lib.indexByte s c))) σ):A2 (cx w0) O0.id [.pv (.str s),.pv (.str [c])] σ R:=
 A2.same (Y2 Tryz.func161 (by kernel_rfl) (by kernel_rfl)) hR fun m K w vs hB hv=>by
  obtain ⟨x,y,rfl,hx,hy⟩:=hv.two
  obtain rfl:=hx.str_inv
  obtain rfl:=hy.str_inv
  exact ⟨_,.pv _ _ (.int _ _),Tryz.stringslite_Index_one ⟨s.toArray⟩ c w⟩
theorem aq{s:Ln}{c:UInt8}(hc:c.toNat<128)(hR:R (.pv (.str (s.dropWhile (· == c)))) σ):A2 (cx w0) F6.id [.pv (.str s),.pv (.str [c])] σ R:=
 A2.same (Y2 Tryz.func70 (by kernel_rfl) (by kernel_rfl)) hR fun m K w vs hB hv=>by
  obtain ⟨x,y,rfl,hx,hy⟩:=hv.two
  obtain rfl:=hx.str_inv
  obtain rfl:=hy.str_inv
  exact ⟨_,.pv _ _ (.str _),Tryz.strings_TrimLeft_one ⟨s.toArray⟩ c hc w⟩
theorem mm{s:Ln}{n:Int}(hl:s.length≤140737488355328)(h:Lib.atoiAll s = .ok n)(hR:R (.tup [.pv (.int .i64 n),.pv (.raw .nilIface)]) σ):A2 (cx w0) strconv_Atoi.id [.pv (.str s)] σ R:=
 A2.below (Y2 Tryz.func124 (by kernel_rfl) (by kernel_rfl)) fun m K w vs hB hv=>by
  obtain ⟨x,rfl,hx⟩:=hv.one
  obtain rfl:=hx.str_inv
  refine (Tryz.strconv_Atoi_ok ⟨s.toArray⟩ (Nat.le_trans (show s.toArray.size≤140737488355328 by simpa using hl) (by decide)) n h w).mono fun e w' ⟨he,hw⟩=>⟨_,_,he,?_,?_,hR⟩
  ·rcases hw with rfl|⟨t,rfl⟩
   ·exact Below.refl _ _
   ·exact Lib.bytesWorld_below _ _ _
  ·refine .tup _ _ rfl (fun j p v hp hv=>?_)
   match j with
   | 0=>simp at hp hv;subst hp;subst hv;exact .pv _ _ (.int _ _)
   | 1=>simp at hp hv;subst hp;subst hv;exact .pv _ _ (.raw _ rfl)
   | j+2=>simp at hp
end
end Go.Sv
end
