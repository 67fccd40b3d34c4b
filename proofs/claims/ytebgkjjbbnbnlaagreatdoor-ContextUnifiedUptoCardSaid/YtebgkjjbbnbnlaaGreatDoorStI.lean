/- Names in quotes: what both sides answer. Names in quotes: what the code answers. A number's text, by the document's Digits. What the code of Go functions comes to over abstract stores, piece by piece; each equation by the kernel. Printed by a program of this session. -/
import Derived.Test.YtebgkjjbbnbnlaaGreatDoorUnC
import Derived.Test.YtebgkjjbbnbnlaaGreatDoorSvY
import Derived.KernelRfl
import Derived.Lib.ItoaLen
import Derived.Test.YtebgkjjbbnbnlaaGreatDoorSvT
set_option linter.unusedVariables false
set_option linter.unusedSimpArgs false
set_option maxRecDepth 100000
section
namespace Go.Sv
open Go Go.RowKit Go.Proofs
def nh(k:Nat):Nat:=match k with
 | 7=>97|8=>98|9=>116|10=>110|11=>118|12=>102|13=>114|34=>34|92=>92|_=>0
def zh(k:Nat):List UInt8:=[92,UInt8.ofNat (48+k / 64),UInt8.ofNat (48+k / 8 % 8),UInt8.ofNat (48+k % 8)]
def sx(k:Nat):List UInt8:=if nh k≠0 then [92,UInt8.ofNat (nh k)] else if k<32∨127≤k then zh k else [UInt8.ofNat k]
def esc(c:UInt8):List UInt8:=sx c.toNat
def Cr(c:UInt8):Bool:=decide ((c.toNat:Int)<33)||(decide ((c.toNat:Int)≥127)||(((c.toNat:Int)==34)||((c.toNat:Int)==92)))
def Aw(s:List UInt8):Bool:=s == []||s.any Cr
def lk(s:List UInt8):List UInt8:=if Aw s=true then [34]++s.flatMap esc ++ [34] else s
noncomputable def feE:List (FuncId×FE):=[(U1.id,U1.fe),(V9.id,V9.fe)]
theorem Zl(w0:B5):ut (cx w0) feE:=⟨U1.ok w0,V9.ok w0,trivial⟩
theorem Pr(w0:B5):(List.range 256).map (fun k=>pb (cx w0) (ox feE) (iu Fz) 1000 20 U1.id [.pv (.int .u8 (Int.ofNat k))] [])=(List.range 256).map (fun k=>some (.tup [.pv (.int .u8 (Int.ofNat (nh k))),.pv (.bool (!Nat.beq (nh k) 0))],[])):=by kernel_rfl
theorem qj{β:Type}{f g:Nat→β}{n:Nat}(h:(List.range n).map f=(List.range n).map g){k:Nat}(hk:k<n):f k=g k:=by
 have:=congrArg (fun l=>l[k]?) h
 simpa[hk] using this
theorem Yt:(List.range 256).map (fun k=>[IntKind.wrap .u8 (48+(Int.fdiv (Int.ofNat k) (2 ^ (min (6:Int).toNat (IntKind.bits .u8))))),IntKind.wrap .u8 (48+(IntKind.wrap .u8 (BitVec.ofInt (IntKind.bits .u8) (Int.fdiv (Int.ofNat k) (2 ^ (min (3:Int).toNat (IntKind.bits .u8)))) &&& BitVec.ofInt (IntKind.bits .u8) 7).toNat)),IntKind.wrap .u8 (48+(IntKind.wrap .u8 (BitVec.ofInt (IntKind.bits .u8) (Int.ofNat k) &&& BitVec.ofInt (IntKind.bits .u8) 7).toNat))]) =
  (List.range 256).map (fun k=>[Int.ofNat (48+k / 64),Int.ofNat (48+k / 8 % 8),Int.ofNat (48+k % 8)]):=by decide +kernel
end Go.Sv
end
section
namespace Go.Sv
open Go Go.RowKit Go.Proofs
theorem Ls(k:Nat):(sx k).length≤4:=by
 unfold sx;repeat' split
 all_goals simp[zh]
theorem Kf:∀s:List UInt8,(s.flatMap esc).length≤4*s.length
 | []=>by simp
 | c::r=>by
  have:=Kf r
  have h:(esc c).length≤4:=Ls c.toNat
  rw[List.flatMap_cons,List.length_append,List.length_cons]
  omega
theorem Ap(s:List UInt8):(lk s).length≤4*s.length+2:=by
 have:=Kf s
 unfold lk
 split
 ·rw[List.length_append,List.length_append];show 1+_+1≤_;omega
 ·omega
section
variable {w0:B5}{σ:A2}{R:AV→A2→Prop}
theorem Lq(L:Laid w0.w){c:UInt8}(hR:R (.tup [.pv (.int .u8 (nh c.toNat:Nat)),.pv (.bool (!Nat.beq (nh c.toNat) 0))]) σ):A1 (cx w0) U1.id [.pv (.int .u8 c.toNat)] σ R:=
 A1.alone L rfl (fun w1 L1=>Hb L1 (Zl w1) (qj (Pr w1) c.toNat_lt) rfl) rfl hR
theorem Ba(name:List UInt8)(hx:name.length≤140737488355328):∀(r:List UInt8) (k:Nat),name.drop k=r→R (.pv (.bool (r.any Cr))) σ→M0.n14 (M0.X w0 σ.length) w0 σ.length R σ name name.length k
 | [],k,h,hR=>by
  have hk:=N5 h
  refine M0.n14_in ?_
  rw[M0.b15_eq,A8,if_neg (by omega)]
  refine M0.n35_in ?_
  rw[M0.b35_eq]
  exact P8 hR
 | c::r,k,h,hR=>by
  obtain ⟨h1,h2,hk⟩:=G7 h
  have N:∀t,t=Cr c→M0.n29 (M0.X w0 σ.length) w0 σ.length R σ name name.length k t:=by
   rintro t rfl
   refine M0.n29_in ?_
   rw[M0.b29_eq]
   rw[List.any_cons] at hR
   refine A7 (fun g=>P8 ?_) (fun g=>?_)
   ·rw[g,Bool.true_or] at hR;exact hR
   ·rw[g,Bool.false_or] at hR
    rw[J3 hk (by omega)]
    exact Ba name hx r (k+1) h2 hR
  refine M0.n14_in ?_
  rw[M0.b15_eq,A8,if_pos (by omega)]
  refine A0 (R4 h1) (L3 ?_)
  refine A7 (fun g1=>N _ ?_) (fun g1=>?_)
  ·simp only[Cr,g1,Bool.true_or]
  refine A7 (fun g2=>N _ ?_) (fun g2=>?_)
  ·simp only[Cr,g2,Bool.true_or,Bool.or_true]
  refine A7 (fun g3=>N _ ?_) (fun g3=>N _ ?_)
  ·simp only[Cr,g3,Bool.true_or,Bool.or_true]
  ·simp only[Cr,g1,g2,g3,Bool.false_or]
theorem Qu{name:List UInt8}(hx:name.length≤140737488355328)(hR:R (.pv (.bool (Aw name))) σ):A1 (cx w0) M0.id [.pv (.str name)] σ R:=by
 refine M0.calls ?_
 rw[M0.b0_eq]
 unfold Aw at hR
 refine A7 (fun g=>P8 ?_) (fun g=>Ba name hx name 0 rfl ?_)
 ·rw[g,Bool.true_or] at hR;exact hR
 ·rw[g,Bool.false_or] at hR;exact hR
theorem Zy(c:UInt8):[PV.int .u8 92,.int .u8 (IntKind.wrap .u8 (48+(Int.fdiv (c.toNat:Int) (2 ^ (min (6:Int).toNat (IntKind.bits .u8)))))),.int .u8 (IntKind.wrap .u8 (48+(IntKind.wrap .u8 (BitVec.ofInt (IntKind.bits .u8) (Int.fdiv (c.toNat:Int) (2 ^ (min (3:Int).toNat (IntKind.bits .u8)))) &&& BitVec.ofInt (IntKind.bits .u8) 7).toNat))),.int .u8 (IntKind.wrap .u8 (48+(IntKind.wrap .u8 (BitVec.ofInt (IntKind.bits .u8) (c.toNat:Int) &&& BitVec.ofInt (IntKind.bits .u8) 7).toNat)))]=I1 (zh c.toNat):=by
 have hc:=c.toNat_lt
 have h:=qj Yt hc
 have e1:=(List.cons.inj h).1
 have e2:=(List.cons.inj (List.cons.inj h).2).1
 have e3:=(List.cons.inj (List.cons.inj (List.cons.inj h).2).2).1
 simp only[Int.ofNat_eq_natCast] at e1 e2 e3
 rw[e1,e2,e3]
 have f:∀n:Nat,n<256→(((UInt8.ofNat n).toNat:Nat):Int)=(n:Int):=fun n h=>by rw[UInt8.toNat_ofNat_of_lt' h]
 simp only[I1,zh,List.map_cons,List.map_nil]
 rw[f _ (by omega),f _ (by omega),f _ (by omega)]
 rfl
theorem Ef(L:Laid w0.w)(name:List UInt8)(hx:name.length≤17592186044416):∀(r:List UInt8) (k:Nat) (acc:List UInt8),name.drop k=r→acc.length+4*r.length+1≤140737488355328 →
  J0.n18 (J0.X w0 0) w0 0 (fun r' _=>r' = .pv (.str (acc++r.flatMap esc ++ [34]))) [.bld tB 5 acc] name (.ptr 0 0) name.length k
 | [],k,acc,h,hl=>by
  have hk:=N5 h
  refine J0.n18_in ?_
  rw[J0.b19_eq,A8,if_neg (by omega)]
  refine J0.n46_in ?_
  rw[J0.b46_eq]
  refine Y4 (c:=34) rfl (by omega) ?_
  refine de rfl (K9 (C4 (Nat.zero_le _) ?_))
  simp
 | c::r,k,acc,h,hl=>by
  obtain ⟨h1,h2,hk⟩:=G7 h
  have hc:=c.toNat_lt
  simp only[List.length_cons] at hl
  have he:(esc c).length≤4:=Ls c.toNat
  have next:∀s Z,s=acc++esc c→J0.n45 (J0.X w0 0) w0 0 (fun r' _=>r' = .pv (.str (acc++(c::r).flatMap esc ++ [34]))) ([.bld tB 5 s]++Z) name (.ptr 0 0) name.length k:=by
   rintro s Z rfl
   refine J0.n45_in ?_
   rw[J0.b45_eq,J3 hk (by omega)]
   refine J0.n18_weak (M5.drop (τ:=[.bld tB 5 (acc++esc c)]) O3 (Nat.zero_le _) rfl rfl) ?_
   have:=Ef L name hx r (k+1) (acc++esc c) h2 (by simp only[List.length_append];omega)
   simpa[List.flatMap_cons,List.append_assoc] using this
  refine J0.n18_in ?_
  rw[J0.b19_eq,A8,if_pos (by omega)]
  refine A0 (R4 h1) (L3 ?_)
  refine Lq L ?_
  repeat ((with_reducible first|apply A0|apply wI|apply wT|apply wP);exact rfl)
  refine F0 ?_
  refine A7 (fun g=>?_) (fun g=>?_)
  ·have hn:nh c.toNat≠0:=fun e=>by rw[e] at g;exact absurd g (by decide)
   have hl8:nh c.toNat<256:=by unfold nh;split<;>omega
   have e:((nh c.toNat:Nat):Int)=((UInt8.ofNat (nh c.toNat)).toNat:Int):=by rw[UInt8.toNat_ofNat_of_lt' hl8]
   refine Y4 (c:=92) rfl (by omega) ?_
   rw[e]
   refine Y4 (c:=UInt8.ofNat (nh c.toNat)) rfl (by simp only[List.length_append,List.length_cons,List.length_nil];omega) ?_
   refine next _ [] ?_
   rw[List.append_assoc]
   show _=acc++sx c.toNat
   unfold sx
   rw[if_pos hn];rfl
  ·have hn:¬nh c.toNat≠0:=fun h=>h (Nat.eq_of_beq_eq_true (by rw[Bool.not_eq_false'] at g;exact g))
   have N:∀t,t=decide (c.toNat<32∨127≤c.toNat)→J0.n42 (J0.X w0 0) w0 0 (fun r' _=>r' = .pv (.str (acc++(c::r).flatMap esc ++ [34]))) [.bld tB 5 acc] name (.ptr 0 0) c.toNat name.length k t:=by
    rintro t rfl
    refine J0.n42_in ?_
    rw[J0.b42_eq,A8]
    refine B6 (fun g2=>?_) (fun g2=>?_)
    ·refine ⟨by decide,by decide,?_⟩
     refine J4 (v:=.arr 1 4 0 4) (s:=[.bld tB 5 acc,.arr 1 (I1 (zh c.toNat)) false]) (by rw[← Zy];rfl) ?_
     refine Pk (es:=1) (t:=zh c.toNat) rfl rfl (by simp[zh]) (by simp only[zh,List.length_cons,List.length_nil];omega) ?_
     refine next _ [.arr 1 (I1 (zh c.toNat)) false] ?_
     show _=acc++sx c.toNat
     unfold sx
     rw[if_neg hn,if_pos g2]
    ·refine Y4 (c:=c) rfl (by omega) ?_
     refine next _ [] ?_
     show _=acc++sx c.toNat
     unfold sx
     rw[if_neg hn,if_neg g2]
     simp
   rw[A8]
   refine B6 (fun g1=>N _ ?_) (fun g1=>N _ ?_)
   ·exact (decide_eq_true (.inl (by omega))).symm
   ·rw[decide_eq_decide];omega
theorem Og(L:Laid w0.w){name:List UInt8}(hx:name.length≤17592186044416)(hR:R (.pv (.str (lk name))) σ):A1 (cx w0) J0.id [.pv (.str name)] σ R:=by
 refine A1.alone L rfl (fun w1 L1=>?_) rfl hR
 refine J0.calls ?_
 rw[J0.b0_eq]
 refine Qu (by omega) (F0 ?_)
 rw[E3]
 unfold lk
 refine A7 (fun g=>?_) (fun g=>P8 ?_)
 ·rw[if_pos g]
  refine Y4 (c:=34) rfl (by decide) ?_
  exact Ef L1 name hx name 0 [34] rfl (by simp only[List.length_cons,List.length_nil];omega)
 ·rw[if_neg (by rw[g];decide)]
end
end Go.Sv
end
section
namespace Go.Sv
open Go Go.RowKit Go.Proofs
section
variable {w0:B5}{σ:A2}{R:AV→A2→Prop}
theorem Xs{u:Nat}(h:u≤9223372036854775807):(Lib.decDigits u).length≤20:=by
 rw[Lib.decDigits_length];exact Lib.nDigits_le20 u (by omega)
theorem oh{n:Int}(h:0≤n):Lib.itoa n=Lib.decDigits n.toNat:=by unfold Lib.itoa;rw[if_neg (by omega)]
end
end Go.Sv
end
section
namespace Go.Sv
open Go Go.Proofs
namespace K4
def lvs:List (List Nat):=[[0],[0],[1],[1],[2]]
def lv:Nat→List Nat:=O9 lvs
noncomputable def code:Code:=F3 Tryz.f112
noncomputable def fe:FE:=⟨Tryz.f112,code,lv⟩
def A5:List Nat:=[4]
abbrev X(w0:B5)(n:Nat):XT:=xr (cx w0) 11 lv n
theorem ok(w0:B5):FOK (cx w0) K4.id fe:=⟨Tryz.func112,by kernel_rfl,by kernel_rfl⟩
section
variable (Z:XT)(w0:B5)(n:Nat)(R:RT)(σ:A2)(t2:Bool)(r:AV)
def n4:Prop:=
 Z (cAt code 4) 4 [(2,(.pv (.bool t2)))] σ (B7 (cx w0) Tryz.f112 n R)
def b4:Prop:=
 A6 (cx w0) 11 lv n A5 Z (cAt code 4) 4 [(2,(.pv (.bool t2)))] σ (B7 (cx w0) Tryz.f112 n R)
def b0:Prop:=
 A6 (cx w0) 11 lv n A5 Z code 0 (J6 0 [r]) σ (B7 (cx w0) Tryz.f112 n R)
end
variable {Z:XT}{w0:B5}{n:Nat}{R:RT}{σ τ:A2}{t2:Bool}{r:AV}
theorem b4_eq:b4 Z w0 n R σ t2=(
 F2 (cx w0) n (.pv (.bool t2)) σ R):=by kernel_rfl
theorem n4_in(h:b4 (X w0 n) w0 n R σ t2):n4 (X w0 n) w0 n R σ t2:=E0 (S:=A5) (by kernel_rfl) h
theorem b0_eq:b0 Z w0 n R σ r=(
 ((AV.cells r).all AV.one=true∧(opt (A3 B2 L7.td (.ptr (List.length σ) 0) 0) fun t3=>opt (A4 (σ ++ [.cells 51 (AV.cells r)]) ti3 t3) fun t4=>isI .i64 t4 fun t4_1=>B1 ((t4_1:Int)==1) (n4 Z w0 n R (σ ++ [.cells 51 (AV.cells r)]) true) (opt (A3 B2 L7.td (.ptr (List.length σ) 0) 0) fun t7=>opt (A4 (σ ++ [.cells 51 (AV.cells r)]) ti3 t7) fun t8=>isI .i64 t8 fun t8_1=>n4 Z w0 n R (σ ++ [.cells 51 (AV.cells r)]) ((t8_1:Int)==2))))):=by kernel_rfl
theorem calls(h:b0 (X w0 (List.length σ)) w0 (List.length σ) R σ r):A1 (cx w0) K4.id [r] σ R:=
 D3 (J9 w0) (x:=fe) (S:=A5) (K4.ok w0) (by kernel_rfl) h
end K4
namespace H3
def lvs:List (List Nat):=[[0],[0],[1],[1],[2]]
def lv:Nat→List Nat:=O9 lvs
noncomputable def code:Code:=F3 Tryz.f113
noncomputable def fe:FE:=⟨Tryz.f113,code,lv⟩
def A5:List Nat:=[4]
abbrev X(w0:B5)(n:Nat):XT:=xr (cx w0) 11 lv n
theorem ok(w0:B5):FOK (cx w0) H3.id fe:=⟨Tryz.func113,by kernel_rfl,by kernel_rfl⟩
section
variable (Z:XT)(w0:B5)(n:Nat)(R:RT)(σ:A2)(t2:Bool)(r:AV)
def n4:Prop:=
 Z (cAt code 4) 4 [(2,(.pv (.bool t2)))] σ (B7 (cx w0) Tryz.f113 n R)
def b4:Prop:=
 A6 (cx w0) 11 lv n A5 Z (cAt code 4) 4 [(2,(.pv (.bool t2)))] σ (B7 (cx w0) Tryz.f113 n R)
def b0:Prop:=
 A6 (cx w0) 11 lv n A5 Z code 0 (J6 0 [r]) σ (B7 (cx w0) Tryz.f113 n R)
end
variable {Z:XT}{w0:B5}{n:Nat}{R:RT}{σ τ:A2}{t2:Bool}{r:AV}
theorem b4_eq:b4 Z w0 n R σ t2=(
 F2 (cx w0) n (.pv (.bool t2)) σ R):=by kernel_rfl
theorem n4_in(h:b4 (X w0 n) w0 n R σ t2):n4 (X w0 n) w0 n R σ t2:=E0 (S:=A5) (by kernel_rfl) h
theorem b0_eq:b0 Z w0 n R σ r=(
 ((AV.cells r).all AV.one=true∧(opt (A3 B2 L7.td (.ptr (List.length σ) 0) 0) fun t3=>opt (A4 (σ ++ [.cells 51 (AV.cells r)]) ti3 t3) fun t4=>isI .i64 t4 fun t4_1=>B1 ((t4_1:Int)==1) (n4 Z w0 n R (σ ++ [.cells 51 (AV.cells r)]) true) (opt (A3 B2 L7.td (.ptr (List.length σ) 0) 0) fun t7=>opt (A4 (σ ++ [.cells 51 (AV.cells r)]) ti3 t7) fun t8=>isI .i64 t8 fun t8_1=>n4 Z w0 n R (σ ++ [.cells 51 (AV.cells r)]) ((t8_1:Int)==3))))):=by kernel_rfl
theorem calls(h:b0 (X w0 (List.length σ)) w0 (List.length σ) R σ r):A1 (cx w0) H3.id [r] σ R:=
 D3 (J9 w0) (x:=fe) (S:=A5) (H3.ok w0) (by kernel_rfl) h
end H3
namespace G0
def lvs:List (List Nat):=[[0],[0],[0],[0],[0],[0,3],[0,3],[0,3],[0,3],[0,3],[0,3,8],[0,3],[0],[0,3],[0,3],[0,3],[0,3],[0,3,14],[],[],[2],[0,3],[0,3],[0],[0],[2]]
def lv:Nat→List Nat:=O9 lvs
noncomputable def code:Code:=F3 Tryz.f114
noncomputable def fe:FE:=⟨Tryz.f114,code,lv⟩
def A5:List Nat:=[7,23]
abbrev X(w0:B5)(n:Nat):XT:=xr (cx w0) 17 lv n
theorem ok(w0:B5):FOK (cx w0) G0.id fe:=⟨Tryz.func114,by kernel_rfl,by kernel_rfl⟩
section
variable (Z:XT)(w0:B5)(n:Nat)(R:RT)(σ:A2)(s:List UInt8)(i:Int)
def q3:QT:=D6 (fun env σ=>Z (cAt code 23) 23 (prune (lv 23) env) σ (B7 (cx w0) Tryz.f114 n R)) (B7 (cx w0) Tryz.f114 n R)
def q6:QT:=H7 0 (q3 Z w0 n R)
def q7:QT:=D6 (fun env σ=>Z (cAt code 6) 6 (prune (lv 6) env) σ (q6 Z w0 n R)) (q6 Z w0 n R)
def n6:Prop:=
 Z (cAt code 6) 6 [(0,(.pv (.str s))),(3,(.pv (.int .i64 i)))] σ (q6 Z w0 n R)
def b7:Prop:=
 A6 (cx w0) 17 lv n A5 Z (cAt code 7) 7 [(0,(.pv (.str s))),(3,(.pv (.int .i64 i)))] σ (q7 Z w0 n R)
def n23:Prop:=
 Z (cAt code 23) 23 [(0,(.pv (.str s)))] σ (B7 (cx w0) Tryz.f114 n R)
def b23:Prop:=
 A6 (cx w0) 17 lv n A5 Z (cAt code 23) 23 [(0,(.pv (.str s)))] σ (B7 (cx w0) Tryz.f114 n R)
def b0:Prop:=
 A6 (cx w0) 17 lv n A5 Z code 0 (J6 0 [(.pv (.str s))]) σ (B7 (cx w0) Tryz.f114 n R)
end
variable {Z:XT}{w0:B5}{n:Nat}{R:RT}{σ τ:A2}{s s':List UInt8}{i i':Int}
theorem n6_in(h:b7 (X w0 n) w0 n R σ s i):n6 (X w0 n) w0 n R σ s i:=I5 (J9 w0) (S:=A5) (by kernel_rfl:cAt code 6 = .loop (cAt code 7)) h
theorem b7_eq:b7 Z w0 n R σ s i=(
 B1 (decide ((i:Int)<(IntKind.wrap .i64 ((List.length (s:List UInt8):Int)-1)))) (opt (Q8 B2 ti9.td (.pv (.str s)) i) fun t13=>isI .u8 t13 fun t13_1=>B1 ((t13_1:Int)==10) (F2 (cx w0) n (.pv (.bool false)) σ R) (n6 Z w0 n R σ s (IntKind.wrap .i64 (i+1)))) (n23 Z w0 n R σ s)):=by kernel_rfl
theorem b23_eq:b23 Z w0 n R σ s=(
 F2 (cx w0) n (.pv (.bool (!((s:List UInt8) == [])))) σ R):=by kernel_rfl
theorem n23_in(h:b23 (X w0 n) w0 n R σ s):n23 (X w0 n) w0 n R σ s:=E0 (S:=A5) (by kernel_rfl) h
theorem b0_eq:b0 Z w0 n R σ s=(
 n6 Z w0 n R σ s 0):=by kernel_rfl
theorem calls(h:b0 (X w0 (List.length σ)) w0 (List.length σ) R σ s):A1 (cx w0) G0.id [(.pv (.str s))] σ R:=
 D3 (J9 w0) (x:=fe) (S:=A5) (G0.ok w0) (by kernel_rfl) h
end G0
namespace M1
def lvs:List (List Nat):=[[0],[0],[0],[0],[2]]
def lv:Nat→List Nat:=O9 lvs
noncomputable def code:Code:=F3 Tryz.f83
noncomputable def fe:FE:=⟨Tryz.f83,code,lv⟩
def A5:List Nat:=[4]
abbrev X(w0:B5)(n:Nat):XT:=xr (cx w0) 14 lv n
theorem ok(w0:B5):FOK (cx w0) M1.id fe:=⟨Tryz.func83,by kernel_rfl,by kernel_rfl⟩
section
variable (Z:XT)(w0:B5)(n:Nat)(R:RT)(σ:A2)(t2:Bool)(line:List UInt8)
def n4:Prop:=
 Z (cAt code 4) 4 [(2,(.pv (.bool t2)))] σ (B7 (cx w0) Tryz.f83 n R)
def b4:Prop:=
 A6 (cx w0) 14 lv n A5 Z (cAt code 4) 4 [(2,(.pv (.bool t2)))] σ (B7 (cx w0) Tryz.f83 n R)
def b0:Prop:=
 A6 (cx w0) 14 lv n A5 Z code 0 (J6 0 [(.pv (.str line))]) σ (B7 (cx w0) Tryz.f83 n R)
end
variable {Z:XT}{w0:B5}{n:Nat}{R:RT}{σ τ:A2}{t2:Bool}{line:List UInt8}
theorem b4_eq:b4 Z w0 n R σ t2=(
 F2 (cx w0) n (.pv (.bool t2)) σ R):=by kernel_rfl
theorem n4_in(h:b4 (X w0 n) w0 n R σ t2):n4 (X w0 n) w0 n R σ t2:=E0 (S:=A5) (by kernel_rfl) h
theorem b0_eq:b0 Z w0 n R σ line=(
 B1 (decide (((List.length (line:List UInt8):Int):Int)>0)) (opt (Q8 B2 ti9.td (.pv (.str line)) (IntKind.wrap .i64 ((List.length (line:List UInt8):Int)-1))) fun t11=>isI .u8 t11 fun t11_1=>n4 Z w0 n R σ ((t11_1:Int)==10)) (n4 Z w0 n R σ false)):=by kernel_rfl
theorem calls(h:b0 (X w0 (List.length σ)) w0 (List.length σ) R σ line):A1 (cx w0) M1.id [(.pv (.str line))] σ R:=
 D3 (J9 w0) (x:=fe) (S:=A5) (M1.ok w0) (by kernel_rfl) h
end M1
namespace D9
def lvs:List (List Nat):=[[0],[0],[0],[0],[0,4,5],[0,4,5],[0,4,5],[0,4,5,6],[0,4,5,6],[0,4,5,6],[0,4,5,6],[0,4,5,6],[0,4,5,6,10],[0,4,5,6],[4,5],[0,4,5,6],[0,4,5,6],[0,4,5,6],[0,4,5,6],[0,4,5,6],[0,4,5,6,17],[0,4,5,6],[0,4,5,6],[0,4,5,6],[0,4,5,6],[0,4,5,6,24],[0,4,5,6],[0,4,5,6],[0,4,5,6],[4,5],[4,5],[2,3]]
def lv:Nat→List Nat:=O9 lvs
noncomputable def code:Code:=F3 Tryz.f67
noncomputable def fe:FE:=⟨Tryz.f67,code,lv⟩
def A5:List Nat:=[9,23,28,29]
abbrev X(w0:B5)(n:Nat):XT:=xr (cx w0) 29 lv n
theorem ok(w0:B5):FOK (cx w0) D9.id fe:=⟨Tryz.func67,by kernel_rfl,by kernel_rfl⟩
section
variable (Z:XT)(w0:B5)(n:Nat)(R:RT)(σ:A2)(l_:AV)(n_ m i:Int)
def q5:QT:=D6 (fun env σ=>Z (cAt code 29) 29 (prune (lv 29) env) σ (B7 (cx w0) Tryz.f67 n R)) (B7 (cx w0) Tryz.f67 n R)
def q8:QT:=H7 0 (q5 Z w0 n R)
def q9:QT:=D6 (fun env σ=>Z (cAt code 8) 8 (prune (lv 8) env) σ (q8 Z w0 n R)) (q8 Z w0 n R)
def q16:QT:=D6 (fun env σ=>Z (cAt code 28) 28 (prune (lv 28) env) σ (q9 Z w0 n R)) (q9 Z w0 n R)
def q17:QT:=H7 1 (q16 Z w0 n R)
def n8:Prop:=
 Z (cAt code 8) 8 [(0,l_),(4,(.pv (.int .i64 n_))),(5,(.pv (.int .i64 m))),(6,(.pv (.int .i64 i)))] σ (q8 Z w0 n R)
def b9:Prop:=
 A6 (cx w0) 29 lv n A5 Z (cAt code 9) 9 [(0,l_),(4,(.pv (.int .i64 n_))),(5,(.pv (.int .i64 m))),(6,(.pv (.int .i64 i)))] σ (q9 Z w0 n R)
def n23:Prop:=
 Z (cAt code 23) 23 [(0,l_),(4,(.pv (.int .i64 n_))),(5,(.pv (.int .i64 m))),(6,(.pv (.int .i64 i)))] σ (q17 Z w0 n R)
def b23:Prop:=
 A6 (cx w0) 29 lv n A5 Z (cAt code 23) 23 [(0,l_),(4,(.pv (.int .i64 n_))),(5,(.pv (.int .i64 m))),(6,(.pv (.int .i64 i)))] σ (q17 Z w0 n R)
def n28:Prop:=
 Z (cAt code 28) 28 [(0,l_),(4,(.pv (.int .i64 n_))),(5,(.pv (.int .i64 m))),(6,(.pv (.int .i64 i)))] σ (q9 Z w0 n R)
def b28:Prop:=
 A6 (cx w0) 29 lv n A5 Z (cAt code 28) 28 [(0,l_),(4,(.pv (.int .i64 n_))),(5,(.pv (.int .i64 m))),(6,(.pv (.int .i64 i)))] σ (q9 Z w0 n R)
def n29:Prop:=
 Z (cAt code 29) 29 [(4,(.pv (.int .i64 n_))),(5,(.pv (.int .i64 m)))] σ (B7 (cx w0) Tryz.f67 n R)
def b29:Prop:=
 A6 (cx w0) 29 lv n A5 Z (cAt code 29) 29 [(4,(.pv (.int .i64 n_))),(5,(.pv (.int .i64 m)))] σ (B7 (cx w0) Tryz.f67 n R)
def b0:Prop:=
 A6 (cx w0) 29 lv n A5 Z code 0 (J6 0 [l_]) σ (B7 (cx w0) Tryz.f67 n R)
end
variable {Z:XT}{w0:B5}{n:Nat}{R:RT}{σ τ:A2}{l_ l_':AV}{n_ m i n_' m' i':Int}
theorem n8_in(h:b9 (X w0 n) w0 n R σ l_ n_ m i):n8 (X w0 n) w0 n R σ l_ n_ m i:=I5 (J9 w0) (S:=A5) (by kernel_rfl:cAt code 8 = .loop (cAt code 9)) h
theorem b9_eq:b9 Z w0 n R σ l_ n_ m i=(
 opt (R2 R7.td l_) fun t9=>isI .i64 t9 fun t9_1=>B1 (decide ((i:Int)<t9_1)) (opt (B9 σ B2 R7.td l_ i) fun t15=>opt (A4 σ L7 t15) fun t16=>A1 (cx w0) K4.id [t16] σ fun r σ'=>isB r fun t17=>B1 t17 (n23 Z w0 n R σ' l_ (IntKind.wrap .i64 (n_+1)) m i) (n23 Z w0 n R σ' l_ n_ m i)) (n29 Z w0 n R σ n_ m)):=by kernel_rfl
theorem b23_eq:b23 Z w0 n R σ l_ n_ m i=(
 opt (B9 σ B2 R7.td l_ i) fun t22=>opt (A4 σ L7 t22) fun t23=>A1 (cx w0) H3.id [t23] σ fun r σ'=>isB r fun t24=>B1 t24 (n28 Z w0 n R σ' l_ n_ (IntKind.wrap .i64 (m+1)) i) (n28 Z w0 n R σ' l_ n_ m i)):=by kernel_rfl
theorem n23_in(h:b23 (X w0 n) w0 n R σ l_ n_ m i):n23 (X w0 n) w0 n R σ l_ n_ m i:=E0 (S:=A5) (by kernel_rfl) h
theorem b28_eq:b28 Z w0 n R σ l_ n_ m i=(
 n8 Z w0 n R σ l_ n_ m (IntKind.wrap .i64 (i+1))):=by kernel_rfl
theorem n28_in(h:b28 (X w0 n) w0 n R σ l_ n_ m i):n28 (X w0 n) w0 n R σ l_ n_ m i:=E0 (S:=A5) (by kernel_rfl) h
theorem b29_eq:b29 Z w0 n R σ n_ m=(
 F2 (cx w0) n (.tup [(.pv (.int .i64 n_)),(.pv (.int .i64 m))]) σ R):=by kernel_rfl
theorem n29_in(h:b29 (X w0 n) w0 n R σ n_ m):n29 (X w0 n) w0 n R σ n_ m:=E0 (S:=A5) (by kernel_rfl) h
theorem b0_eq:b0 Z w0 n R σ l_=(
 n8 Z w0 n R σ l_ 0 0 0):=by kernel_rfl
theorem calls(h:b0 (X w0 (List.length σ)) w0 (List.length σ) R σ l_):A1 (cx w0) D9.id [l_] σ R:=
 D3 (J9 w0) (x:=fe) (S:=A5) (D9.ok w0) (by kernel_rfl) h
end D9
namespace C8
def lvs:List (List Nat):=[[0],[0],[0],[0],[0,3,4,5],[0,3,4,5],[0,3,4,5],[0,3,4,5,6],[0,3,4,5,6],[0,3,4,5,6],[0,3,4,5,6],[0,3,4,5,6],[0,3,4,5,6,12],[0,3,4,5,6],[5],[0,3,4,5,6],[0,3,4,5,6],[0,3,4,5,6],[0,3,4,5,6],[0,3,4,5,6,7],[0,3,4,5,6,7],[0,3,4,5,6,7],[0,3,4,5,6,7,46],[],[],[2],[0,3,4,5,6,7],[0,3,4,5,6,7],[0,3,4,5,6,7],[0,3,4,5,6,7,8],[0,3,4,5,6,7,8],[0,3,4,5,6,7,8],[0,3,4,5,6,7,8],[0,3,4,5,6,7],[0,3,4,5,6],[5],[5],[2]]
def lv:Nat→List Nat:=O9 lvs
noncomputable def code:Code:=F3 Tryz.f68
noncomputable def fe:FE:=⟨Tryz.f68,code,lv⟩
def A5:List Nat:=[9,22,31,33,34,35]
abbrev X(w0:B5)(n:Nat):XT:=xr (cx w0) 74 lv n
theorem ok(w0:B5):FOK (cx w0) C8.id fe:=⟨Tryz.func68,by kernel_rfl,by kernel_rfl⟩
section
variable (Z:XT)(w0:B5)(n:Nat)(R:RT)(σ:A2)(l_:AV)(ended over change:Bool)(i:Int)(r:AV)(t46 part:Bool)
def q5:QT:=D6 (fun env σ=>Z (cAt code 35) 35 (prune (lv 35) env) σ (B7 (cx w0) Tryz.f68 n R)) (B7 (cx w0) Tryz.f68 n R)
def q8:QT:=H7 0 (q5 Z w0 n R)
def q9:QT:=D6 (fun env σ=>Z (cAt code 8) 8 (prune (lv 8) env) σ (q8 Z w0 n R)) (q8 Z w0 n R)
def q16:QT:=D6 (fun env σ=>Z (cAt code 34) 34 (prune (lv 34) env) σ (q9 Z w0 n R)) (q9 Z w0 n R)
def q17:QT:=H7 1 (q16 Z w0 n R)
def q20:QT:=D6 (fun env σ=>A6 (cx w0) 74 lv n A5 Z (cAt code 27) 27 (prune (lv 27) env) σ (q17 Z w0 n R)) (q17 Z w0 n R)
def n8:Prop:=
 Z (cAt code 8) 8 [(0,l_),(3,(.pv (.bool ended))),(4,(.pv (.bool over))),(5,(.pv (.bool change))),(6,(.pv (.int .i64 i)))] σ (q8 Z w0 n R)
def b9:Prop:=
 A6 (cx w0) 74 lv n A5 Z (cAt code 9) 9 [(0,l_),(3,(.pv (.bool ended))),(4,(.pv (.bool over))),(5,(.pv (.bool change))),(6,(.pv (.int .i64 i)))] σ (q9 Z w0 n R)
def n22:Prop:=
 Z (cAt code 22) 22 [(0,l_),(3,(.pv (.bool ended))),(4,(.pv (.bool over))),(5,(.pv (.bool change))),(6,(.pv (.int .i64 i))),(7,r),(46,(.pv (.bool t46)))] σ (q20 Z w0 n R)
def b22:Prop:=
 A6 (cx w0) 74 lv n A5 Z (cAt code 22) 22 [(0,l_),(3,(.pv (.bool ended))),(4,(.pv (.bool over))),(5,(.pv (.bool change))),(6,(.pv (.int .i64 i))),(7,r),(46,(.pv (.bool t46)))] σ (q20 Z w0 n R)
def n31:Prop:=
 Z (cAt code 31) 31 [(0,l_),(3,(.pv (.bool ended))),(4,(.pv (.bool over))),(5,(.pv (.bool change))),(6,(.pv (.int .i64 i))),(7,r),(8,(.pv (.bool part)))] σ (q17 Z w0 n R)
def b31:Prop:=
 A6 (cx w0) 74 lv n A5 Z (cAt code 31) 31 [(0,l_),(3,(.pv (.bool ended))),(4,(.pv (.bool over))),(5,(.pv (.bool change))),(6,(.pv (.int .i64 i))),(7,r),(8,(.pv (.bool part)))] σ (q17 Z w0 n R)
def n33:Prop:=
 Z (cAt code 33) 33 [(0,l_),(3,(.pv (.bool ended))),(4,(.pv (.bool over))),(5,(.pv (.bool change))),(6,(.pv (.int .i64 i))),(7,r)] σ (q17 Z w0 n R)
def b33:Prop:=
 A6 (cx w0) 74 lv n A5 Z (cAt code 33) 33 [(0,l_),(3,(.pv (.bool ended))),(4,(.pv (.bool over))),(5,(.pv (.bool change))),(6,(.pv (.int .i64 i))),(7,r)] σ (q17 Z w0 n R)
def n34:Prop:=
 Z (cAt code 34) 34 [(0,l_),(3,(.pv (.bool ended))),(4,(.pv (.bool over))),(5,(.pv (.bool change))),(6,(.pv (.int .i64 i)))] σ (q9 Z w0 n R)
def b34:Prop:=
 A6 (cx w0) 74 lv n A5 Z (cAt code 34) 34 [(0,l_),(3,(.pv (.bool ended))),(4,(.pv (.bool over))),(5,(.pv (.bool change))),(6,(.pv (.int .i64 i)))] σ (q9 Z w0 n R)
def n35:Prop:=
 Z (cAt code 35) 35 [(5,(.pv (.bool change)))] σ (B7 (cx w0) Tryz.f68 n R)
def b35:Prop:=
 A6 (cx w0) 74 lv n A5 Z (cAt code 35) 35 [(5,(.pv (.bool change)))] σ (B7 (cx w0) Tryz.f68 n R)
def b0:Prop:=
 A6 (cx w0) 74 lv n A5 Z code 0 (J6 0 [l_]) σ (B7 (cx w0) Tryz.f68 n R)
end
variable {Z:XT}{w0:B5}{n:Nat}{R:RT}{σ τ:A2}{l_ r l_':AV}{ended over change t46 part ended' over' change':Bool}{i i':Int}
theorem n8_in(h:b9 (X w0 n) w0 n R σ l_ ended over change i):n8 (X w0 n) w0 n R σ l_ ended over change i:=I5 (J9 w0) (S:=A5) (by kernel_rfl:cAt code 8 = .loop (cAt code 9)) h
theorem n8_weak(e:M5 (cx w0) n [(0,l_),(3,(.pv (.bool ended))),(4,(.pv (.bool over))),(5,(.pv (.bool change))),(6,(.pv (.int .i64 i)))] σ [(0,l_'),(3,(.pv (.bool ended'))),(4,(.pv (.bool over'))),(5,(.pv (.bool change'))),(6,(.pv (.int .i64 i')))] τ)(h:n8 (X w0 n) w0 n R τ l_' ended' over' change' i'):n8 (X w0 n) w0 n R σ l_ ended over change i:=T5 (L:=lv) (k:=8) (by kernel_rfl:cAt code 8 = .loop (cAt code 9)) e h
theorem b9_eq:b9 Z w0 n R σ l_ ended over change i=(
 opt (R2 R7.td l_) fun t11=>isI .i64 t11 fun t11_1=>B1 (decide ((i:Int)<t11_1)) (opt (B9 σ B2 R7.td l_ i) fun t17=>opt (A4 σ L7 t17) fun t18=>opt (C3 (σ ++ [.cells 51 (AV.ofValue L7.zero).cells]) L7 (.ptr (List.length σ) 0) t18) fun σ'=>opt (A4 σ' L7 (.ptr (List.length σ) 0)) fun t19=>A1 (cx w0) K4.id [t19] σ' fun r σ'_1=>isB r fun t20=>B1 (!t20) (opt (A4 σ'_1 L7 (.ptr (List.length σ) 0)) fun t23=>A1 (cx w0) H3.id [t23] σ'_1 fun r_1 σ'_2=>isB r_1 fun t24=>B1 (!t24) (n22 Z w0 n R σ'_2 l_ ended over change i (.ptr (List.length σ) 0) true) (opt (A3 B2 L7.td (.ptr (List.length σ) 0) 1) fun t28=>opt (A4 σ'_2 ti9 t28) fun t29=>isS t29 fun t29_1=>A1 (cx w0) G0.id [(.pv (.str t29_1))] σ'_2 fun r_2 σ'_3=>isB r_2 fun t30=>B1 (!t30) (n22 Z w0 n R σ'_3 l_ ended over change i (.ptr (List.length σ) 0) true) (opt (A4 σ'_3 L7 (.ptr (List.length σ) 0)) fun t34=>A1 (cx w0) K4.id [t34] σ'_3 fun r_3 σ'_4=>isB r_3 fun t35=>B1 t35 (B1 ended (n22 Z w0 n R σ'_4 l_ ended over change i (.ptr (List.length σ) 0) true) (opt (A4 σ'_4 L7 (.ptr (List.length σ) 0)) fun t41=>A1 (cx w0) H3.id [t41] σ'_4 fun r_4 σ'_5=>isB r_4 fun t42=>B1 t42 (n22 Z w0 n R σ'_5 l_ ended over change i (.ptr (List.length σ) 0) over) (n22 Z w0 n R σ'_5 l_ ended over change i (.ptr (List.length σ) 0) false))) (opt (A4 σ'_4 L7 (.ptr (List.length σ) 0)) fun t41=>A1 (cx w0) H3.id [t41] σ'_4 fun r_4 σ'_5=>isB r_4 fun t42=>B1 t42 (n22 Z w0 n R σ'_5 l_ ended over change i (.ptr (List.length σ) 0) over) (n22 Z w0 n R σ'_5 l_ ended over change i (.ptr (List.length σ) 0) false))))) (opt (A3 B2 L7.td (.ptr (List.length σ) 0) 1) fun t28=>opt (A4 σ'_1 ti9 t28) fun t29=>isS t29 fun t29_1=>A1 (cx w0) G0.id [(.pv (.str t29_1))] σ'_1 fun r_1 σ'_2=>isB r_1 fun t30=>B1 (!t30) (n22 Z w0 n R σ'_2 l_ ended over change i (.ptr (List.length σ) 0) true) (opt (A4 σ'_2 L7 (.ptr (List.length σ) 0)) fun t34=>A1 (cx w0) K4.id [t34] σ'_2 fun r_2 σ'_3=>isB r_2 fun t35=>B1 t35 (B1 ended (n22 Z w0 n R σ'_3 l_ ended over change i (.ptr (List.length σ) 0) true) (opt (A4 σ'_3 L7 (.ptr (List.length σ) 0)) fun t41=>A1 (cx w0) H3.id [t41] σ'_3 fun r_3 σ'_4=>isB r_3 fun t42=>B1 t42 (n22 Z w0 n R σ'_4 l_ ended over change i (.ptr (List.length σ) 0) over) (n22 Z w0 n R σ'_4 l_ ended over change i (.ptr (List.length σ) 0) false))) (opt (A4 σ'_3 L7 (.ptr (List.length σ) 0)) fun t41=>A1 (cx w0) H3.id [t41] σ'_3 fun r_3 σ'_4=>isB r_3 fun t42=>B1 t42 (n22 Z w0 n R σ'_4 l_ ended over change i (.ptr (List.length σ) 0) over) (n22 Z w0 n R σ'_4 l_ ended over change i (.ptr (List.length σ) 0) false))))) (n35 Z w0 n R σ change)):=by kernel_rfl
theorem b22_eq:b22 Z w0 n R σ l_ ended over change i r t46=(
 B1 t46 (F2 (cx w0) n (.pv (.bool false)) σ R) (opt (A3 B2 L7.td r 1) fun t47=>opt (A4 σ ti9 t47) fun t48=>isS t48 fun t48_1=>A1 (cx w0) M1.id [(.pv (.str t48_1))] σ fun r_1 σ'=>isB r_1 fun t49=>B1 ended (n31 Z w0 n R σ' l_ true over change i r (!t49)) (B1 (!t49) (opt (A4 σ' L7 r) fun t55=>A1 (cx w0) K4.id [t55] σ' fun r_2 σ'_1=>isB r_2 fun t56=>n31 Z w0 n R σ'_1 l_ t56 over change i r (!t49)) (n31 Z w0 n R σ' l_ false over change i r (!t49))))):=by kernel_rfl
theorem n22_in(h:b22 (X w0 n) w0 n R σ l_ ended over change i r t46):n22 (X w0 n) w0 n R σ l_ ended over change i r t46:=E0 (S:=A5) (by kernel_rfl) h
theorem b31_eq:b31 Z w0 n R σ l_ ended over change i r part=(
 B1 over (n33 Z w0 n R σ l_ ended true change i r) (B1 part (opt (A4 σ L7 r) fun t63=>A1 (cx w0) H3.id [t63] σ fun r_1 σ'=>isB r_1 fun t64=>n33 Z w0 n R σ' l_ ended t64 change i r) (n33 Z w0 n R σ l_ ended false change i r))):=by kernel_rfl
theorem n31_in(h:b31 (X w0 n) w0 n R σ l_ ended over change i r part):n31 (X w0 n) w0 n R σ l_ ended over change i r part:=E0 (S:=A5) (by kernel_rfl) h
theorem b33_eq:b33 Z w0 n R σ l_ ended over change i r=(
 B1 change (n34 Z w0 n R σ l_ ended over true i) (opt (A3 B2 L7.td r 0) fun t69=>opt (A4 σ ti3 t69) fun t70=>isI .i64 t70 fun t70_1=>n34 Z w0 n R σ l_ ended over ((t70_1:Int) != 1) i)):=by kernel_rfl
theorem n33_in(h:b33 (X w0 n) w0 n R σ l_ ended over change i r):n33 (X w0 n) w0 n R σ l_ ended over change i r:=E0 (S:=A5) (by kernel_rfl) h
theorem b34_eq:b34 Z w0 n R σ l_ ended over change i=(
 n8 Z w0 n R σ l_ ended over change (IntKind.wrap .i64 (i+1))):=by kernel_rfl
theorem n34_in(h:b34 (X w0 n) w0 n R σ l_ ended over change i):n34 (X w0 n) w0 n R σ l_ ended over change i:=E0 (S:=A5) (by kernel_rfl) h
theorem b35_eq:b35 Z w0 n R σ change=(
 F2 (cx w0) n (.pv (.bool change)) σ R):=by kernel_rfl
theorem n35_in(h:b35 (X w0 n) w0 n R σ change):n35 (X w0 n) w0 n R σ change:=E0 (S:=A5) (by kernel_rfl) h
theorem b0_eq:b0 Z w0 n R σ l_=(
 n8 Z w0 n R σ l_ false false false 0):=by kernel_rfl
theorem calls(h:b0 (X w0 (List.length σ)) w0 (List.length σ) R σ l_):A1 (cx w0) C8.id [l_] σ R:=
 D3 (J9 w0) (x:=fe) (S:=A5) (C8.ok w0) (by kernel_rfl) h
end C8
namespace I0
def lvs:List (List Nat):=[[0,1],[0,1],[0,1],[0,1],[0,1,5],[0,1,5],[0,1,5],[0,1,5,7],[0,1],[0,1,5],[0,1,5],[0,1,5],[4]]
def lv:Nat→List Nat:=O9 lvs
noncomputable def code:Code:=F3 Tryz.f69
noncomputable def fe:FE:=⟨Tryz.f69,code,lv⟩
def A5:List Nat:=[10,12]
abbrev X(w0:B5)(n:Nat):XT:=xr (cx w0) 17 lv n
theorem ok(w0:B5):FOK (cx w0) I0.id fe:=⟨Tryz.func69,by kernel_rfl,by kernel_rfl⟩
section
variable (Z:XT)(w0:B5)(n:Nat)(R:RT)(σ:A2)(a n_ rj:Int)(t4:Bool)
def n10:Prop:=
 Z (cAt code 10) 10 [(0,(.pv (.int .i64 a))),(1,(.pv (.int .i64 n_))),(5,(.pv (.int .i64 rj)))] σ (B7 (cx w0) Tryz.f69 n R)
def b10:Prop:=
 A6 (cx w0) 17 lv n A5 Z (cAt code 10) 10 [(0,(.pv (.int .i64 a))),(1,(.pv (.int .i64 n_))),(5,(.pv (.int .i64 rj)))] σ (B7 (cx w0) Tryz.f69 n R)
def n12:Prop:=
 Z (cAt code 12) 12 [(4,(.pv (.bool t4)))] σ (B7 (cx w0) Tryz.f69 n R)
def b12:Prop:=
 A6 (cx w0) 17 lv n A5 Z (cAt code 12) 12 [(4,(.pv (.bool t4)))] σ (B7 (cx w0) Tryz.f69 n R)
def b0:Prop:=
 A6 (cx w0) 17 lv n A5 Z code 0 (J6 0 [(.pv (.int .i64 a)),(.pv (.int .i64 n_))]) σ (B7 (cx w0) Tryz.f69 n R)
end
variable {Z:XT}{w0:B5}{n:Nat}{R:RT}{σ τ:A2}{a n_ rj:Int}{t4:Bool}
theorem b10_eq:b10 Z w0 n R σ a n_ rj=(
 B1 (decide ((a:Int)≥rj)) (n12 Z w0 n R σ (decide ((a:Int)≤(IntKind.wrap .i64 (2147483647-n_))))) (n12 Z w0 n R σ false)):=by kernel_rfl
theorem n10_in(h:b10 (X w0 n) w0 n R σ a n_ rj):n10 (X w0 n) w0 n R σ a n_ rj:=E0 (S:=A5) (by kernel_rfl) h
theorem b12_eq:b12 Z w0 n R σ t4=(
 F2 (cx w0) n (.pv (.bool t4)) σ R):=by kernel_rfl
theorem n12_in(h:b12 (X w0 n) w0 n R σ t4):n12 (X w0 n) w0 n R σ t4:=E0 (S:=A5) (by kernel_rfl) h
theorem b0_eq:b0 Z w0 n R σ a n_=(
 B1 ((n_:Int)==0) (n10 Z w0 n R σ a n_ 0) (n10 Z w0 n R σ a n_ 1)):=by kernel_rfl
theorem calls(h:b0 (X w0 (List.length σ)) w0 (List.length σ) R σ a n_):A1 (cx w0) I0.id [(.pv (.int .i64 a)),(.pv (.int .i64 n_))] σ R:=
 D3 (J9 w0) (x:=fe) (S:=A5) (I0.ok w0) (by kernel_rfl) h
end I0
namespace E7
def lvs:List (List Nat):=[[0],[0],[1],[1],[1,3,4],[1,3,4],[1,5],[1,5],[1,5],[1,5,6],[1,5,6],[1,5,6],[1,5,6],[1,5,6],[1,5,6,50],[1,5,6],[5],[1,5,6],[1,5,6],[1,5,6],[1,5,6],[5],[5],[5],[62],[],[],[2],[],[],[],[2]]
def lv:Nat→List Nat:=O9 lvs
noncomputable def code:Code:=F3 Tryz.f32
noncomputable def fe:FE:=⟨Tryz.f32,code,lv⟩
def A5:List Nat:=[6,11,20,21]
abbrev X(w0:B5)(n:Nat):XT:=xr (cx w0) 63 lv n
theorem ok(w0:B5):FOK (cx w0) E7.id fe:=⟨Tryz.func32,by kernel_rfl,by kernel_rfl⟩
section
variable (Z:XT)(w0:B5)(n:Nat)(R:RT)(σ:A2)(h_:AV)(ok:Bool)(i:Int)
def q7:QT:=D6 (fun env σ=>Z (cAt code 21) 21 (prune (lv 21) env) σ (B7 (cx w0) Tryz.f32 n R)) (B7 (cx w0) Tryz.f32 n R)
def q10:QT:=H7 0 (q7 Z w0 n R)
def q11:QT:=D6 (fun env σ=>Z (cAt code 10) 10 (prune (lv 10) env) σ (q10 Z w0 n R)) (q10 Z w0 n R)
def n6:Prop:=
 Z (cAt code 6) 6 [(1,h_),(5,(.pv (.bool ok)))] σ (B7 (cx w0) Tryz.f32 n R)
def b6:Prop:=
 A6 (cx w0) 63 lv n A5 Z (cAt code 6) 6 [(1,h_),(5,(.pv (.bool ok)))] σ (B7 (cx w0) Tryz.f32 n R)
def n10:Prop:=
 Z (cAt code 10) 10 [(1,h_),(5,(.pv (.bool ok))),(6,(.pv (.int .i64 i)))] σ (q10 Z w0 n R)
def b11:Prop:=
 A6 (cx w0) 63 lv n A5 Z (cAt code 11) 11 [(1,h_),(5,(.pv (.bool ok))),(6,(.pv (.int .i64 i)))] σ (q11 Z w0 n R)
def n20:Prop:=
 Z (cAt code 20) 20 [(1,h_),(5,(.pv (.bool ok))),(6,(.pv (.int .i64 i)))] σ (q11 Z w0 n R)
def b20:Prop:=
 A6 (cx w0) 63 lv n A5 Z (cAt code 20) 20 [(1,h_),(5,(.pv (.bool ok))),(6,(.pv (.int .i64 i)))] σ (q11 Z w0 n R)
def n21:Prop:=
 Z (cAt code 21) 21 [(5,(.pv (.bool ok)))] σ (B7 (cx w0) Tryz.f32 n R)
def b21:Prop:=
 A6 (cx w0) 63 lv n A5 Z (cAt code 21) 21 [(5,(.pv (.bool ok)))] σ (B7 (cx w0) Tryz.f32 n R)
def b0:Prop:=
 A6 (cx w0) 63 lv n A5 Z code 0 (J6 0 [h_]) σ (B7 (cx w0) Tryz.f32 n R)
end
variable {Z:XT}{w0:B5}{n:Nat}{R:RT}{σ τ:A2}{h_ h_':AV}{ok ok':Bool}{i i':Int}
theorem b6_eq:b6 Z w0 n R σ h_ ok=(
 n10 Z w0 n R σ h_ ok 0):=by kernel_rfl
theorem n6_in(h:b6 (X w0 n) w0 n R σ h_ ok):n6 (X w0 n) w0 n R σ h_ ok:=E0 (S:=A5) (by kernel_rfl) h
theorem n10_in(h:b11 (X w0 n) w0 n R σ h_ ok i):n10 (X w0 n) w0 n R σ h_ ok i:=I5 (J9 w0) (S:=A5) (by kernel_rfl:cAt code 10 = .loop (cAt code 11)) h
theorem b11_eq:b11 Z w0 n R σ h_ ok i=(
 opt (A3 B2 E4.td h_ 4) fun t47=>opt (A4 σ ti9 t47) fun t48=>isS t48 fun t48_1=>B1 (decide ((i:Int)<(List.length (t48_1:List UInt8):Int))) (B1 ok (opt (A3 B2 E4.td h_ 4) fun t55=>opt (A4 σ ti9 t55) fun t56=>isS t56 fun t56_1=>opt (Q8 B2 ti9.td (.pv (.str t56_1)) i) fun t58=>isI .u8 t58 fun t58_1=>n20 Z w0 n R σ h_ ((t58_1:Int) != 10) i) (n20 Z w0 n R σ h_ false i)) (n21 Z w0 n R σ ok)):=by kernel_rfl
theorem b20_eq:b20 Z w0 n R σ h_ ok i=(
 n10 Z w0 n R σ h_ ok (IntKind.wrap .i64 (i+1))):=by kernel_rfl
theorem n20_in(h:b20 (X w0 n) w0 n R σ h_ ok i):n20 (X w0 n) w0 n R σ h_ ok i:=E0 (S:=A5) (by kernel_rfl) h
theorem b21_eq:b21 Z w0 n R σ ok=(
 B1 (!ok) (F2 (cx w0) n (.pv (.int .i64 100)) σ R) (F2 (cx w0) n (.pv (.int .i64 0)) σ R)):=by kernel_rfl
theorem n21_in(h:b21 (X w0 n) w0 n R σ ok):n21 (X w0 n) w0 n R σ ok:=E0 (S:=A5) (by kernel_rfl) h
theorem b0_eq:b0 Z w0 n R σ h_=(
 ((AV.cells h_).all AV.one=true∧(opt (A3 B2 E4.td (.ptr (List.length σ) 0) 5) fun t8=>opt (A4 (σ ++ [.cells 39 (AV.cells h_)]) R7 t8) fun t9=>A1 (cx w0) D9.id [t9] (σ ++ [.cells 39 (AV.cells h_)]) fun r σ'=>isTup r fun vs=>opt ((vs)[0]?) fun t11=>isI .i64 t11 fun t11_1=>isTup r fun vs_1=>opt ((vs_1)[1]?) fun t12=>isI .i64 t12 fun t12_1=>opt (A3 B2 E4.td (.ptr (List.length σ) 0) 5) fun t13=>opt (A4 σ' R7 t13) fun t14=>A1 (cx w0) C8.id [t14] σ' fun r_1 σ'_1=>isB r_1 fun t15=>B1 t15 (opt (A3 B2 E4.td (.ptr (List.length σ) 0) 1) fun t17=>opt (A4 σ'_1 ti3 t17) fun t18=>isI .i64 t18 fun t18_1=>B1 ((t18_1:Int)==t11_1) (opt (A3 B2 E4.td (.ptr (List.length σ) 0) 3) fun t23=>opt (A4 σ'_1 ti3 t23) fun t24=>isI .i64 t24 fun t24_1=>B1 ((t24_1:Int)==t12_1) (opt (A3 B2 E4.td (.ptr (List.length σ) 0) 0) fun t29=>opt (A4 σ'_1 ti3 t29) fun t30=>isI .i64 t30 fun t30_1=>A1 (cx w0) I0.id [(.pv (.int .i64 t30_1)),(.pv (.int .i64 t11_1))] σ'_1 fun r_2 σ'_2=>isB r_2 fun t32=>B1 t32 (opt (A3 B2 E4.td (.ptr (List.length σ) 0) 2) fun t35=>opt (A4 σ'_2 ti3 t35) fun t36=>isI .i64 t36 fun t36_1=>A1 (cx w0) I0.id [(.pv (.int .i64 t36_1)),(.pv (.int .i64 t12_1))] σ'_2 fun r_3 σ'_3=>isB r_3 fun t38=>B1 t38 (opt (A3 B2 E4.td (.ptr (List.length σ) 0) 4) fun t41=>opt (A4 σ'_3 ti9 t41) fun t42=>isS t42 fun t42_1=>n6 Z w0 n R σ'_3 (.ptr (List.length σ) 0) (decide (((List.length (t42_1:List UInt8):Int):Int)≤4096))) (n6 Z w0 n R σ'_3 (.ptr (List.length σ) 0) false)) (n6 Z w0 n R σ'_2 (.ptr (List.length σ) 0) false)) (n6 Z w0 n R σ'_1 (.ptr (List.length σ) 0) false)) (n6 Z w0 n R σ'_1 (.ptr (List.length σ) 0) false)) (n6 Z w0 n R σ'_1 (.ptr (List.length σ) 0) false)))):=by kernel_rfl
theorem calls(h:b0 (X w0 (List.length σ)) w0 (List.length σ) R σ h_):A1 (cx w0) E7.id [h_] σ R:=
 D3 (J9 w0) (x:=fe) (S:=A5) (E7.ok w0) (by kernel_rfl) h
end E7
end Go.Sv
end
