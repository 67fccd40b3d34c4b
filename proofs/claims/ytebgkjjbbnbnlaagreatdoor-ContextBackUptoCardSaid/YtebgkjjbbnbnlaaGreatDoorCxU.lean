/- What the code of Go functions comes to over abstract stores, piece by piece; each equation by the kernel. Printed by a program of this session. The law ContextBack over stores. -/
import Derived.Test.YtebgkjjbbnbnlaaGreatDoorSvT
import Derived.KernelRfl
import Derived.Test.YtebgkjjbbnbnlaaGreatDoorCxBe
import Derived.Test.YtebgkjjbbnbnlaaGreatDoorCxL
set_option linter.unusedVariables false
set_option maxRecDepth 100000
set_option linter.unusedSimpArgs false
section
namespace Go.Sv
open Go Go.Proofs
namespace A8
def lvs : List (List Nat) := [[0], [0], [1], [1], [1, 3, 4], [1, 3, 4], [1, 3, 4], [1, 3, 44], [], [], [2], [1, 3], [1, 3], [1, 3], [1, 5, 6, 7, 8, 9, 10], [1, 5, 6, 7, 8, 9, 10], [1, 5, 6, 7, 8, 9, 10], [1, 5, 6, 7, 84], [], [], [2], [1, 5, 6, 7], [1, 5, 6, 7], [1, 5, 6, 7], [1, 5, 6, 7], [1, 5, 6, 7, 11], [1, 5, 6, 7, 11], [1, 5, 6, 7, 11], [1, 5, 6, 7, 11], [1, 5, 6, 7, 11], [1, 5, 6, 7, 11, 88], [1, 5, 6, 7, 11], [5, 6, 7], [1, 5, 6, 7, 11], [1, 5, 6, 7, 11], [1, 5, 6, 7, 11], [1, 5, 6, 7, 11], [1, 5, 6, 7, 11, 12], [1, 5, 6, 7, 11, 12], [1, 5, 6, 7, 11, 12], [1, 5, 6, 7, 11, 12], [1, 5, 6, 7, 11, 106], [], [], [2], [1, 5, 6, 7, 11], [1, 5, 6, 7, 11], [5, 6, 7], [5, 6, 7], [5, 6, 7, 13, 14], [5, 6, 7, 13, 14], [5, 6, 7, 14, 15, 16, 17, 20], [5, 6, 7, 14, 15, 16, 17, 20], [2]]
def lv : Nat → List Nat := lvOf lvs
noncomputable def code : Code := E6 Tryz.f5
noncomputable def fe : FE := ⟨Tryz.f5, code, lv⟩
def cuts : List Nat := [7, 17, 27, 47, 53]
abbrev X (w0 : Base) (n : Nat) : XT := xr (cx w0) 147 lv n
theorem ok (w0 : Base) : FOK (cx w0) A8.id fe := ⟨Tryz.func5, by kernel_rfl, by kernel_rfl⟩
section
variable (Z : XT) (w0 : Base) (n : Nat) (R : RT) (σ : Store) (j : AV) (s : List UInt8) (t44 : Bool) (a b l_ : AV) (t84 : Bool) (i : Int) (t2 : Bool)
def q5 : QT := thenQ (fun env σ => A4 (cx w0) 147 lv n cuts Z (cAt code 12) 12 (prune (lv 12) env) σ (finQ (cx w0) Tryz.f5 n R)) (finQ (cx w0) Tryz.f5 n R)
def q15 : QT := thenQ (fun env σ => A4 (cx w0) 147 lv n cuts Z (cAt code 22) 22 (prune (lv 22) env) σ (finQ (cx w0) Tryz.f5 n R)) (finQ (cx w0) Tryz.f5 n R)
def q23 : QT := thenQ (fun env σ => Z (cAt code 47) 47 (prune (lv 47) env) σ (finQ (cx w0) Tryz.f5 n R)) (finQ (cx w0) Tryz.f5 n R)
def q26 : QT := G0 0 (q23 Z w0 n R)
def q27 : QT := thenQ (fun env σ => Z (cAt code 26) 26 (prune (lv 26) env) σ (q26 Z w0 n R)) (q26 Z w0 n R)
def n7 : Prop :=
  Z (cAt code 7) 7 [(1, j), (3, (.pv (.str s))), (44, (.pv (.bool t44)))] σ (q5 Z w0 n R)
def b7 : Prop :=
  A4 (cx w0) 147 lv n cuts Z (cAt code 7) 7 [(1, j), (3, (.pv (.str s))), (44, (.pv (.bool t44)))] σ (q5 Z w0 n R)
def n17 : Prop :=
  Z (cAt code 17) 17 [(1, j), (5, a), (6, b), (7, l_), (84, (.pv (.bool t84)))] σ (q15 Z w0 n R)
def b17 : Prop :=
  A4 (cx w0) 147 lv n cuts Z (cAt code 17) 17 [(1, j), (5, a), (6, b), (7, l_), (84, (.pv (.bool t84)))] σ (q15 Z w0 n R)
def n26 : Prop :=
  Z (cAt code 26) 26 [(1, j), (5, a), (6, b), (7, l_), (11, (.pv (.int .i64 i)))] σ (q26 Z w0 n R)
def b27 : Prop :=
  A4 (cx w0) 147 lv n cuts Z (cAt code 27) 27 [(1, j), (5, a), (6, b), (7, l_), (11, (.pv (.int .i64 i)))] σ (q27 Z w0 n R)
def n47 : Prop :=
  Z (cAt code 47) 47 [(5, a), (6, b), (7, l_)] σ (finQ (cx w0) Tryz.f5 n R)
def b47 : Prop :=
  A4 (cx w0) 147 lv n cuts Z (cAt code 47) 47 [(5, a), (6, b), (7, l_)] σ (finQ (cx w0) Tryz.f5 n R)
def n53 : Prop :=
  Z (cAt code 53) 53 [(2, (.pv (.bool t2)))] σ (finQ (cx w0) Tryz.f5 n R)
def b53 : Prop :=
  A4 (cx w0) 147 lv n cuts Z (cAt code 53) 53 [(2, (.pv (.bool t2)))] σ (finQ (cx w0) Tryz.f5 n R)
def b0 : Prop :=
  A4 (cx w0) 147 lv n cuts Z code 0 (argsE 0 [j]) σ (finQ (cx w0) Tryz.f5 n R)
end
variable {Z : XT} {w0 : Base} {n : Nat} {R : RT} {σ τ : Store} {j a b l_ j' a' b' l_' : AV} {s : List UInt8} {t44 t84 t2 : Bool} {i i' : Int}
theorem b7_eq : b7 Z w0 n R σ j s t44 = (
  condB t44 (A1 (cx w0) J2.id [] σ fun r σ' => isB r fun t45 => FinK (cx w0) n (.pv (.bool t45)) σ' R) (A1 (cx w0) B0.id [(.pv (.str s))] σ fun r σ' => isTup r fun vs => opt ((vs)[0]?) fun t49 => isTup r fun vs_1 => opt ((vs_1)[1]?) fun t50 => isTup r fun vs_2 => opt ((vs_2)[2]?) fun t51 => isTup r fun vs_3 => opt ((vs_3)[3]?) fun t52 => isS t52 fun t52_1 => isTup r fun vs_4 => opt ((vs_4)[4]?) fun t53 => isI .i64 t53 fun t53_1 => isTup r fun vs_5 => opt ((vs_5)[5]?) fun t54 => opt (D0 ((σ' ++ [.cells 23 (AV.ofValue ti23.zero).cells]) ++ [.cells 23 (AV.ofValue ti23.zero).cells]) ti23 (.ptr (List.length σ') 0) t49) fun σ'_1 => opt (D0 σ'_1 ti23 (.ptr (List.length (σ' ++ [.cells 23 (AV.ofValue ti23.zero).cells])) 0) t50) fun σ'_2 => opt (aLoad σ'_2 ti23 (.ptr (List.length σ') 0)) fun t55 => opt (A2 tabS ti26.td j 0) fun t56 => opt (aLoad σ'_2 ti23 t56) fun t57 => aBinK tabS 23 false .neq t55 t57 fun v => isB v fun b => condB b (n17 Z w0 n R σ'_2 j (.ptr (List.length σ') 0) (.ptr (List.length (σ' ++ [.cells 23 (AV.ofValue ti23.zero).cells])) 0) t51 true) (opt (aLoad σ'_2 ti23 (.ptr (List.length (σ' ++ [.cells 23 (AV.ofValue ti23.zero).cells])) 0)) fun t60 => opt (A2 tabS ti26.td j 1) fun t61 => opt (aLoad σ'_2 ti23 t61) fun t62 => aBinK tabS 23 false .neq t60 t62 fun v_1 => isB v_1 fun b_1 => condB b_1 (n17 Z w0 n R σ'_2 j (.ptr (List.length σ') 0) (.ptr (List.length (σ' ++ [.cells 23 (AV.ofValue ti23.zero).cells])) 0) t51 true) (condB (!((t52_1 : List UInt8) == [])) (n17 Z w0 n R σ'_2 j (.ptr (List.length σ') 0) (.ptr (List.length (σ' ++ [.cells 23 (AV.ofValue ti23.zero).cells])) 0) t51 true) (condB ((t53_1 : Int) != 0) (n17 Z w0 n R σ'_2 j (.ptr (List.length σ') 0) (.ptr (List.length (σ' ++ [.cells 23 (AV.ofValue ti23.zero).cells])) 0) t51 true) (aBinK tabS 29 true .neq t54 (.pv (.raw .nilIface)) fun v_2 => isB v_2 fun b_2 => condB b_2 (n17 Z w0 n R σ'_2 j (.ptr (List.length σ') 0) (.ptr (List.length (σ' ++ [.cells 23 (AV.ofValue ti23.zero).cells])) 0) t51 true) (opt (aLen ti24.td t51) fun t79 => isI .i64 t79 fun t79_1 => opt (A2 tabS ti26.td j 2) fun t80 => opt (aLoad σ'_2 ti24 t80) fun t81 => opt (aLen ti24.td t81) fun t82 => isI .i64 t82 fun t82_1 => n17 Z w0 n R σ'_2 j (.ptr (List.length σ') 0) (.ptr (List.length (σ' ++ [.cells 23 (AV.ofValue ti23.zero).cells])) 0) t51 ((t79_1 : Int) != t82_1)))))))) := by kernel_rfl
theorem n7_in (h : b7 (X w0 n) w0 n R σ j s t44) : n7 (X w0 n) w0 n R σ j s t44 := xr_in (S := cuts) (by kernel_rfl) h
theorem b17_eq : b17 Z w0 n R σ j a b l_ t84 = (
  condB t84 (FinK (cx w0) n (.pv (.bool false)) σ R) (n26 Z w0 n R σ j a b l_ 0)) := by kernel_rfl
theorem n17_in (h : b17 (X w0 n) w0 n R σ j a b l_ t84) : n17 (X w0 n) w0 n R σ j a b l_ t84 := xr_in (S := cuts) (by kernel_rfl) h
theorem n26_in (h : b27 (X w0 n) w0 n R σ j a b l_ i) : n26 (X w0 n) w0 n R σ j a b l_ i := H5 (cxOK w0) (S := cuts) (by kernel_rfl : cAt code 26 = .loop (cAt code 27)) h
theorem n26_weak (e : EWeak (cx w0) n [(1, j), (5, a), (6, b), (7, l_), (11, (.pv (.int .i64 i)))] σ [(1, j'), (5, a'), (6, b'), (7, l_'), (11, (.pv (.int .i64 i')))] τ) (h : n26 (X w0 n) w0 n R τ j' a' b' l_' i') : n26 (X w0 n) w0 n R σ j a b l_ i := O3 (L := lv) (k := 26) (by kernel_rfl : cAt code 26 = .loop (cAt code 27)) e h
theorem b27_eq : b27 Z w0 n R σ j a b l_ i = (
  opt (aLen ti24.td l_) fun t87 => isI .i64 t87 fun t87_1 => condB (decide ((i : Int) < t87_1)) (opt (A2 tabS ti26.td j 2) fun t91 => opt (aLoad σ ti24 t91) fun t92 => opt (B6 σ tabS ti24.td t92 i) fun t94 => opt (aLoad σ ti39 t94) fun t95 => opt (D0 (σ ++ [.cells 39 (AV.ofValue ti39.zero).cells]) ti39 (.ptr (List.length σ) 0) t95) fun σ' => opt (A2 tabS ti39.td (.ptr (List.length σ) 0) 5) fun t96 => opt (aLoad σ' ti37 t96) fun t97 => A1 (cx w0) B4.id [t97] σ' fun r σ'_1 => opt (A2 tabS ti39.td (.ptr (List.length σ) 0) 5) fun t99 => opt (D0 σ'_1 ti37 t99 r) fun σ'_2 => opt (B6 σ'_2 tabS ti24.td l_ i) fun t102 => opt (aLoad σ'_2 ti39 t102) fun t103 => opt (aLoad σ'_2 ti39 (.ptr (List.length σ) 0)) fun t104 => A1 (cx w0) C7.id [t103, t104] σ'_2 fun r_1 σ'_3 => isB r_1 fun t105 => condB (!t105) (FinK (cx w0) n (.pv (.bool false)) σ'_3 R) (n26 Z w0 n R σ'_3 j a b l_ (IntKind.wrap .i64 (i + 1)))) (n47 Z w0 n R σ a b l_)) := by kernel_rfl
theorem b47_eq : b47 Z w0 n R σ a b l_ = (
  opt (aLoad σ ti23 a) fun t108 => opt (aLoad σ ti23 b) fun t109 => A1 (cx w0) F4.id [t108, t109, l_] σ fun r σ' => isTup r fun vs => opt ((vs)[0]?) fun t112 => isS t112 fun t112_1 => isTup r fun vs_1 => opt ((vs_1)[1]?) fun t113 => A1 (cx w0) B0.id [(.pv (.str t112_1))] σ' fun r_1 σ'_1 => isTup r_1 fun vs_2 => opt ((vs_2)[0]?) fun t117 => isTup r_1 fun vs_3 => opt ((vs_3)[1]?) fun t118 => isTup r_1 fun vs_4 => opt ((vs_4)[2]?) fun t119 => isTup r_1 fun vs_5 => opt ((vs_5)[3]?) fun t120 => isS t120 fun t120_1 => isTup r_1 fun vs_6 => opt ((vs_6)[4]?) fun t121 => isI .i64 t121 fun t121_1 => isTup r_1 fun vs_7 => opt ((vs_7)[5]?) fun t122 => opt (D0 ((σ'_1 ++ [.cells 23 (AV.ofValue ti23.zero).cells]) ++ [.cells 23 (AV.ofValue ti23.zero).cells]) ti23 (.ptr (List.length σ'_1) 0) t117) fun σ'_2 => opt (D0 σ'_2 ti23 (.ptr (List.length (σ'_1 ++ [.cells 23 (AV.ofValue ti23.zero).cells])) 0) t118) fun σ'_3 => aBinK tabS 29 true .eql t113 (.pv (.raw .nilIface)) fun v => isB v fun b_1 => condB b_1 (aBinK tabS 29 true .eql t122 (.pv (.raw .nilIface)) fun v_1 => isB v_1 fun b_2 => condB b_2 (opt (aLoad σ'_3 ti23 a) fun t130 => opt (aLoad σ'_3 ti23 (.ptr (List.length σ'_1) 0)) fun t131 => aBinK tabS 23 false .eql t130 t131 fun v_2 => isB v_2 fun b_3 => condB b_3 (opt (aLoad σ'_3 ti23 b) fun t135 => opt (aLoad σ'_3 ti23 (.ptr (List.length (σ'_1 ++ [.cells 23 (AV.ofValue ti23.zero).cells])) 0)) fun t136 => aBinK tabS 23 false .eql t135 t136 fun v_3 => isB v_3 fun b_4 => condB b_4 (A1 (cx w0) C8.id [l_, t119] σ'_3 fun r_2 σ'_4 => isB r_2 fun t142 => condB t142 (A1 (cx w0) J2.id [] σ'_4 fun r_3 σ'_5 => isB r_3 fun t145 => n53 Z w0 n R σ'_5 t145) (n53 Z w0 n R σ'_4 false)) (n53 Z w0 n R σ'_3 false)) (n53 Z w0 n R σ'_3 false)) (n53 Z w0 n R σ'_3 false)) (n53 Z w0 n R σ'_3 false)) := by kernel_rfl
theorem n47_in (h : b47 (X w0 n) w0 n R σ a b l_) : n47 (X w0 n) w0 n R σ a b l_ := xr_in (S := cuts) (by kernel_rfl) h
theorem b53_eq : b53 Z w0 n R σ t2 = (
  FinK (cx w0) n (.pv (.bool t2)) σ R) := by kernel_rfl
theorem n53_in (h : b53 (X w0 n) w0 n R σ t2) : n53 (X w0 n) w0 n R σ t2 := xr_in (S := cuts) (by kernel_rfl) h
theorem b0_eq : b0 Z w0 n R σ j = (
  ((AV.cells j).all AV.one = true ∧ (opt (A2 tabS ti26.td (.ptr (List.length σ) 0) 0) fun t22 => opt (aLoad (σ ++ [.cells 26 (AV.cells j)]) ti23 t22) fun t23 => opt (A2 tabS ti26.td (.ptr (List.length σ) 0) 1) fun t24 => opt (aLoad (σ ++ [.cells 26 (AV.cells j)]) ti23 t24) fun t25 => opt (A2 tabS ti26.td (.ptr (List.length σ) 0) 2) fun t26 => opt (aLoad (σ ++ [.cells 26 (AV.cells j)]) ti24 t26) fun t27 => A1 (cx w0) E0.id [t27] (σ ++ [.cells 26 (AV.cells j)]) fun r σ' => ((opt (aLoad σ' ti23 t22) fun t23_1 => ((t23_1 : AV) = t23)) ∧ (((opt (aLoad σ' ti23 t24) fun t25_1 => ((t25_1 : AV) = t25)) ∧ (A1 (cx w0) F4.id [t23, t25, r] σ' fun r_1 σ'_1 => isTup r_1 fun vs => opt ((vs)[0]?) fun t30 => isS t30 fun t30_1 => isTup r_1 fun vs_1 => opt ((vs_1)[1]?) fun t31 => aBinK tabS 29 true .neq t31 (.pv (.raw .nilIface)) fun v => isB v fun b => condB b (n7 Z w0 n R σ'_1 (.ptr (List.length σ) 0) t30_1 true) (opt (A2 tabS ti26.td (.ptr (List.length σ) 0) 2) fun t35 => opt (aLoad σ'_1 ti24 t35) fun t36 => opt (aLen ti24.td t36) fun t37 => isI .i64 t37 fun t37_1 => condB ((t37_1 : Int) == 0) (n7 Z w0 n R σ'_1 (.ptr (List.length σ) 0) t30_1 true) (n7 Z w0 n R σ'_1 (.ptr (List.length σ) 0) t30_1 (decide (((List.length (t30_1 : List UInt8) : Int) : Int) > 4194304))))))))))) := by kernel_rfl
theorem calls (h : b0 (X w0 (List.length σ)) w0 (List.length σ) R σ j) : A1 (cx w0) A8.id [j] σ R :=
  D3 (cxOK w0) (x := fe) (S := cuts) (A8.ok w0) (by kernel_rfl) h
end A8
end Go.Sv
end
section
namespace Go.Sv
section
open Go Go.RowKit Go.Proofs
variable {w0 : Base} {σ : Store} {R : AV → Store → Prop}
theorem eq_nm (p s : Ln) : aEqT tabS ti23 false (.pv (nmP p s)) (.pv (nmP p s)) = some true := by
  have h : aEqT tabS ti23 false (.pv (nmP p s)) (.pv (nmP p s)) = some ((p == p) && ((s == s) && true)) := rfl
  rw [h]; simp
theorem neq_nm {p s : Ln} {k : AV → Prop} (hk : k (.pv (.bool false))) : aBinK tabS 23 false .neq (.pv (nmP p s)) (.pv (nmP p s)) k := neq_eq rfl (eq_nm p s) hk
theorem eql_nm {p s : Ln} {k : AV → Prop} (hk : k (.pv (.bool true))) : aBinK tabS 23 false .eql (.pv (nmP p s)) (.pv (nmP p s)) k := by
  show opt (tabS 23) fun ti => opt (aEqT tabS ti false (.pv (nmP p s)) (.pv (nmP p s))) fun b => k (.pv (.bool b))
  exact A0 rfl (A0 (eq_nm p s) hk)
theorem faults_no {p s p' s' : Ln} {l : List Hnk} (o : PrOK p s p' s' l) (hf : O8 p s p' s' l = 0) : L2 p s = true ∧ L2 p' s' = true ∧ l.all H0 = true ∧ (∀ h ∈ l, H0 h = true ∧ HnkOK h) ∧ inOrd l = true := by
  unfold O8 at hf
  split at hf
  · cases hf
  · rename_i g1
    split at hf
    · cases hf
    · rename_i g2
      split at hf
      · cases hf
      · rename_i g3
        have g1 : (L2 p s && L2 p' s') = true := by simpa using g1
        have g2 : l.all H0 = true := by simpa using g2
        have g3 : inOrd l = true := by simpa using g3
        rw [Bool.and_eq_true] at g1
        exact ⟨g1.1, g1.2, g2, fun h hh => ⟨List.all_eq_true.1 g2 h hh, o.ok h hh⟩, g3⟩
abbrev bcS (p s p' s' : Ln) (l : List Hnk) : Store := jobS p s p' s' l ++ [nmX p s, nmX p' s']
theorem cb53 {σ : Store} (t : Bool) (ht : t = true) : A8.n53 (A8.X w0 0) w0 0 (fun r' _ => r' = .pv (.bool true)) σ t := by
  refine A8.n53_in ?_
  rw [A8.b53_eq, ht]
  exact C5 (Nat.zero_le _) rfl
theorem cb47 (L : Laid w0.w) {p s p' s' : Ln} {l : List Hnk} (o : PrOK p s p' s' l) (hf : O8 p s p' s' l = 0) (hne : l ≠ []) (hl : (Q7 p s p' s' l).length ≤ 4194304) :
    A8.n47 (A8.X w0 0) w0 0 (fun r' _ => r' = .pv (.bool true)) (bcS p s p' s' l) (.ptr 1 0) (.ptr 2 0) (hnksA (l.map srtH)) := by
  obtain ⟨h1, h2, hv, hok, ho⟩ := faults_no o hf
  have hlen := o.len
  have e0 : (if O8 p s p' s' (l.map srtH) = 0 then Q7 p s p' s' (l.map srtH) else []) = Q7 p s p' s' l := by rw [fault_srt, hf, if_pos rfl, cprint_srt hv]
  have e1 : errA (O8 p s p' s' (l.map srtH)) = .pv (.raw .nilIface) := by rw [fault_srt, hf]; rfl
  refine A8.n47_in ?_
  rw [A8.b47_eq]
  repeat ((with_reducible first | apply A0 | apply wI | apply wT | apply wP | apply wS | apply wB); exact rfl)
  refine cPrint_spec L o.srt ?_
  unfold X3
  rw [e0, e1]
  repeat ((with_reducible first | apply A0 | apply wI | apply wT | apply wP | apply wS | apply wB); exact rfl)
  refine Parse_spec12 L (by omega) (fun w hw => ?_)
  obtain rfl := out_back h1 h2 hok ho hne hl hw
  repeat ((with_reducible first | apply A0 | apply wI | apply wT | apply wP | apply wS | apply wB); exact rfl)
  rw [eql_raw]
  refine A0 rfl (A0 (v := true) rfl (F5 ?_))
  rw [M5, eql_raw]
  refine A0 rfl (A0 (v := true) rfl (F5 ?_))
  rw [M5]
  repeat ((with_reducible first | apply A0 | apply wI | apply wT | apply wP | apply wS | apply wB); exact rfl)
  refine eql_nm (F5 ?_)
  rw [M5]
  repeat ((with_reducible first | apply A0 | apply wI | apply wT | apply wP | apply wS | apply wB); exact rfl)
  refine eql_nm (F5 ?_)
  rw [M5]
  refine same12_spec L (l := l.map srtH) (by rw [List.length_map]; exact hlen) (fun x hx => (o.srt.ok x hx).rows) (F5 ?_)
  rw [M5]
  exact works_spec L (F5 (cb53 _ rfl))
theorem cb_loop (L : Laid w0.w) {p s p' s' : Ln} {l : List Hnk} (o : PrOK p s p' s' l) (hf : O8 p s p' s' l = 0) (hne : l ≠ []) (hl : (Q7 p s p' s' l).length ≤ 4194304) : ∀ (r : List Hnk) (k : Nat), l.drop k = r →
    A8.n26 (A8.X w0 0) w0 0 (fun r' _ => r' = .pv (.bool true)) (bcS p s p' s' l) (.ptr 0 0) (.ptr 1 0) (.ptr 2 0) (hnksA (l.map srtH)) k
  | [], k, hd => by
    have hk := M0 hd
    refine A8.n26_in ?_
    rw [A8.b27_eq]
    repeat ((with_reducible first | apply A0 | apply wI | apply wT | apply wP | apply wS | apply wB); exact rfl)
    rw [A7, List.length_map, List.length_map, if_neg (by omega)]
    exact cb47 L o hf hne hl
  | h :: r, k, hd => by
    obtain ⟨h1, h2, hk⟩ := H4 hd
    have hlen := o.len
    have ok : HnkOK h := o.ok h (List.mem_of_getElem? h1)
    have g1 : (l.map hnkP)[k]? = some (hnkP h) := by rw [List.getElem?_map, h1]; rfl
    have g2 : ((l.map srtH).map hnkP)[k]? = some (hnkP (srtH h)) := by rw [List.getElem?_map, List.getElem?_map, h1]; rfl
    refine A8.n26_in ?_
    rw [A8.b27_eq]
    repeat ((with_reducible first | apply A0 | apply wI | apply wT | apply wP | apply wS | apply wB); exact rfl)
    rw [A7, List.length_map, List.length_map, if_pos (by omega)]
    repeat ((with_reducible first | apply A0 | apply wI | apply wT | apply wP | apply wS | apply wB); exact rfl)
    refine A0 (K7 tab39 g1 rfl) ?_
    repeat ((with_reducible first | apply A0 | apply wI | apply wT | apply wP | apply wS | apply wB); exact rfl)
    refine Sorted_spec L (l := h.rows) (by have := ok.rows; omega) ?_
    repeat ((with_reducible first | apply A0 | apply wI | apply wT | apply wP | apply wS | apply wB); exact rfl)
    refine A0 (K7 tab39 g2 rfl) ?_
    repeat ((with_reducible first | apply A0 | apply wI | apply wT | apply wP | apply wS | apply wB); exact rfl)
    refine same1_spec L (h := srtH h) ok.srt.rows (F5 ?_)
    rw [Bool.not_true, I5, I3 (n := l.length) (by omega) (by omega)]
    refine A8.n26_weak (EWeak.drop (τ := bcS p s p' s' l) glob0 (Nat.le_of_ble_eq_true rfl) rfl rfl) ?_
    exact cb_loop L o hf hne hl r (k + 1) h2
theorem cb17 (L : Laid w0.w) {p s p' s' : Ln} {l : List Hnk} (o : PrOK p s p' s' l) (hf : O8 p s p' s' l = 0) (hne : l ≠ []) (hl : (Q7 p s p' s' l).length ≤ 4194304) (t : Bool) (ht : t = false) :
    A8.n17 (A8.X w0 0) w0 0 (fun r' _ => r' = .pv (.bool true)) (bcS p s p' s' l) (.ptr 0 0) (.ptr 1 0) (.ptr 2 0) (hnksA (l.map srtH)) t := by
  refine A8.n17_in ?_
  rw [A8.b17_eq, ht, I5]
  exact cb_loop L o hf hne hl l 0 rfl
theorem cback_law (L : Laid w0.w) {p s p' s' : List UInt8} {l : List Hnk} (o : PrOK p s p' s' l) : A1 (cx w0) A8.id [.pv (.agg [.str p, .str s, .str p', .str s', .sl (l.map hnkP)])] [] fun r _ => r = .pv (.bool true) := by
  have hrows : ∀ x ∈ l, x.rows.length ≤ 1048576 := fun x hx => (o.ok x hx).rows
  have key : ∀ (t : Ln) (b : Bool), (b = false → O8 p s p' s' l = 0 ∧ l ≠ [] ∧ t = Q7 p s p' s' l ∧ t.length ≤ 4194304) → A8.n7 (A8.X w0 0) w0 0 (fun r' _ => r' = .pv (.bool true)) (jobS p s p' s' l) (.ptr 0 0) t b := by
    intro t b h
    refine A8.n7_in ?_
    rw [A8.b7_eq]
    refine A5 (fun g => ?_) (fun g => ?_)
    · exact works_spec L (F5 (C5 (Nat.zero_le _) rfl))
    · obtain ⟨hf, hne, rfl, hl⟩ := h g
      obtain ⟨h1, h2, hv, hok, ho⟩ := faults_no o hf
      refine Parse_spec12 L (by omega) (fun w hw => ?_)
      obtain rfl := out_back h1 h2 hok ho hne hl hw
      repeat ((with_reducible first | apply A0 | apply wI | apply wT | apply wP | apply wS | apply wB); exact rfl)
      refine neq_nm (F5 ?_)
      rw [I5]
      repeat ((with_reducible first | apply A0 | apply wI | apply wT | apply wP | apply wS | apply wB); exact rfl)
      refine neq_nm (F5 ?_)
      rw [I5, E3, P0, if_pos rfl, M1, if_pos rfl, Q3]
      refine A0 rfl (A0 (v := true) rfl (F5 ?_))
      rw [Bool.not_true, I5]
      repeat ((with_reducible first | apply A0 | apply wI | apply wT | apply wP | apply wS | apply wB); exact rfl)
      exact cb17 L o hf hne hl _ (by simp)
  refine A8.calls ?_
  rw [A8.b0_eq]
  refine ⟨rfl, ?_⟩
  repeat ((with_reducible first | apply A0 | apply wI | apply wT | apply wP | apply wS | apply wB); exact rfl)
  refine twins_spec L o.len hrows ?_
  refine ⟨rfl, rfl, ?_⟩
  repeat ((with_reducible first | apply A0 | apply wI | apply wT | apply wP | apply wS | apply wB); exact rfl)
  refine cPrint_spec L o ?_
  unfold X3
  repeat ((with_reducible first | apply A0 | apply wI | apply wT | apply wP | apply wS | apply wB); exact rfl)
  by_cases h0 : O8 p s p' s' l = 0
  · rw [h0]
    simp only [if_true]
    show aBinK tabS _ true .neq (.pv (.raw .nilIface)) (.pv (.raw .nilIface)) _
    rw [Q3]
    refine A0 rfl (A0 (v := true) rfl (F5 ?_))
    rw [Bool.not_true, I5]
    repeat ((with_reducible first | apply A0 | apply wI | apply wT | apply wP | apply wS | apply wB); exact rfl)
    rw [G4]
    refine B8 (fun g => ?_) (fun g => ?_)
    · exact key _ true (fun e => by cases e)
    · refine key _ _ (fun e => ⟨h0, fun e2 => g (by rw [e2]; rfl), rfl, ?_⟩)
      have := of_decide_eq_false e
      omega
  · have e : errA (O8 p s p' s' l) = .pv (.iface 63 (.int .i64 (O8 p s p' s' l))) := by unfold errA; rw [if_neg h0]
    rw [e, if_neg h0, Q3]
    refine A0 rfl (A0 (v := false) rfl (F5 ?_))
    rw [Bool.not_false, M5]
    exact key _ true (fun e => by cases e)
open Go.Proofs.YtebgkjjbbnbnlaaGreatDoor in
theorem ContextBack_spec {w0 : Base} (L : Laid w0.w) {H : Type} {d0 : DataW H} {ds : List (DataW H)} (hT : hasT tabS 12 26 (toPV d0)) (hk : Rows.uptoSmall H (d0 :: ds) = true) : A1 (cx w0) A8.id [.pv (toPV d0)] [] fun r _ => r = .pv (.bool true) := by
  obtain ⟨p, s, p', s', l, e, o, _⟩ := job_data hT hk
  rw [e]
  exact cback_law L o
end
end Go.Sv
end
