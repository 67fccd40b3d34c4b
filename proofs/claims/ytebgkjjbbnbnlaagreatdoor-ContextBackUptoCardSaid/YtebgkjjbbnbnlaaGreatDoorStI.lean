/- Names in quotes: what both sides answer. Names in quotes: what the code answers. A number's text, by the document's Digits. What the code of Go functions comes to over abstract stores, piece by piece; each equation by the kernel. Printed by a program of this session. -/
import Derived.Test.YtebgkjjbbnbnlaaGreatDoorFnE
import Derived.Test.YtebgkjjbbnbnlaaGreatDoorSvY
import Derived.KernelRfl
import Derived.Test.YtebgkjjbbnbnlaaGreatDoorSvT
import Derived.Lib.ItoaLen
set_option linter.unusedVariables false
set_option linter.unusedSimpArgs false
set_option maxRecDepth 100000
section
namespace Go.Sv
open Go Go.RowKit Go.Proofs
def letN (k : Nat) : Nat := match k with
  | 7 => 97 | 8 => 98 | 9 => 116 | 10 => 110 | 11 => 118 | 12 => 102 | 13 => 114 | 34 => 34 | 92 => 92 | _ => 0
def octN (k : Nat) : List UInt8 := [92, UInt8.ofNat (48 + k / 64), UInt8.ofNat (48 + k / 8 % 8), UInt8.ofNat (48 + k % 8)]
def escN (k : Nat) : List UInt8 := if letN k ≠ 0 then [92, UInt8.ofNat (letN k)] else if k < 32 ∨ 127 ≤ k then octN k else [UInt8.ofNat k]
def esc (c : UInt8) : List UInt8 := escN c.toNat
def badB (c : UInt8) : Bool := decide ((c.toNat : Int) < 33) || (decide ((c.toNat : Int) ≥ 127) || (((c.toNat : Int) == 34) || ((c.toNat : Int) == 92)))
def needsF (s : List UInt8) : Bool := s == [] || s.any badB
def quoteF (s : List UInt8) : List UInt8 := if needsF s = true then [34] ++ s.flatMap esc ++ [34] else s
noncomputable def feE : List (FuncId × FE) := [(N2.id, N2.fe), (O4.id, O4.fe)]
theorem feE_ok (w0 : Base) : FEsOK (cx w0) feE := ⟨N2.ok w0, O4.ok w0, trivial⟩
theorem letter_run (w0 : Base) : (List.range 256).map (fun k => rcall (cx w0) (feTab feE) (primOf prims) 1000 20 N2.id [.pv (.int .u8 (Int.ofNat k))] []) = (List.range 256).map (fun k => some (.tup [.pv (.int .u8 (Int.ofNat (letN k))), .pv (.bool (!Nat.beq (letN k) 0))], [])) := by kernel_rfl
theorem range_get {β : Type} {f g : Nat → β} {n : Nat} (h : (List.range n).map f = (List.range n).map g) {k : Nat} (hk : k < n) : f k = g k := by
  have := congrArg (fun l => l[k]?) h
  simpa [hk] using this
theorem oct_run : (List.range 256).map (fun k => [IntKind.wrap .u8 (48 + (Int.fdiv (Int.ofNat k) (2 ^ (min (6 : Int).toNat (IntKind.bits .u8))))), IntKind.wrap .u8 (48 + (IntKind.wrap .u8 (BitVec.ofInt (IntKind.bits .u8) (Int.fdiv (Int.ofNat k) (2 ^ (min (3 : Int).toNat (IntKind.bits .u8)))) &&& BitVec.ofInt (IntKind.bits .u8) 7).toNat)), IntKind.wrap .u8 (48 + (IntKind.wrap .u8 (BitVec.ofInt (IntKind.bits .u8) (Int.ofNat k) &&& BitVec.ofInt (IntKind.bits .u8) 7).toNat))]) =
    (List.range 256).map (fun k => [Int.ofNat (48 + k / 64), Int.ofNat (48 + k / 8 % 8), Int.ofNat (48 + k % 8)]) := by decide +kernel
end Go.Sv
end
section
namespace Go.Sv
open Go Go.RowKit Go.Proofs
theorem escN_len (k : Nat) : (escN k).length ≤ 4 := by
  unfold escN; repeat' split
  all_goals simp [octN]
theorem flat_len : ∀ s : List UInt8, (s.flatMap esc).length ≤ 4 * s.length
  | [] => by simp
  | c :: r => by
    have := flat_len r
    have h : (esc c).length ≤ 4 := escN_len c.toNat
    rw [List.flatMap_cons, List.length_append, List.length_cons]
    omega
theorem quoteF_len (s : List UInt8) : (quoteF s).length ≤ 4 * s.length + 2 := by
  have := flat_len s
  unfold quoteF
  split
  · rw [List.length_append, List.length_append]; show 1 + _ + 1 ≤ _; omega
  · omega
section
variable {w0 : Base} {σ : Store} {R : AV → Store → Prop}
theorem letter_spec (L : Laid w0.w) {c : UInt8} (hR : R (.tup [.pv (.int .u8 (letN c.toNat : Nat)), .pv (.bool (!Nat.beq (letN c.toNat) 0))]) σ) : A1 (cx w0) N2.id [.pv (.int .u8 c.toNat)] σ R :=
  A1.alone L rfl (fun w1 L1 => run_calls L1 (feE_ok w1) (range_get (letter_run w1) c.toNat_lt) rfl) rfl hR
theorem needs_loop (name : List UInt8) (hx : name.length ≤ 140737488355328) : ∀ (r : List UInt8) (k : Nat), name.drop k = r → R (.pv (.bool (r.any badB))) σ → G7.n14 (G7.X w0 σ.length) w0 σ.length R σ name name.length k
  | [], k, h, hR => by
    have hk := M0 h
    refine G7.n14_in ?_
    rw [G7.b15_eq, A7, if_neg (by omega)]
    refine G7.n35_in ?_
    rw [G7.b35_eq]
    exact O0 hR
  | c :: r, k, h, hR => by
    obtain ⟨h1, h2, hk⟩ := H4 h
    have N : ∀ t, t = badB c → G7.n29 (G7.X w0 σ.length) w0 σ.length R σ name name.length k t := by
      rintro t rfl
      refine G7.n29_in ?_
      rw [G7.b29_eq]
      rw [List.any_cons] at hR
      refine A5 (fun g => O0 ?_) (fun g => ?_)
      · rw [g, Bool.true_or] at hR; exact hR
      · rw [g, Bool.false_or] at hR
        rw [I3 hk (by omega)]
        exact needs_loop name hx r (k + 1) h2 hR
    refine G7.n14_in ?_
    rw [G7.b15_eq, A7, if_pos (by omega)]
    refine A0 (R0 h1) (K2 ?_)
    refine A5 (fun g1 => N _ ?_) (fun g1 => ?_)
    · simp only [badB, g1, Bool.true_or]
    refine A5 (fun g2 => N _ ?_) (fun g2 => ?_)
    · simp only [badB, g2, Bool.true_or, Bool.or_true]
    refine A5 (fun g3 => N _ ?_) (fun g3 => N _ ?_)
    · simp only [badB, g3, Bool.true_or, Bool.or_true]
    · simp only [badB, g1, g2, g3, Bool.false_or]
theorem needs_spec {name : List UInt8} (hx : name.length ≤ 140737488355328) (hR : R (.pv (.bool (needsF name))) σ) : A1 (cx w0) G7.id [.pv (.str name)] σ R := by
  refine G7.calls ?_
  rw [G7.b0_eq]
  unfold needsF at hR
  refine A5 (fun g => O0 ?_) (fun g => needs_loop name hx name 0 rfl ?_)
  · rw [g, Bool.true_or] at hR; exact hR
  · rw [g, Bool.false_or] at hR; exact hR
theorem oct_pv (c : UInt8) : [PV.int .u8 92, .int .u8 (IntKind.wrap .u8 (48 + (Int.fdiv (c.toNat : Int) (2 ^ (min (6 : Int).toNat (IntKind.bits .u8)))))), .int .u8 (IntKind.wrap .u8 (48 + (IntKind.wrap .u8 (BitVec.ofInt (IntKind.bits .u8) (Int.fdiv (c.toNat : Int) (2 ^ (min (3 : Int).toNat (IntKind.bits .u8)))) &&& BitVec.ofInt (IntKind.bits .u8) 7).toNat))), .int .u8 (IntKind.wrap .u8 (48 + (IntKind.wrap .u8 (BitVec.ofInt (IntKind.bits .u8) (c.toNat : Int) &&& BitVec.ofInt (IntKind.bits .u8) 7).toNat)))] = E7 (octN c.toNat) := by
  have hc := c.toNat_lt
  have h := range_get oct_run hc
  have e1 := (List.cons.inj h).1
  have e2 := (List.cons.inj (List.cons.inj h).2).1
  have e3 := (List.cons.inj (List.cons.inj (List.cons.inj h).2).2).1
  simp only [Int.ofNat_eq_natCast] at e1 e2 e3
  rw [e1, e2, e3]
  have f : ∀ n : Nat, n < 256 → (((UInt8.ofNat n).toNat : Nat) : Int) = (n : Int) := fun n h => by rw [UInt8.toNat_ofNat_of_lt' h]
  simp only [E7, octN, List.map_cons, List.map_nil]
  rw [f _ (by omega), f _ (by omega), f _ (by omega)]
  rfl
theorem quote_loop (L : Laid w0.w) (name : List UInt8) (hx : name.length ≤ 17592186044416) : ∀ (r : List UInt8) (k : Nat) (acc : List UInt8), name.drop k = r → acc.length + 4 * r.length + 1 ≤ 140737488355328 →
    F0.n18 (F0.X w0 0) w0 0 (fun r' _ => r' = .pv (.str (acc ++ r.flatMap esc ++ [34]))) [.bld tB 5 acc] name (.ptr 0 0) name.length k
  | [], k, acc, h, hl => by
    have hk := M0 h
    refine F0.n18_in ?_
    rw [F0.b19_eq, A7, if_neg (by omega)]
    refine F0.n46_in ?_
    rw [F0.b46_eq]
    refine Q2 (c := 34) rfl (by omega) ?_
    refine V2 rfl (I0 (C5 (Nat.zero_le _) ?_))
    simp
  | c :: r, k, acc, h, hl => by
    obtain ⟨h1, h2, hk⟩ := H4 h
    have hc := c.toNat_lt
    simp only [List.length_cons] at hl
    have he : (esc c).length ≤ 4 := escN_len c.toNat
    have next : ∀ s Z, s = acc ++ esc c → F0.n45 (F0.X w0 0) w0 0 (fun r' _ => r' = .pv (.str (acc ++ (c :: r).flatMap esc ++ [34]))) ([.bld tB 5 s] ++ Z) name (.ptr 0 0) name.length k := by
      rintro s Z rfl
      refine F0.n45_in ?_
      rw [F0.b45_eq, I3 hk (by omega)]
      refine F0.n18_weak (EWeak.drop (τ := [.bld tB 5 (acc ++ esc c)]) glob0 (Nat.zero_le _) rfl rfl) ?_
      have := quote_loop L name hx r (k + 1) (acc ++ esc c) h2 (by simp only [List.length_append]; omega)
      simpa [List.flatMap_cons, List.append_assoc] using this
    refine F0.n18_in ?_
    rw [F0.b19_eq, A7, if_pos (by omega)]
    refine A0 (R0 h1) (K2 ?_)
    refine letter_spec L ?_
    repeat ((with_reducible first | apply A0 | apply wI | apply wT | apply wP); exact rfl)
    refine F5 ?_
    refine A5 (fun g => ?_) (fun g => ?_)
    · have hn : letN c.toNat ≠ 0 := fun e => by rw [e] at g; exact absurd g (by decide)
      have hl8 : letN c.toNat < 256 := by unfold letN; split <;> omega
      have e : ((letN c.toNat : Nat) : Int) = ((UInt8.ofNat (letN c.toNat)).toNat : Int) := by rw [UInt8.toNat_ofNat_of_lt' hl8]
      refine Q2 (c := 92) rfl (by omega) ?_
      rw [e]
      refine Q2 (c := UInt8.ofNat (letN c.toNat)) rfl (by simp only [List.length_append, List.length_cons, List.length_nil]; omega) ?_
      refine next _ [] ?_
      rw [List.append_assoc]
      show _ = acc ++ escN c.toNat
      unfold escN
      rw [if_pos hn]; rfl
    · have hn : ¬ letN c.toNat ≠ 0 := fun h => h (Nat.eq_of_beq_eq_true (by rw [Bool.not_eq_false'] at g; exact g))
      have N : ∀ t, t = decide (c.toNat < 32 ∨ 127 ≤ c.toNat) → F0.n42 (F0.X w0 0) w0 0 (fun r' _ => r' = .pv (.str (acc ++ (c :: r).flatMap esc ++ [34]))) [.bld tB 5 acc] name (.ptr 0 0) c.toNat name.length k t := by
        rintro t rfl
        refine F0.n42_in ?_
        rw [F0.b42_eq, A7]
        refine B8 (fun g2 => ?_) (fun g2 => ?_)
        · refine ⟨by decide, by decide, ?_⟩
          refine G2 (v := .arr 1 4 0 4) (s := [.bld tB 5 acc, .arr 1 (E7 (octN c.toNat)) false]) (by rw [← oct_pv]; rfl) ?_
          refine Write_spec (es := 1) (t := octN c.toNat) rfl rfl (by simp [octN]) (by simp only [octN, List.length_cons, List.length_nil]; omega) ?_
          refine next _ [.arr 1 (E7 (octN c.toNat)) false] ?_
          show _ = acc ++ escN c.toNat
          unfold escN
          rw [if_neg hn, if_pos g2]
        · refine Q2 (c := c) rfl (by omega) ?_
          refine next _ [] ?_
          show _ = acc ++ escN c.toNat
          unfold escN
          rw [if_neg hn, if_neg g2]
          simp
      rw [A7]
      refine B8 (fun g1 => N _ ?_) (fun g1 => N _ ?_)
      · exact (decide_eq_true (.inl (by omega))).symm
      · rw [decide_eq_decide]; omega
theorem Quote_spec (L : Laid w0.w) {name : List UInt8} (hx : name.length ≤ 17592186044416) (hR : R (.pv (.str (quoteF name))) σ) : A1 (cx w0) F0.id [.pv (.str name)] σ R := by
  refine A1.alone L rfl (fun w1 L1 => ?_) rfl hR
  refine F0.calls ?_
  rw [F0.b0_eq]
  refine needs_spec (by omega) (F5 ?_)
  rw [E3]
  unfold quoteF
  refine A5 (fun g => ?_) (fun g => O0 ?_)
  · rw [if_pos g]
    refine Q2 (c := 34) rfl (by decide) ?_
    exact quote_loop L1 name hx name 0 [34] rfl (by simp only [List.length_cons, List.length_nil]; omega)
  · rw [if_neg (by rw [g]; decide)]
end
end Go.Sv
end
section
namespace Go.Sv
open Go Go.RowKit Go.Proofs
section
variable {w0 : Base} {σ : Store} {R : AV → Store → Prop}
theorem dec_len {u : Nat} (h : u ≤ 9223372036854775807) : (Lib.decDigits u).length ≤ 20 := by
  rw [Lib.decDigits_length]; exact Lib.nDigits_le20 u (by omega)
theorem itoa_dec {n : Int} (h : 0 ≤ n) : Lib.itoa n = Lib.decDigits n.toNat := by unfold Lib.itoa; rw [if_neg (by omega)]
end
end Go.Sv
end
section
namespace Go.Sv
open Go Go.Proofs
namespace M4
def lvs : List (List Nat) := [[0], [0], [0], [0], [2]]
def lv : Nat → List Nat := lvOf lvs
noncomputable def code : Code := E6 Tryz.f108
noncomputable def fe : FE := ⟨Tryz.f108, code, lv⟩
def cuts : List Nat := [4]
abbrev X (w0 : Base) (n : Nat) : XT := xr (cx w0) 11 lv n
theorem ok (w0 : Base) : FOK (cx w0) M4.id fe := ⟨Tryz.func108, by kernel_rfl, by kernel_rfl⟩
section
variable (Z : XT) (w0 : Base) (n : Nat) (R : RT) (σ : Store) (t2 : Bool) (s : List UInt8)
def n4 : Prop :=
  Z (cAt code 4) 4 [(2, (.pv (.bool t2)))] σ (finQ (cx w0) Tryz.f108 n R)
def b4 : Prop :=
  A4 (cx w0) 11 lv n cuts Z (cAt code 4) 4 [(2, (.pv (.bool t2)))] σ (finQ (cx w0) Tryz.f108 n R)
def b0 : Prop :=
  A4 (cx w0) 11 lv n cuts Z code 0 (argsE 0 [(.pv (.str s))]) σ (finQ (cx w0) Tryz.f108 n R)
end
variable {Z : XT} {w0 : Base} {n : Nat} {R : RT} {σ τ : Store} {t2 : Bool} {s : List UInt8}
theorem b4_eq : b4 Z w0 n R σ t2 = (
  FinK (cx w0) n (.pv (.bool t2)) σ R) := by kernel_rfl
theorem n4_in (h : b4 (X w0 n) w0 n R σ t2) : n4 (X w0 n) w0 n R σ t2 := xr_in (S := cuts) (by kernel_rfl) h
theorem b0_eq : b0 Z w0 n R σ s = (
  condB (!((s : List UInt8) == [])) (A1 (cx w0) N9.id [(.pv (.str s))] σ fun r σ' => isS r fun t7 => A1 (cx w0) P8.id [(.pv (.str t7)), (.pv (.str [10]))] σ' fun r_1 σ'_1 => isB r_1 fun t8 => n4 Z w0 n R σ'_1 (!t8)) (n4 Z w0 n R σ false)) := by kernel_rfl
theorem calls (h : b0 (X w0 (List.length σ)) w0 (List.length σ) R σ s) : A1 (cx w0) M4.id [(.pv (.str s))] σ R :=
  D3 (cxOK w0) (x := fe) (S := cuts) (M4.ok w0) (by kernel_rfl) h
end M4
namespace J0
def lvs : List (List Nat) := [[0, 1], [0, 1], [0, 1], [0, 1], [0, 1], [0, 1, 8], [], [], [4], [0, 1], [0, 1], [0, 1], [0, 1], [0, 1], [], [], [4]]
def lv : Nat → List Nat := lvOf lvs
noncomputable def code : Code := E6 Tryz.f109
noncomputable def fe : FE := ⟨Tryz.f109, code, lv⟩
def cuts : List Nat := []
abbrev X (w0 : Base) (n : Nat) : XT := xr (cx w0) 22 lv n
theorem ok (w0 : Base) : FOK (cx w0) J0.id fe := ⟨Tryz.func109, by kernel_rfl, by kernel_rfl⟩
section
variable (Z : XT) (w0 : Base) (n : Nat) (R : RT) (σ : Store) (s : AV) (text : List UInt8)
def b0 : Prop :=
  A4 (cx w0) 22 lv n cuts Z code 0 (argsE 0 [s, (.pv (.str text))]) σ (finQ (cx w0) Tryz.f109 n R)
end
variable {Z : XT} {w0 : Base} {n : Nat} {R : RT} {σ τ : Store} {s : AV} {text : List UInt8}
theorem b0_eq : b0 Z w0 n R σ s text = (
  opt (G8 s) fun t6 => opt (A2 tabS ti116.td t6 1) fun t7 => opt (aLoad σ ti4 t7) fun t8 => isB t8 fun t8_1 => condB t8_1 (FinK (cx w0) n (.pv (.bool false)) σ R) (opt (G8 s) fun t10 => opt (A2 tabS ti116.td t10 0) fun t11 => opt (aLoad σ ti3 t11) fun t12 => isI .i64 t12 fun t12_1 => opt (G8 s) fun t14 => opt (A2 tabS ti116.td t14 0) fun t15 => opt (D0 σ ti3 t15 (.pv (.int .i64 (IntKind.wrap .i64 (t12_1 + 1))))) fun σ' => A1 (cx w0) L4.id [(.pv (.str text))] σ' fun r σ'_1 => isB r fun t18 => opt (G8 s) fun t20 => opt (A2 tabS ti116.td t20 1) fun t21 => opt (D0 σ'_1 ti4 t21 (.pv (.bool (!t18)))) fun σ'_2 => FinK (cx w0) n (.pv (.bool true)) σ'_2 R)) := by kernel_rfl
theorem calls (h : b0 (X w0 (List.length σ)) w0 (List.length σ) R σ s text) : A1 (cx w0) J0.id [s, (.pv (.str text))] σ R :=
  D3 (cxOK w0) (x := fe) (S := cuts) (J0.ok w0) (by kernel_rfl) h
end J0
namespace K3
def lvs : List (List Nat) := [[0, 1], [0, 1], [0, 1], [0, 1], [4]]
def lv : Nat → List Nat := lvOf lvs
noncomputable def code : Code := E6 Tryz.f62
noncomputable def fe : FE := ⟨Tryz.f62, code, lv⟩
def cuts : List Nat := [4]
abbrev X (w0 : Base) (n : Nat) : XT := xr (cx w0) 29 lv n
theorem ok (w0 : Base) : FOK (cx w0) K3.id fe := ⟨Tryz.func62, by kernel_rfl, by kernel_rfl⟩
section
variable (Z : XT) (w0 : Base) (n : Nat) (R : RT) (σ : Store) (t4 : Bool) (at_ count : Int)
def n4 : Prop :=
  Z (cAt code 4) 4 [(4, (.pv (.bool t4)))] σ (finQ (cx w0) Tryz.f62 n R)
def b4 : Prop :=
  A4 (cx w0) 29 lv n cuts Z (cAt code 4) 4 [(4, (.pv (.bool t4)))] σ (finQ (cx w0) Tryz.f62 n R)
def b0 : Prop :=
  A4 (cx w0) 29 lv n cuts Z code 0 (argsE 0 [(.pv (.int .i64 at_)), (.pv (.int .i64 count))]) σ (finQ (cx w0) Tryz.f62 n R)
end
variable {Z : XT} {w0 : Base} {n : Nat} {R : RT} {σ τ : Store} {t4 : Bool} {at_ count : Int}
theorem b4_eq : b4 Z w0 n R σ t4 = (
  FinK (cx w0) n (.pv (.bool t4)) σ R) := by kernel_rfl
theorem n4_in (h : b4 (X w0 n) w0 n R σ t4) : n4 (X w0 n) w0 n R σ t4 := xr_in (S := cuts) (by kernel_rfl) h
theorem b0_eq : b0 Z w0 n R σ at_ count = (
  condB (decide ((count : Int) ≥ 0)) (condB (decide ((at_ : Int) ≥ 0)) (condB (decide ((at_ : Int) > 0)) (condB (decide ((at_ : Int) ≤ 2147483647)) (n4 Z w0 n R σ (decide ((count : Int) ≤ (IntKind.wrap .i64 (2147483647 - at_))))) (n4 Z w0 n R σ false)) (condB ((count : Int) == 0) (condB (decide ((at_ : Int) ≤ 2147483647)) (n4 Z w0 n R σ (decide ((count : Int) ≤ (IntKind.wrap .i64 (2147483647 - at_))))) (n4 Z w0 n R σ false)) (n4 Z w0 n R σ false))) (n4 Z w0 n R σ false)) (n4 Z w0 n R σ false)) := by kernel_rfl
theorem calls (h : b0 (X w0 (List.length σ)) w0 (List.length σ) R σ at_ count) : A1 (cx w0) K3.id [(.pv (.int .i64 at_)), (.pv (.int .i64 count))] σ R :=
  D3 (cxOK w0) (x := fe) (S := cuts) (K3.ok w0) (by kernel_rfl) h
end K3
namespace N9
def lvs : List (List Nat) := [[0], [0], [0], [0], [2]]
def lv : Nat → List Nat := lvOf lvs
noncomputable def code : Code := E6 Tryz.f75
noncomputable def fe : FE := ⟨Tryz.f75, code, lv⟩
def cuts : List Nat := []
abbrev X (w0 : Base) (n : Nat) : XT := xr (cx w0) 5 lv n
theorem ok (w0 : Base) : FOK (cx w0) N9.id fe := ⟨Tryz.func75, by kernel_rfl, by kernel_rfl⟩
section
variable (Z : XT) (w0 : Base) (n : Nat) (R : RT) (σ : Store) (line : List UInt8)
def b0 : Prop :=
  A4 (cx w0) 5 lv n cuts Z code 0 (argsE 0 [(.pv (.str line))]) σ (finQ (cx w0) Tryz.f75 n R)
end
variable {Z : XT} {w0 : Base} {n : Nat} {R : RT} {σ τ : Store} {line : List UInt8}
theorem b0_eq : b0 Z w0 n R σ line = (
  A1 (cx w0) R7.id [(.pv (.str line)), (.pv (.str [10]))] σ fun r σ' => isS r fun t4 => FinK (cx w0) n (.pv (.str t4)) σ' R) := by kernel_rfl
theorem calls (h : b0 (X w0 (List.length σ)) w0 (List.length σ) R σ line) : A1 (cx w0) N9.id [(.pv (.str line))] σ R :=
  D3 (cxOK w0) (x := fe) (S := cuts) (N9.ok w0) (by kernel_rfl) h
end N9
namespace L4
def lvs : List (List Nat) := [[0], [0], [0], [0], [2]]
def lv : Nat → List Nat := lvOf lvs
noncomputable def code : Code := E6 Tryz.f37
noncomputable def fe : FE := ⟨Tryz.f37, code, lv⟩
def cuts : List Nat := []
abbrev X (w0 : Base) (n : Nat) : XT := xr (cx w0) 5 lv n
theorem ok (w0 : Base) : FOK (cx w0) L4.id fe := ⟨Tryz.func37, by kernel_rfl, by kernel_rfl⟩
section
variable (Z : XT) (w0 : Base) (n : Nat) (R : RT) (σ : Store) (line : List UInt8)
def b0 : Prop :=
  A4 (cx w0) 5 lv n cuts Z code 0 (argsE 0 [(.pv (.str line))]) σ (finQ (cx w0) Tryz.f37 n R)
end
variable {Z : XT} {w0 : Base} {n : Nat} {R : RT} {σ τ : Store} {line : List UInt8}
theorem b0_eq : b0 Z w0 n R σ line = (
  A1 (cx w0) S7.id [(.pv (.str line)), (.pv (.str [10]))] σ fun r σ' => isB r fun t4 => FinK (cx w0) n (.pv (.bool t4)) σ' R) := by kernel_rfl
theorem calls (h : b0 (X w0 (List.length σ)) w0 (List.length σ) R σ line) : A1 (cx w0) L4.id [(.pv (.str line))] σ R :=
  D3 (cxOK w0) (x := fe) (S := cuts) (L4.ok w0) (by kernel_rfl) h
end L4
namespace E5
def lvs : List (List Nat) := [[0], [0], [1, 2, 3], [1, 2, 3], [1, 2, 3, 5], [1, 2, 3, 5], [1, 2, 3, 5], [2, 3, 5, 9, 10, 11], [2, 3, 5, 9, 10, 11], [2, 3, 5, 9, 10, 11], [2, 3, 5, 9, 10, 11], [2, 3, 5, 9, 10, 11, 12], [2, 3, 5, 9, 10, 11, 12], [2, 3, 5, 9, 10, 11], [2, 3, 5], [2, 3, 5, 9, 10, 11], [2, 3, 5, 9, 10, 11], [2, 3, 5, 9, 10, 11], [2, 3, 5, 9, 10, 11], [2, 3, 5, 7, 9, 10, 11], [2, 3, 5, 7, 9, 10, 11], [2, 3, 5, 7, 9, 10, 11], [2, 3, 5, 7, 9, 10, 11, 28], [2, 3], [2, 3], [2, 3, 4], [2, 3, 5, 7, 9, 10, 11], [2, 3, 5, 7, 9, 10, 11], [2, 3, 5, 7, 9, 10, 11], [2, 3, 5, 7, 9, 10, 11], [2, 3, 5, 7, 9, 10, 11], [2, 3, 5, 9, 10, 11, 56], [2, 3], [2, 3], [2, 3, 4], [2, 3, 5, 9, 10, 11], [2, 3, 5, 9, 10, 11], [2, 3, 5], [2, 3, 5], [2, 3, 4]]
def lv : Nat → List Nat := lvOf lvs
noncomputable def code : Code := E6 Tryz.f61
noncomputable def fe : FE := ⟨Tryz.f61, code, lv⟩
def cuts : List Nat := [9, 22, 29, 31, 37]
abbrev X (w0 : Base) (n : Nat) : XT := xr (cx w0) 63 lv n
theorem ok (w0 : Base) : FOK (cx w0) E5.id fe := ⟨Tryz.func61, by kernel_rfl, by kernel_rfl⟩
section
variable (Z : XT) (w0 : Base) (n : Nat) (R : RT) (σ : Store) (old fresh : AV) (changes : Bool) (r t9 : AV) (t10 t11 : Int) (t28 t56 : Bool) (h_ : AV)
def q5 : QT := thenQ (fun env σ => Z (cAt code 37) 37 (prune (lv 37) env) σ (finQ (cx w0) Tryz.f61 n R)) (finQ (cx w0) Tryz.f61 n R)
def q8 : QT := G0 0 (q5 Z w0 n R)
def q9 : QT := thenQ (fun env σ => Z (cAt code 8) 8 (prune (lv 8) env) σ (q8 Z w0 n R)) (q8 Z w0 n R)
def q16 : QT := thenQ (fun env σ => A4 (cx w0) 63 lv n cuts Z (cAt code 36) 36 (prune (lv 36) env) σ (q9 Z w0 n R)) (q9 Z w0 n R)
def q17 : QT := G0 1 (q16 Z w0 n R)
def q20 : QT := thenQ (fun env σ => A4 (cx w0) 63 lv n cuts Z (cAt code 27) 27 (prune (lv 27) env) σ (q17 Z w0 n R)) (q17 Z w0 n R)
def n8 : Prop :=
  Z (cAt code 8) 8 [(2, old), (3, fresh), (5, (.pv (.bool changes))), (9, t9), (10, (.pv (.int .i64 t10))), (11, (.pv (.int .i64 t11)))] σ (q8 Z w0 n R)
def b9 : Prop :=
  A4 (cx w0) 63 lv n cuts Z (cAt code 9) 9 [(2, old), (3, fresh), (5, (.pv (.bool changes))), (9, t9), (10, (.pv (.int .i64 t10))), (11, (.pv (.int .i64 t11)))] σ (q9 Z w0 n R)
def n22 : Prop :=
  Z (cAt code 22) 22 [(2, old), (3, fresh), (5, (.pv (.bool changes))), (7, r), (9, t9), (10, (.pv (.int .i64 t10))), (11, (.pv (.int .i64 t11))), (28, (.pv (.bool t28)))] σ (q20 Z w0 n R)
def b22 : Prop :=
  A4 (cx w0) 63 lv n cuts Z (cAt code 22) 22 [(2, old), (3, fresh), (5, (.pv (.bool changes))), (7, r), (9, t9), (10, (.pv (.int .i64 t10))), (11, (.pv (.int .i64 t11))), (28, (.pv (.bool t28)))] σ (q20 Z w0 n R)
def n29 : Prop :=
  Z (cAt code 29) 29 [(2, old), (3, fresh), (5, (.pv (.bool changes))), (7, r), (9, t9), (10, (.pv (.int .i64 t10))), (11, (.pv (.int .i64 t11)))] σ (q17 Z w0 n R)
def b29 : Prop :=
  A4 (cx w0) 63 lv n cuts Z (cAt code 29) 29 [(2, old), (3, fresh), (5, (.pv (.bool changes))), (7, r), (9, t9), (10, (.pv (.int .i64 t10))), (11, (.pv (.int .i64 t11)))] σ (q17 Z w0 n R)
def n31 : Prop :=
  Z (cAt code 31) 31 [(2, old), (3, fresh), (5, (.pv (.bool changes))), (9, t9), (10, (.pv (.int .i64 t10))), (11, (.pv (.int .i64 t11))), (56, (.pv (.bool t56)))] σ (q17 Z w0 n R)
def b31 : Prop :=
  A4 (cx w0) 63 lv n cuts Z (cAt code 31) 31 [(2, old), (3, fresh), (5, (.pv (.bool changes))), (9, t9), (10, (.pv (.int .i64 t10))), (11, (.pv (.int .i64 t11))), (56, (.pv (.bool t56)))] σ (q17 Z w0 n R)
def n37 : Prop :=
  Z (cAt code 37) 37 [(2, old), (3, fresh), (5, (.pv (.bool changes)))] σ (finQ (cx w0) Tryz.f61 n R)
def b37 : Prop :=
  A4 (cx w0) 63 lv n cuts Z (cAt code 37) 37 [(2, old), (3, fresh), (5, (.pv (.bool changes)))] σ (finQ (cx w0) Tryz.f61 n R)
def b0 : Prop :=
  A4 (cx w0) 63 lv n cuts Z code 0 (argsE 0 [h_]) σ (finQ (cx w0) Tryz.f61 n R)
end
variable {Z : XT} {w0 : Base} {n : Nat} {R : RT} {σ τ : Store} {old fresh t9 r h_ old' fresh' t9' : AV} {changes t28 t56 changes' : Bool} {t10 t11 t10' t11' : Int}
theorem n8_in (h : b9 (X w0 n) w0 n R σ old fresh changes t9 t10 t11) : n8 (X w0 n) w0 n R σ old fresh changes t9 t10 t11 := H5 (cxOK w0) (S := cuts) (by kernel_rfl : cAt code 8 = .loop (cAt code 9)) h
theorem n8_weak (e : EWeak (cx w0) n [(2, old), (3, fresh), (5, (.pv (.bool changes))), (9, t9), (10, (.pv (.int .i64 t10))), (11, (.pv (.int .i64 t11)))] σ [(2, old'), (3, fresh'), (5, (.pv (.bool changes'))), (9, t9'), (10, (.pv (.int .i64 t10'))), (11, (.pv (.int .i64 t11')))] τ) (h : n8 (X w0 n) w0 n R τ old' fresh' changes' t9' t10' t11') : n8 (X w0 n) w0 n R σ old fresh changes t9 t10 t11 := O3 (L := lv) (k := 8) (by kernel_rfl : cAt code 8 = .loop (cAt code 9)) e h
theorem b9_eq : b9 Z w0 n R σ old fresh changes t9 t10 t11 = (
  condB (decide ((t11 : Int) < t10)) (opt (B6 σ tabS ti37.td t9 t11) fun t13 => opt (aLoad σ ti51 t13) fun t14 => opt (D0 (σ ++ [.cells 51 (AV.ofValue ti51.zero).cells]) ti51 (.ptr (List.length σ) 0) t14) fun σ' => opt (A2 tabS ti51.td (.ptr (List.length σ) 0) 0) fun t15 => opt (aLoad σ' ti3 t15) fun t16 => isI .i64 t16 fun t16_1 => condB (decide ((t16_1 : Int) < 1)) (n22 Z w0 n R σ' old fresh changes (.ptr (List.length σ) 0) t9 t10 t11 true) (opt (A2 tabS ti51.td (.ptr (List.length σ) 0) 0) fun t19 => opt (aLoad σ' ti3 t19) fun t20 => isI .i64 t20 fun t20_1 => condB (decide ((t20_1 : Int) > 3)) (n22 Z w0 n R σ' old fresh changes (.ptr (List.length σ) 0) t9 t10 t11 true) (opt (A2 tabS ti51.td (.ptr (List.length σ) 0) 1) fun t24 => opt (aLoad σ' ti9 t24) fun t25 => isS t25 fun t25_1 => A1 (cx w0) M4.id [(.pv (.str t25_1))] σ' fun r σ'_1 => isB r fun t26 => n22 Z w0 n R σ'_1 old fresh changes (.ptr (List.length σ) 0) t9 t10 t11 (!t26)))) (n37 Z w0 n R σ old fresh changes)) := by kernel_rfl
theorem b22_eq : b22 Z w0 n R σ old fresh changes r t9 t10 t11 t28 = (
  condB t28 (opt (aLoad σ ti116 old) fun t29 => opt (aLoad σ ti116 fresh) fun t30 => opt (D0 σ ti116 old t29) fun σ' => opt (D0 σ' ti116 fresh t30) fun σ'_1 => opt (aLoad σ'_1 ti116 old) fun v => opt (aLoad σ'_1 ti116 fresh) fun v_1 => FinK (cx w0) n (.tup [v, v_1, (.pv (.bool false))]) σ'_1 R) (condB changes (n29 Z w0 n R σ old fresh true r t9 t10 t11) (opt (A2 tabS ti51.td r 0) fun t33 => opt (aLoad σ ti3 t33) fun t34 => isI .i64 t34 fun t34_1 => n29 Z w0 n R σ old fresh ((t34_1 : Int) != 1) r t9 t10 t11))) := by kernel_rfl
theorem n22_in (h : b22 (X w0 n) w0 n R σ old fresh changes r t9 t10 t11 t28) : n22 (X w0 n) w0 n R σ old fresh changes r t9 t10 t11 t28 := xr_in (S := cuts) (by kernel_rfl) h
theorem b29_eq : b29 Z w0 n R σ old fresh changes r t9 t10 t11 = (
  opt (A2 tabS ti51.td r 0) fun t37 => opt (aLoad σ ti3 t37) fun t38 => isI .i64 t38 fun t38_1 => condB ((t38_1 : Int) != 3) (opt (A2 tabS ti51.td r 1) fun t41 => opt (aLoad σ ti9 t41) fun t42 => isS t42 fun t42_1 => A1 (cx w0) J0.id [old, (.pv (.str t42_1))] σ fun r_1 σ' => isB r_1 fun t43 => condB (!t43) (n31 Z w0 n R σ' old fresh changes t9 t10 t11 true) (opt (A2 tabS ti51.td r 0) fun t47 => opt (aLoad σ' ti3 t47) fun t48 => isI .i64 t48 fun t48_1 => condB ((t48_1 : Int) != 2) (opt (A2 tabS ti51.td r 1) fun t51 => opt (aLoad σ' ti9 t51) fun t52 => isS t52 fun t52_1 => A1 (cx w0) J0.id [fresh, (.pv (.str t52_1))] σ' fun r_2 σ'_1 => isB r_2 fun t53 => n31 Z w0 n R σ'_1 old fresh changes t9 t10 t11 (!t53)) (n31 Z w0 n R σ' old fresh changes t9 t10 t11 false))) (opt (A2 tabS ti51.td r 0) fun t47 => opt (aLoad σ ti3 t47) fun t48 => isI .i64 t48 fun t48_1 => condB ((t48_1 : Int) != 2) (opt (A2 tabS ti51.td r 1) fun t51 => opt (aLoad σ ti9 t51) fun t52 => isS t52 fun t52_1 => A1 (cx w0) J0.id [fresh, (.pv (.str t52_1))] σ fun r_1 σ' => isB r_1 fun t53 => n31 Z w0 n R σ' old fresh changes t9 t10 t11 (!t53)) (n31 Z w0 n R σ old fresh changes t9 t10 t11 false))) := by kernel_rfl
theorem n29_in (h : b29 (X w0 n) w0 n R σ old fresh changes r t9 t10 t11) : n29 (X w0 n) w0 n R σ old fresh changes r t9 t10 t11 := xr_in (S := cuts) (by kernel_rfl) h
theorem b31_eq : b31 Z w0 n R σ old fresh changes t9 t10 t11 t56 = (
  condB t56 (opt (aLoad σ ti116 old) fun t57 => opt (aLoad σ ti116 fresh) fun t58 => opt (D0 σ ti116 old t57) fun σ' => opt (D0 σ' ti116 fresh t58) fun σ'_1 => opt (aLoad σ'_1 ti116 old) fun v => opt (aLoad σ'_1 ti116 fresh) fun v_1 => FinK (cx w0) n (.tup [v, v_1, (.pv (.bool false))]) σ'_1 R) (n8 Z w0 n R σ old fresh changes t9 t10 (IntKind.wrap .i64 (t11 + 1)))) := by kernel_rfl
theorem n31_in (h : b31 (X w0 n) w0 n R σ old fresh changes t9 t10 t11 t56) : n31 (X w0 n) w0 n R σ old fresh changes t9 t10 t11 t56 := xr_in (S := cuts) (by kernel_rfl) h
theorem b37_eq : b37 Z w0 n R σ old fresh changes = (
  opt (aLoad σ ti116 old) fun t60 => opt (aLoad σ ti116 fresh) fun t61 => opt (D0 σ ti116 old t60) fun σ' => opt (D0 σ' ti116 fresh t61) fun σ'_1 => opt (aLoad σ'_1 ti116 old) fun v => opt (aLoad σ'_1 ti116 fresh) fun v_1 => FinK (cx w0) n (.tup [v, v_1, (.pv (.bool changes))]) σ'_1 R) := by kernel_rfl
theorem n37_in (h : b37 (X w0 n) w0 n R σ old fresh changes) : n37 (X w0 n) w0 n R σ old fresh changes := xr_in (S := cuts) (by kernel_rfl) h
theorem b0_eq : b0 Z w0 n R σ h_ = (
  ((AV.cells h_).all AV.one = true ∧ (opt (A2 tabS ti39.td (.ptr (List.length σ) 0) 5) fun t8 => opt (aLoad (((σ ++ [.cells 39 (AV.cells h_)]) ++ [.cells 116 (AV.ofValue ti116.zero).cells]) ++ [.cells 116 (AV.ofValue ti116.zero).cells]) ti37 t8) fun t9 => opt (aLen ti37.td t9) fun t10 => isI .i64 t10 fun t10_1 => n8 Z w0 n R (((σ ++ [.cells 39 (AV.cells h_)]) ++ [.cells 116 (AV.ofValue ti116.zero).cells]) ++ [.cells 116 (AV.ofValue ti116.zero).cells]) (.ptr (List.length (σ ++ [.cells 39 (AV.cells h_)])) 0) (.ptr (List.length ((σ ++ [.cells 39 (AV.cells h_)]) ++ [.cells 116 (AV.ofValue ti116.zero).cells])) 0) false t9 t10_1 0))) := by kernel_rfl
theorem calls (h : b0 (X w0 (List.length σ)) w0 (List.length σ) R σ h_) : A1 (cx w0) E5.id [h_] σ R :=
  D3 (cxOK w0) (x := fe) (S := cuts) (E5.ok w0) (by kernel_rfl) h
end E5
namespace I9
def lvs : List (List Nat) := [[0], [0], [1], [1], [1, 3, 4, 5], [1, 3, 4, 5], [1, 3, 4, 5], [54], [], [], [2], [], [], [], [2]]
def lv : Nat → List Nat := lvOf lvs
noncomputable def code : Code := E6 Tryz.f28
noncomputable def fe : FE := ⟨Tryz.f28, code, lv⟩
def cuts : List Nat := [7]
abbrev X (w0 : Base) (n : Nat) : XT := xr (cx w0) 56 lv n
theorem ok (w0 : Base) : FOK (cx w0) I9.id fe := ⟨Tryz.func28, by kernel_rfl, by kernel_rfl⟩
section
variable (Z : XT) (w0 : Base) (n : Nat) (R : RT) (σ : Store) (t54 : Bool) (h_ : AV)
def q5 : QT := thenQ (fun env σ => A4 (cx w0) 56 lv n cuts Z (cAt code 12) 12 (prune (lv 12) env) σ (finQ (cx w0) Tryz.f28 n R)) (finQ (cx w0) Tryz.f28 n R)
def n7 : Prop :=
  Z (cAt code 7) 7 [(54, (.pv (.bool t54)))] σ (q5 Z w0 n R)
def b7 : Prop :=
  A4 (cx w0) 56 lv n cuts Z (cAt code 7) 7 [(54, (.pv (.bool t54)))] σ (q5 Z w0 n R)
def b0 : Prop :=
  A4 (cx w0) 56 lv n cuts Z code 0 (argsE 0 [h_]) σ (finQ (cx w0) Tryz.f28 n R)
end
variable {Z : XT} {w0 : Base} {n : Nat} {R : RT} {σ τ : Store} {t54 : Bool} {h_ : AV}
theorem b7_eq : b7 Z w0 n R σ t54 = (
  condB t54 (opt (F2 63 (.pv (.int .i64 100))) fun t55 => FinK (cx w0) n t55 σ R) (FinK (cx w0) n (.pv (.raw .nilIface)) σ R)) := by kernel_rfl
theorem n7_in (h : b7 (X w0 n) w0 n R σ t54) : n7 (X w0 n) w0 n R σ t54 := xr_in (S := cuts) (by kernel_rfl) h
theorem b0_eq : b0 Z w0 n R σ h_ = (
  ((AV.cells h_).all AV.one = true ∧ (opt (aLoad (σ ++ [.cells 39 (AV.cells h_)]) ti39 (.ptr (List.length σ) 0)) fun t7 => A1 (cx w0) E5.id [t7] (σ ++ [.cells 39 (AV.cells h_)]) fun r σ' => isTup r fun vs => opt ((vs)[0]?) fun t9 => isTup r fun vs_1 => opt ((vs_1)[1]?) fun t10 => isTup r fun vs_2 => opt ((vs_2)[2]?) fun t11 => isB t11 fun t11_1 => opt (D0 ((σ' ++ [.cells 116 (AV.ofValue ti116.zero).cells]) ++ [.cells 116 (AV.ofValue ti116.zero).cells]) ti116 (.ptr (List.length σ') 0) t9) fun σ'_1 => opt (D0 σ'_1 ti116 (.ptr (List.length (σ' ++ [.cells 116 (AV.ofValue ti116.zero).cells])) 0) t10) fun σ'_2 => condB (!t11_1) (n7 Z w0 n R σ'_2 true) (opt (A2 tabS ti116.td (.ptr (List.length σ') 0) 0) fun t15 => opt (aLoad σ'_2 ti3 t15) fun t16 => isI .i64 t16 fun t16_1 => opt (A2 tabS ti39.td (.ptr (List.length σ) 0) 1) fun t17 => opt (aLoad σ'_2 ti3 t17) fun t18 => isI .i64 t18 fun t18_1 => condB ((t16_1 : Int) != t18_1) (n7 Z w0 n R σ'_2 true) (opt (A2 tabS ti116.td (.ptr (List.length (σ' ++ [.cells 116 (AV.ofValue ti116.zero).cells])) 0) 0) fun t22 => opt (aLoad σ'_2 ti3 t22) fun t23 => isI .i64 t23 fun t23_1 => opt (A2 tabS ti39.td (.ptr (List.length σ) 0) 3) fun t24 => opt (aLoad σ'_2 ti3 t24) fun t25 => isI .i64 t25 fun t25_1 => condB ((t23_1 : Int) != t25_1) (n7 Z w0 n R σ'_2 true) (opt (A2 tabS ti39.td (.ptr (List.length σ) 0) 0) fun t29 => opt (aLoad σ'_2 ti3 t29) fun t30 => isI .i64 t30 fun t30_1 => opt (A2 tabS ti39.td (.ptr (List.length σ) 0) 1) fun t31 => opt (aLoad σ'_2 ti3 t31) fun t32 => isI .i64 t32 fun t32_1 => A1 (cx w0) K3.id [(.pv (.int .i64 t30_1)), (.pv (.int .i64 t32_1))] σ'_2 fun r_1 σ'_3 => isB r_1 fun t33 => condB (!t33) (n7 Z w0 n R σ'_3 true) (opt (A2 tabS ti39.td (.ptr (List.length σ) 0) 2) fun t37 => opt (aLoad σ'_3 ti3 t37) fun t38 => isI .i64 t38 fun t38_1 => opt (A2 tabS ti39.td (.ptr (List.length σ) 0) 3) fun t39 => opt (aLoad σ'_3 ti3 t39) fun t40 => isI .i64 t40 fun t40_1 => A1 (cx w0) K3.id [(.pv (.int .i64 t38_1)), (.pv (.int .i64 t40_1))] σ'_3 fun r_2 σ'_4 => isB r_2 fun t41 => condB (!t41) (n7 Z w0 n R σ'_4 true) (opt (A2 tabS ti39.td (.ptr (List.length σ) 0) 4) fun t45 => opt (aLoad σ'_4 ti9 t45) fun t46 => isS t46 fun t46_1 => condB (decide (((List.length (t46_1 : List UInt8) : Int) : Int) > 4096)) (n7 Z w0 n R σ'_4 true) (opt (A2 tabS ti39.td (.ptr (List.length σ) 0) 4) fun t51 => opt (aLoad σ'_4 ti9 t51) fun t52 => isS t52 fun t52_1 => A1 (cx w0) P8.id [(.pv (.str t52_1)), (.pv (.str [10]))] σ'_4 fun r_3 σ'_5 => isB r_3 fun t53 => n7 Z w0 n R σ'_5 t53))))))))) := by kernel_rfl
theorem calls (h : b0 (X w0 (List.length σ)) w0 (List.length σ) R σ h_) : A1 (cx w0) I9.id [h_] σ R :=
  D3 (cxOK w0) (x := fe) (S := cuts) (I9.ok w0) (by kernel_rfl) h
end I9
end Go.Sv
end
