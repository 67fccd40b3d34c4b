/- What package myers answers: what goes and what comes, as many as a shortest script takes out and puts in. -/
import Derived.Test.YtimmjplgogpglaaDoorFdM
set_option linter.unusedVariables false
set_option linter.unusedSimpArgs false
set_option maxRecDepth 100000
namespace Go.Sv
section
open Go Go.RowKit Go.Proofs
variable {w0 : Base} {σ : Store} {P : AV → Prop} {a b : List Int}
theorem mk_bools {n : Nat} (h : n ≤ 1099511627776) : mkObj 4 ti4 (n : Int) (n : Int) = some (.arr 1 (boP (List.replicate n false)) false) := by
  unfold mkObj
  show (match (if 0 ≤ (n : Int) ∧ (n : Int) ≤ (n : Int) ∧ roomy (n : Int).toNat 1 ∧ (PV.bool false).cells.length = 1 then some (AV.arr ([] : Store).length (n : Int).toNat 0 (n : Int).toNat, ([] : Store) ++ [SObj.arr 1 (List.replicate (n : Int).toNat (PV.bool false)) false]) else none) with
    | some (_, [ob]) => some ob
    | _ => none) = _
  have e : (n : Int).toNat = n := Int.toNat_natCast n
  rw [if_pos ⟨Int.natCast_nonneg n, Int.le_refl _, by rw [e]; exact ⟨by omega, by omega⟩, rfl⟩, e]
  simp only [List.nil_append]
  rw [show boP (List.replicate n false) = List.replicate n (PV.bool false) from List.map_replicate]
def MarkIs (a b : List Int) (r : AV) : Prop := ∃ G C : List Bool, G.length = a.length ∧ C.length = b.length ∧ trueN G + trueN C = cntL a b ∧ r = .pv (.agg [.sl (boP G), .sl (boP C)])
theorem mark_spec {R : AV → Store → Prop} (L : Laid w0.w) (ha : a.length ≤ 4194304) (hb : b.length ≤ 4194304) (hR : ∀ G C : List Bool, G.length = a.length → C.length = b.length → trueN G + trueN C = cntL a b → R (.pv (.agg [.sl (boP G), .sl (boP C)])) σ) : SCalls (cx w0) myers_mark.id [intsA a, intsA b] σ R := by
  refine SCalls.some_of (P := MarkIs a b) L rfl (fun w1 L1 => ?_) (fun r ⟨G, C, _, _, _, e⟩ => by rw [e]; rfl) (fun r ⟨G, C, h1, h2, h3, e⟩ => by rw [e]; exact hR G C h1 h2 h3)
  refine myers_mark.calls ?_
  rw [myers_mark.b0_eq]
  repeat ((with_reducible first | apply opt_in | apply wI | apply wT | apply wP | apply wS | apply wB); exact rfl)
  rw [List.length_map]
  refine opt_in (mk_bools (by omega)) ?_
  repeat ((with_reducible first | apply opt_in | apply wI | apply wT | apply wP | apply wS | apply wB); exact rfl)
  rw [List.length_map]
  refine opt_in (mk_bools (by omega)) ?_
  have er : ∀ (id n : Nat), mkRes ti4 id (n : Int) = .arr id n 0 n := fun id n => by
    show AV.arr id (n : Int).toNat 0 (n : Int).toNat = _
    rw [Int.toNat_natCast]
  rw [er, er]
  repeat ((with_reducible first | apply opt_in | apply wI | apply wT | apply wP | apply wS | apply wB); exact rfl)
  refine opt2_in (v := .arr 4 1 0 1) (s := mkS a b (List.replicate a.length false) (List.replicate b.length false) [⟨a, b, 0, 0⟩]) rfl ?_
  have hf : fuelS [(⟨a, b, 0, 0⟩ : Bx)] ≤ 33554432 := by
    rw [fuelS_cons]
    unfold fuelB fuelS
    split
    · decide
    · simp only [List.map_nil, List.sum_nil]; omega
  exact mark_loop (P := MarkIs a b) L1 ha hb (fun G C h1 h2 h3 => ⟨G, C, h1, h2, h3, rfl⟩) (fuelS [(⟨a, b, 0, 0⟩ : Bx)] + 1) _ _ [⟨a, b, 0, 0⟩] 1 (Nat.lt_succ_self _) hf (Nat.le_refl _) (Nat.zero_lt_one) (todo_first a b)
end
end Go.Sv
