/- What package myers answers: what goes and what comes, marked. -/
import Derived.Test.YtimmjplgogpglaaDoorFdK
import Derived.Test.YtimmjplgogpglaaDoorSvPo
set_option linter.unusedVariables false
set_option linter.unusedSimpArgs false
set_option maxRecDepth 100000
namespace Go.Sv
abbrev boP (l : List Bool) : List PV := l.map PV.bool
abbrev bxQ (p : Bx) : PV := bxP p.a p.b p.x p.y
section
open Go Go.RowKit Go.Proofs
variable {w0 : Base} {σ : Store} {P : AV → Prop} {a b : List Int}
abbrev mkS (a b : List Int) (G C : List Bool) (zs : List Bx) : Store := [.cells 107 [.nilsl, .nilsl], .arr 1 (boP G) false, .arr 1 (boP C) false, .cells 107 [.arr 1 a.length 0 a.length, .arr 2 b.length 0 b.length], .arr 4 (zs.map bxQ) false]
abbrev m8 (w0 : Base) (P : AV → Prop) (a b : List Int) (G C : List Bool) (zs : List Bx) (len : Nat) : Prop := myers_mark.n8 (myers_mark.X w0 0) w0 0 (fun r _ => P r) (mkS a b G C zs) (.ptr 0 0) (.ptr 3 0) (.arr 4 zs.length 0 len)
theorem bx_idx {i ver len : Nat} {zs : List Bx} {fz : Bool} (ho : σ[i]? = some (.arr 4 (zs.map bxQ) fz)) (hl : zs.length = ver) {j : Nat} (hj : j < len) : aIndexAddr σ tabS ti116.td (.arr i ver 0 len) (j : Int) = some (.eptr i ver j 0) := by
  show (match σ[i]? with
    | some (.arr es xs _) => if 0 ≤ (j : Int) ∧ (j : Int) < (len : Nat) ∧ es = 4 ∧ xs.length = ver then some (AV.eptr i ver (0 + (j : Int).toNat) 0) else none
    | _ => none) = _
  rw [ho]
  simp only
  rw [if_pos ⟨by omega, by omega, trivial, by rw [List.length_map]; exact hl⟩]
  simp
theorem bx_load {i ver : Nat} {zs : List Bx} {fz : Bool} (ho : σ[i]? = some (.arr 4 (zs.map bxQ) fz)) (hl : zs.length = ver) {j : Nat} {p : Bx} (hj : zs[j]? = some p) : aLoad σ ti115 (.eptr i ver j 0) = some (.pv (bxQ p)) := by
  have hg : (zs.map bxQ)[j]? = some (bxQ p) := by rw [List.getElem?_map, hj]; rfl
  have hv : (zs.map bxQ).length = ver := by rw [List.length_map]; exact hl
  simp only [aLoad, ho, if_pos hv, hg]
  rfl
theorem bx_cut {i ver len k : Nat} {zs : List Bx} {fz : Bool} (ho : σ[i]? = some (.arr 4 (zs.map bxQ) fz)) (hl : zs.length = ver) (hk : k ≤ len) : aSlice σ tabS ti116.td (.arr i ver 0 len) none (some (.pv (.int .i64 (k : Int)))) = some (.arr i ver 0 k) := by
  show (if (0 : Int) ≤ 0 ∧ (0 : Int) ≤ (k : Int) ∧ (k : Int) ≤ ((len : Nat) : Int) then (match tabS 115, σ[i]? with
    | some ei, some (.arr es xs _) => if xs.length = ver ∧ es = ei.size then some (AV.arr i ver (0 + (0 : Int).toNat) ((k : Int) - 0).toNat) else none
    | _, _ => none) else none) = _
  rw [if_pos (by omega), ho, tab115]
  simp only
  rw [if_pos ⟨by rw [List.length_map]; exact hl, rfl⟩]
  simp
theorem bo_idx {i s : Nat} {c : List Bool} {fz : Bool} (ho : σ[i]? = some (.arr 1 (boP c) fz)) (hl : c.length = s) {j : Nat} (hj : j < s) : aIndexAddr σ tabS ti58.td (.arr i s 0 s) (j : Int) = some (.eptr i s j 0) := by
  show (match σ[i]? with
    | some (.arr es xs _) => if 0 ≤ (j : Int) ∧ (j : Int) < (s : Nat) ∧ es = 1 ∧ xs.length = s then some (AV.eptr i s (0 + (j : Int).toNat) 0) else none
    | _ => none) = _
  rw [ho]
  simp only
  rw [if_pos ⟨by omega, by omega, trivial, by rw [List.length_map]; exact hl⟩]
  simp
theorem bo_store {i s : Nat} {c : List Bool} (ho : σ[i]? = some (.arr 1 (boP c) false)) (hl : c.length = s) {j : Nat} {v v' : Bool} (hj : c[j]? = some v) : aStore σ ti4 (.eptr i s j 0) (.pv (.bool v')) = some (σ.set i (.arr 1 (boP (c.set j v')) false)) := by
  have hg : (boP c)[j]? = some (PV.bool v) := by rw [List.getElem?_map, hj]; rfl
  show (if 1 = 1 ∧ true = true then (match σ[i]?, some [PV.bool v'] with
      | some (.arr es xs false), some ps =>
        if xs.length = s then match xs[j]? with
          | some (.agg cs) => if 0 + ps.length ≤ cs.length then some (σ.set i (.arr es (xs.set j (.agg (splice cs 0 ps))) false)) else none
          | some _ => match ps with
            | [q] => if 0 = 0 then some (σ.set i (.arr es (xs.set j q) false)) else none
            | _ => none
          | none => none
        else none
      | _, _ => none) else none) = _
  rw [if_pos ⟨rfl, rfl⟩, ho]
  simp only [if_pos (show (boP c).length = s by rw [List.length_map]; exact hl), hg]
  simp only [if_true]
  rw [show (boP c).set j (PV.bool v') = boP (c.set j v') from List.map_set.symm]
abbrev mkS5 (a b : List Int) (G C : List Bool) (zs : List Bx) (p : Bx) : Store := mkS a b G C zs ++ [.cells 115 (bxC p.a p.b p.x p.y)]
theorem come_loop {G : List Bool} {zs : List Bx} {p : Bx} {len : Nat} (hb : b.length ≤ 4194304) (hy : p.y + p.b.length ≤ b.length) {C0 : List Bool} (hC : C0.length = b.length) (next : m8 w0 P a b G (setN C0 p.y p.b.length) zs len) : ∀ (f k : Nat), k + f = p.b.length →
    myers_mark.n45 (myers_mark.X w0 0) w0 0 (fun r _ => P r) (mkS5 a b G (setN C0 p.y k) zs p) (.ptr 0 0) (.ptr 3 0) (.arr 4 zs.length 0 len) (.ptr 5 0) (p.b.length : Nat) (k : Nat)
  | 0, k, hk => by
    refine myers_mark.n45_in ?_
    rw [myers_mark.b46_eq, condB_decide, if_neg (by omega)]
    refine myers_mark.n58_in ?_
    rw [myers_mark.b58_eq]
    rw [show k = p.b.length by omega]
    exact myers_mark.n8_weak (EWeak.drop (τ := mkS a b G (setN C0 p.y p.b.length) zs) glob0 (Nat.zero_le _) rfl rfl) next
  | f + 1, k, hk => by
    have hl := setN_len C0 p.y k
    have hlt : p.y + k < b.length := by omega
    have hg : (setN C0 p.y k)[p.y + k]? = some ((setN C0 p.y k)[p.y + k]'(by rw [hl, hC]; exact hlt)) := List.getElem?_eq_getElem _
    refine myers_mark.n45_in ?_
    rw [myers_mark.b46_eq, condB_decide, if_pos (by omega)]
    repeat ((with_reducible first | apply opt_in | apply wI | apply wT | apply wP | apply wS | apply wB); exact rfl)
    rw [show IntKind.wrap .i64 ((p.y : Int) + (k : Int)) = ((p.y + k : Nat) : Int) by rw [wrap_i64 (by omega) (by omega)]; omega]
    refine opt_in (bo_idx (σ := mkS5 a b G (setN C0 p.y k) zs p) (i := 2) (c := setN C0 p.y k) (fz := false) rfl (by rw [hl]; exact hC) hlt) ?_
    refine opt_in (bo_store (σ := mkS5 a b G (setN C0 p.y k) zs p) (i := 2) (c := setN C0 p.y k) rfl (by rw [hl]; exact hC) hg) ?_
    rw [wrap_next (n := p.b.length) (by omega) (by omega)]
    exact come_loop hb hy hC next f (k + 1) (by omega)
theorem gone_loop {C : List Bool} {zs : List Bx} {p : Bx} {len : Nat} (ha : a.length ≤ 4194304) (hb : b.length ≤ 4194304) (hx : p.x + p.a.length ≤ a.length) (hy : p.y + p.b.length ≤ b.length) {G0 : List Bool} (hG : G0.length = a.length) (hC : C.length = b.length) (next : m8 w0 P a b (setN G0 p.x p.a.length) (setN C p.y p.b.length) zs len) : ∀ (f k : Nat), k + f = p.a.length →
    myers_mark.n28 (myers_mark.X w0 0) w0 0 (fun r _ => P r) (mkS5 a b (setN G0 p.x k) C zs p) (.ptr 0 0) (.ptr 3 0) (.arr 4 zs.length 0 len) (.ptr 5 0) (p.a.length : Nat) (k : Nat)
  | 0, k, hk => by
    refine myers_mark.n28_in ?_
    rw [myers_mark.b29_eq, condB_decide, if_neg (by omega)]
    refine myers_mark.n41_in ?_
    rw [myers_mark.b41_eq, show k = p.a.length by omega]
    repeat ((with_reducible first | apply opt_in | apply wI | apply wT | apply wP | apply wS | apply wB); exact rfl)
    rw [List.length_map]
    exact come_loop (C0 := C) hb hy hC next p.b.length 0 (by omega)
  | f + 1, k, hk => by
    have hl := setN_len G0 p.x k
    have hlt : p.x + k < a.length := by omega
    have hg : (setN G0 p.x k)[p.x + k]? = some ((setN G0 p.x k)[p.x + k]'(by rw [hl, hG]; exact hlt)) := List.getElem?_eq_getElem _
    refine myers_mark.n28_in ?_
    rw [myers_mark.b29_eq, condB_decide, if_pos (by omega)]
    repeat ((with_reducible first | apply opt_in | apply wI | apply wT | apply wP | apply wS | apply wB); exact rfl)
    rw [show IntKind.wrap .i64 ((p.x : Int) + (k : Int)) = ((p.x + k : Nat) : Int) by rw [wrap_i64 (by omega) (by omega)]; omega]
    refine opt_in (bo_idx (σ := mkS5 a b (setN G0 p.x k) C zs p) (i := 1) (c := setN G0 p.x k) (fz := false) rfl (by rw [hl]; exact hG) hlt) ?_
    refine opt_in (bo_store (σ := mkS5 a b (setN G0 p.x k) C zs p) (i := 1) (c := setN G0 p.x k) rfl (by rw [hl]; exact hG) hg) ?_
    rw [wrap_next (n := p.a.length) (by omega) (by omega)]
    exact gone_loop ha hb hx hy hG hC next f (k + 1) (by omega)
end
end Go.Sv
