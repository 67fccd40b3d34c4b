/- What package myers answers: the changes of a script, as many as there are marks. -/
import Derived.Test.YtimmjplgogpglaaDoorFdN
import Derived.Test.YtimmjplgogpglaaDoorFdC
set_option linter.unusedVariables false
set_option linter.unusedSimpArgs false
set_option maxRecDepth 100000
namespace Go.Sv
theorem nat_r (x d : Nat) : x + (d + 1) = x + 1 + d := by omega
theorem in_run {x d n : Nat} {G : List Bool} (h2 : d = 0 ∨ x + 1 + d ≤ n) (hlt : x < G.length) (hG : G.length = n) : x + (d + 1) ≤ n := by omega
theorem sum_succ (d B : Nat) : 1 + (d + B) = d + 1 + B := by omega
structure Ch where
  a : Int
  n : Int
  b : Int
  m : Int
abbrev chP (c : Ch) : PV := .agg [.int .i64 c.a, .int .i64 c.n, .int .i64 c.b, .int .i64 c.m]
def sumC : List Ch → Int
  | [] => 0
  | c :: l => (c.n + c.m) + sumC l
theorem sumC_app (l : List Ch) (c : Ch) : sumC (l ++ [c]) = sumC l + (c.n + c.m) := by
  induction l with
  | nil => simp [sumC]
  | cons d l ih => simp only [List.cons_append, sumC, ih]; omega
theorem drop_cons' {l : List Bool} {x : Nat} {v : Bool} (h : l[x]? = some v) : trueN (l.drop x) = (if v = true then 1 else 0) + trueN (l.drop (x + 1)) := by
  rw [drop_consx' h]
  unfold trueN
  rw [List.count_cons]
  cases v <;> simp <;> omega
where
  drop_consx' {l : List Bool} {x : Nat} {v : Bool} (h : l[x]? = some v) : l.drop x = v :: l.drop (x + 1) := by
    have hlt := (List.getElem?_eq_some_iff.1 h).1
    rw [List.drop_eq_getElem_cons hlt]
    rw [List.getElem?_eq_getElem hlt] at h
    cases h; rfl
theorem drop_run {l : List Bool} {x d : Nat} (hv : l[x]? = some true) (h1 : Hid (trueN (l.drop (x + 1)) = d + trueN (l.drop (x + 1 + d)))) : Hid (trueN (l.drop x) = d + 1 + trueN (l.drop (x + (d + 1)))) := by
  show trueN (l.drop x) = d + 1 + trueN (l.drop (x + (d + 1)))
  have h1' : trueN (l.drop (x + 1)) = d + trueN (l.drop (x + 1 + d)) := h1
  rw [drop_cons' hv, if_pos rfl, h1', show x + (d + 1) = x + 1 + d from nat_r x d]
  exact sum_succ _ _
theorem drop_zero' (l : List Bool) (x : Nat) : Hid (trueN (l.drop x) = 0 + trueN (l.drop (x + 0))) := (Nat.zero_add _).symm
theorem drop_past {l : List Bool} {x : Nat} (h : l.length ≤ x) : trueN (l.drop x) = 0 := by rw [List.drop_eq_nil_of_le h]; rfl
theorem drop_not {l : List Bool} {x : Nat} (h : l[x]? ≠ some true) : trueN (l.drop x) = trueN (l.drop (x + 1)) := by
  cases hv : l[x]? with
  | none =>
    have := List.getElem?_eq_none_iff.1 hv
    rw [drop_past this, drop_past (by omega)]
  | some v =>
    cases v with
    | true => exact absurd hv h
    | false => rw [drop_cons' hv]; simp
section
open Go Go.RowKit Go.Proofs
variable {w0 : Base} {σ : Store} {P : AV → Prop} {a b : List Int} {G C : List Bool}
abbrev dS (G C : List Bool) (l : List Ch) : Store := [.cells 107 [.pv (.sl (boP G)), .pv (.sl (boP C))], .arr 4 (l.map chP) false]
abbrev dS2 (G C : List Bool) (l : List Ch) (p q r s : Int) : Store := dS G C l ++ [.cells 82 [.pv (.int .i64 p), .pv (.int .i64 q), .pv (.int .i64 r), .pv (.int .i64 s)]]
abbrev lA (l : List Ch) : AV := .arr 1 l.length 0 l.length
abbrev d10 (w0 : Base) (P : AV → Prop) (a b : List Int) (G C : List Bool) (l : List Ch) (x y : Nat) : Prop := myers_Diff.n10 (myers_Diff.X w0 0) w0 0 (fun r _ => P r) (dS G C l) (intsA a) (intsA b) (.ptr 0 0) (lA l) x y
abbrev d22 (w0 : Base) (P : AV → Prop) (a b : List Int) (G C : List Bool) (l : List Ch) (p r : Int) (x y : Nat) : Prop := myers_Diff.n22 (myers_Diff.X w0 0) w0 0 (fun r _ => P r) (dS2 G C l p 0 r 0) (intsA a) (intsA b) (.ptr 0 0) (lA l) x y (.ptr 2 0)
abbrev d33 (w0 : Base) (P : AV → Prop) (a b : List Int) (G C : List Bool) (l : List Ch) (p r : Int) (x y : Nat) : Prop := myers_Diff.n33 (myers_Diff.X w0 0) w0 0 (fun r _ => P r) (dS2 G C l p 0 r 0) (intsA a) (intsA b) (.ptr 0 0) (lA l) x y (.ptr 2 0)
abbrev d42 (w0 : Base) (P : AV → Prop) (a b : List Int) (G C : List Bool) (l : List Ch) (p r : Int) (x y : Nat) : Prop := myers_Diff.n42 (myers_Diff.X w0 0) w0 0 (fun r _ => P r) (dS2 G C l p 0 r 0) (intsA a) (intsA b) (.ptr 0 0) (lA l) x y (.ptr 2 0)
theorem x_loop {l : List Ch} {p r : Int} {y : Nat} (hG : G.length = a.length) (ha : a.length ≤ 4194304) : ∀ (f x : Nat), a.length < x + f → (∀ d : Nat, Hid (trueN (G.drop x) = d + trueN (G.drop (x + d))) → (d = 0 ∨ x + d ≤ a.length) → G[x + d]? ≠ some true → d33 w0 P a b G C l p r (x + d) y) → d22 w0 P a b G C l p r x y
  | f, x, hf, done => by
    have h26 : ∀ q : Bool, (q = true ↔ G[x]? = some true) → myers_Diff.n26 (myers_Diff.X w0 0) w0 0 (fun r _ => P r) (dS2 G C l p 0 r 0) (intsA a) (intsA b) (.ptr 0 0) (lA l) x y (.ptr 2 0) q := by
      intro q hq
      refine myers_Diff.n26_in ?_
      rw [myers_Diff.b26_eq]
      refine condB_split (fun g => ?_) (fun g => ?_)
      · have hv := hq.1 g
        have hlt := (List.getElem?_eq_some_iff.1 hv).1
        cases f with
        | zero => omega
        | succ f =>
          rw [wrap_next (n := G.length) hlt (by omega)]
          refine x_loop hG ha f (x + 1) (by omega) fun d h1 h2 h3 => ?_
          have := done (d + 1) (drop_run hv h1) (.inr (in_run h2 hlt hG)) (by rw [nat_r x d]; exact h3)
          rwa [nat_r x d] at this
      · refine myers_Diff.n31_in ?_
        rw [myers_Diff.b31_eq]
        exact done 0 (drop_zero' _ _) (.inl rfl) (fun h => by rw [hq.2 h] at g; cases g)
    refine myers_Diff.n22_in ?_
    rw [myers_Diff.b23_eq]
    repeat ((with_reducible first | apply opt_in | apply wI | apply wT | apply wP | apply wS | apply wB); exact rfl)
    rw [List.length_map, condB_decide]
    refine ite_split (fun g => ?_) (fun g => ?_)
    · have hlt : x < G.length := by omega
      have hv : G[x]? = some G[x] := List.getElem?_eq_getElem hlt
      repeat ((with_reducible first | apply opt_in | apply wI | apply wT | apply wP | apply wS | apply wB); exact rfl)
      refine opt_in (idx_ro tab4 (show (boP G)[x]? = some (PV.bool G[x]) by rw [List.getElem?_map, hv]; rfl) rfl) ?_
      repeat ((with_reducible first | apply opt_in | apply wI | apply wT | apply wP | apply wS | apply wB); exact rfl)
      refine h26 _ ?_
      rw [hv, Option.some.injEq]
    · refine h26 false ⟨fun e => Bool.noConfusion e, fun e => ?_⟩
      have := (List.getElem?_eq_some_iff.1 e).1
      omega
theorem y_loop {l : List Ch} {p r : Int} {x : Nat} (hC : C.length = b.length) (hb : b.length ≤ 4194304) : ∀ (f y : Nat), b.length < y + f → (∀ d : Nat, Hid (trueN (C.drop y) = d + trueN (C.drop (y + d))) → (d = 0 ∨ y + d ≤ b.length) → C[y + d]? ≠ some true → d42 w0 P a b G C l p r x (y + d)) → d33 w0 P a b G C l p r x y
  | f, y, hf, done => by
    have h37 : ∀ q : Bool, (q = true ↔ C[y]? = some true) → myers_Diff.n37 (myers_Diff.X w0 0) w0 0 (fun r _ => P r) (dS2 G C l p 0 r 0) (intsA a) (intsA b) (.ptr 0 0) (lA l) x y (.ptr 2 0) q := by
      intro q hq
      refine myers_Diff.n37_in ?_
      rw [myers_Diff.b37_eq]
      refine condB_split (fun g => ?_) (fun g => ?_)
      · have hv := hq.1 g
        have hlt := (List.getElem?_eq_some_iff.1 hv).1
        cases f with
        | zero => omega
        | succ f =>
          rw [wrap_next (n := C.length) hlt (by omega)]
          refine y_loop hC hb f (y + 1) (by omega) fun d h1 h2 h3 => ?_
          have := done (d + 1) (drop_run hv h1) (.inr (in_run h2 hlt hC)) (by rw [nat_r y d]; exact h3)
          rwa [nat_r y d] at this
      · exact done 0 (drop_zero' _ _) (.inl rfl) (fun h => by rw [hq.2 h] at g; cases g)
    refine myers_Diff.n33_in ?_
    rw [myers_Diff.b34_eq]
    repeat ((with_reducible first | apply opt_in | apply wI | apply wT | apply wP | apply wS | apply wB); exact rfl)
    rw [List.length_map, condB_decide]
    refine ite_split (fun g => ?_) (fun g => ?_)
    · have hlt : y < C.length := by omega
      have hv : C[y]? = some C[y] := List.getElem?_eq_getElem hlt
      repeat ((with_reducible first | apply opt_in | apply wI | apply wT | apply wP | apply wS | apply wB); exact rfl)
      refine opt_in (idx_ro tab4 (show (boP C)[y]? = some (PV.bool C[y]) by rw [List.getElem?_map, hv]; rfl) rfl) ?_
      repeat ((with_reducible first | apply opt_in | apply wI | apply wT | apply wP | apply wS | apply wB); exact rfl)
      refine h37 _ ?_
      rw [hv, Option.some.injEq]
    · refine h37 false ⟨fun e => Bool.noConfusion e, fun e => ?_⟩
      have := (List.getElem?_eq_some_iff.1 e).1
      omega
end
end Go.Sv
