/- What package myers answers: a number that goes round; the middle of a shortest way. -/
import Derived.Test.YtimmjplgogpglaaDoorFdB
import Derived.Test.YtimmjplgogpglaaDoorMyF
import Derived.Test.YtimmjplgogpglaaDoorSvC
set_option linter.unusedVariables false
set_option linter.unusedSimpArgs false
set_option maxRecDepth 100000
namespace Go.Sv
theorem tmod_round {k s : Int} (hs : 0 < s) : Int.tmod (Int.tmod k s + s) s = k % s := by
  have h1 : -s < Int.tmod k s := by
    have := Int.neg_emod_two
    have := Int.lt_tmod_of_pos k hs
    exact this
  rw [Int.tmod_eq_emod_of_nonneg (by omega), Int.add_emod_right, Int.tmod_def, Int.sub_mul_emod_self_left]
abbrev intP (x : Int) : PV := .int .i64 x
abbrev iP (l : List Int) : List PV := l.map intP
abbrev intsA (l : List Int) : AV := .pv (.sl (iP l))
section
open Go Go.RowKit Go.Proofs
variable {w0 : Base} {σ : Store} {R : AV → Store → Prop}
theorem wrap_spec {n m : Nat} {k : Int} (hn : sizeK n m ≤ 1099511627776) (hk : -1099511627776 ≤ k ∧ k ≤ 1099511627776) (hR : R (.pv (.int .i64 ((wix n m k : Nat) : Int))) σ) : SCalls (cx w0) myers_wrap.id [.pv (.int .i64 k), .pv (.int .i64 ((sizeK n m : Nat) : Int))] σ R := by
  have hp : 0 < ((sizeK n m : Nat) : Int) := by unfold sizeK; omega
  have hne : ((sizeK n m : Nat) : Int) ≠ 0 := by omega
  have h1 := Int.lt_tmod_of_pos k hp
  have h2 := Int.tmod_lt_of_pos k hp
  refine myers_wrap.calls ?_
  rw [myers_wrap.b0_eq]
  refine ⟨hne, hne, ?_⟩
  rw [wrap_i64 (by omega) (by omega), tmod_round hp]
  refine fin_same ?_
  have e : k % ((sizeK n m : Nat) : Int) = ((wix n m k : Nat) : Int) := by
    have := Int.emod_nonneg k hne
    unfold wix; omega
  rw [e]
  exact hR
theorem int_get {l : List Int} {i : Nat} {x : Int} (h : l[i]? = some x) : (iP l)[i]? = some (intP x) := by rw [List.getElem?_map, h]; rfl
theorem arr_idx {i s : Nat} {c : List Int} {fz : Bool} (ho : σ[i]? = some (.arr 1 (iP c) fz)) (hl : c.length = s) {j : Nat} (hj : j < s) : aIndexAddr σ tabS ti43.td (.arr i s 0 s) (j : Int) = some (.eptr i s j 0) := by
  show (match σ[i]? with
    | some (.arr es xs _) => if 0 ≤ (j : Int) ∧ (j : Int) < (s : Nat) ∧ es = 1 ∧ xs.length = s then some (AV.eptr i s (0 + (j : Int).toNat) 0) else none
    | _ => none) = _
  rw [ho]
  simp only
  rw [if_pos ⟨by omega, by omega, trivial, by rw [List.length_map]; exact hl⟩]
  simp
theorem arr_load {i s : Nat} {c : List Int} {fz : Bool} (ho : σ[i]? = some (.arr 1 (iP c) fz)) (hl : c.length = s) {j : Nat} {v : Int} (hj : c[j]? = some v) : aLoad σ ti3 (.eptr i s j 0) = some (.pv (.int .i64 v)) := by
  have hg := int_get hj
  simp only [aLoad, ho, if_pos (show (iP c).length = s by rw [List.length_map]; exact hl), hg]
  rfl
theorem arr_store {i s : Nat} {c : List Int} (ho : σ[i]? = some (.arr 1 (iP c) false)) (hl : c.length = s) {j : Nat} {v v' : Int} (hj : c[j]? = some v) : aStore σ ti3 (.eptr i s j 0) (.pv (.int .i64 v')) = some (σ.set i (.arr 1 (iP (c.set j v')) false)) := by
  have hg := int_get hj
  show (if 1 = 1 ∧ true = true then (match σ[i]?, some [PV.int .i64 v'] with
      | some (.arr es xs false), some ps =>
        if xs.length = s then match xs[j]? with
          | some (.agg cs) => if 0 + ps.length ≤ cs.length then some (σ.set i (.arr es (xs.set j (.agg (splice cs 0 ps))) false)) else none
          | some _ => match ps with
            | [q] => if 0 = 0 then some (σ.set i (.arr es (xs.set j q) false)) else none
            | _ => none
          | none => none
        else none
      | _, _ => none) else none) = _
  rw [if_pos ⟨rfl, rfl⟩, ho]
  simp only [if_pos (show (iP c).length = s by rw [List.length_map]; exact hl), hg]
  simp only [if_true]
  rw [show (iP c).set j (PV.int .i64 v') = iP (c.set j v') from List.map_set.symm]
def SS (o : Nat) (c d : List Int) : Store := if o = 1 then [.arr 1 (iP c) false, .arr 1 (iP d) false] else [.arr 1 (iP d) false, .arr 1 (iP c) false]
def eS (o : Nat) (a b : List Int) : Nat → Nat → Bool := if o = 1 then eF a b else eB a b
theorem SS_c {o : Nat} (ho : o = 0 ∨ o = 1) (c d : List Int) : (SS o c d)[1 - o]? = some (.arr 1 (iP c) false) := by rcases ho with rfl | rfl <;> rfl
theorem SS_d {o : Nat} (ho : o = 0 ∨ o = 1) (c d : List Int) : (SS o c d)[o]? = some (.arr 1 (iP d) false) := by rcases ho with rfl | rfl <;> rfl
theorem SS_set {o : Nat} (ho : o = 0 ∨ o = 1) (c d c' : List Int) : (SS o c d).set (1 - o) (.arr 1 (iP c') false) = SS o c' d := by rcases ho with rfl | rfl <;> rfl
abbrev oddN (a b : List Int) : Int := (((a.length + b.length) % 2 : Nat) : Int)
abbrev rwA (a b : List Int) (i : Nat) : AV := .arr i (sizeK a.length b.length) 0 (sizeK a.length b.length)
abbrev onesA : AV := .pv (.sl [.int .i64 1, .int .i64 0])
abbrev p41 (w0 : Base) (R : AV → Store → Prop) (a b : List Int) (h o : Nat) (c d : List Int) (k : Int) : Prop :=
  myers_snake.n41 (myers_snake.X w0 0) w0 0 R (SS o c d) (intsA a) (intsA b) a.length b.length (sizeK a.length b.length : Nat) (rwA a b 0) (rwA a b 1) (oddN a b) h o (rwA a b (1 - o)) (rwA a b o) k onesA 2 ((1 - o : Nat) : Int)
abbrev p64 (w0 : Base) (R : AV → Store → Prop) (a b : List Int) (h o : Nat) (c d : List Int) (k x y s t : Int) : Prop :=
  myers_snake.n64 (myers_snake.X w0 0) w0 0 R (SS o c d) (intsA a) (intsA b) a.length b.length (sizeK a.length b.length : Nat) (rwA a b 0) (rwA a b 1) (oddN a b) h o (rwA a b (1 - o)) (rwA a b o) k x y s t onesA 2 ((1 - o : Nat) : Int)
abbrev p68 (w0 : Base) (R : AV → Store → Prop) (a b : List Int) (h o : Nat) (c d : List Int) (k x y s t : Int) (q : Bool) : Prop :=
  myers_snake.n68 (myers_snake.X w0 0) w0 0 R (SS o c d) (intsA a) (intsA b) a.length b.length (sizeK a.length b.length : Nat) (rwA a b 0) (rwA a b 1) (oddN a b) h o (rwA a b (1 - o)) (rwA a b o) k x y s t onesA 2 ((1 - o : Nat) : Int) q
abbrev p75 (w0 : Base) (R : AV → Store → Prop) (a b : List Int) (h o : Nat) (c d : List Int) (k x y s t : Int) : Prop :=
  myers_snake.n75 (myers_snake.X w0 0) w0 0 R (SS o c d) (intsA a) (intsA b) a.length b.length (sizeK a.length b.length : Nat) (rwA a b 0) (rwA a b 1) (oddN a b) h o (rwA a b (1 - o)) (rwA a b o) k x y s t onesA 2 ((1 - o : Nat) : Int)
variable {a b : List Int} {h o : Nat} {c d : List Int} {k : Int}
theorem eS_out {x y : Nat} (hx : a.length ≤ x ∨ b.length ≤ y) : eS o a b x y = false := by
  unfold eS
  split
  · rcases hx with h | h
    · exact eqL_out h
    · exact eqL_out2 h
  · rcases hx with h | h
    · exact eqL_out (by rw [List.length_reverse]; exact h)
    · exact eqL_out2 (by rw [List.length_reverse]; exact h)
theorem slide (hn : a.length ≤ 4194304) (hm : b.length ≤ 4194304) (ho : o = 0 ∨ o = 1) {s t : Int} : ∀ (f x y : Nat), a.length < f + x → x ≤ 16777216 → y ≤ 16777216 →
    (∀ l : Nat, (∀ i, i < l → eS o a b (x + i) (y + i) = true) → eS o a b (x + l) (y + l) = false → p75 w0 R a b h o c d k ((x + l : Nat) : Int) ((y + l : Nat) : Int) s t) →
    p64 w0 R a b h o c d k x y s t
  | f, x, y, hf, hx, hy, done => by
    have h68 : ∀ q, q = eS o a b x y → p68 w0 R a b h o c d k x y s t q := by
      intro q hq
      refine myers_snake.n68_in ?_
      rw [myers_snake.b68_eq]
      refine condB_split (fun g => ?_) (fun g => ?_)
      · have he : eS o a b x y = true := by rw [← hq]; exact g
        have hin : x < a.length ∧ y < b.length := by
          refine ⟨?_, ?_⟩
          · by_cases hc : a.length ≤ x
            · rw [eS_out (.inl hc)] at he; cases he
            · omega
          · by_cases hc : b.length ≤ y
            · rw [eS_out (.inr hc)] at he; cases he
            · omega
        cases f with
        | zero => omega
        | succ f =>
          rw [wrap_next hin.1 (by omega), wrap_next hin.2 (by omega)]
          refine slide hn hm ho f (x + 1) (y + 1) (by omega) (by omega) (by omega) fun l h1 h2 => ?_
          have := done (l + 1) (fun i hi => ?_) (by rw [show x + (l + 1) = x + 1 + l by omega, show y + (l + 1) = y + 1 + l by omega]; exact h2)
          · rw [show x + (l + 1) = x + 1 + l by omega, show y + (l + 1) = y + 1 + l by omega] at this
            exact this
          · cases i with
            | zero => exact he
            | succ i => rw [show x + (i + 1) = x + 1 + i by omega, show y + (i + 1) = y + 1 + i by omega]; exact h1 i (by omega)
      · have := done 0 (fun i hi => by omega) (by rw [Nat.add_zero, Nat.add_zero, ← hq]; exact g)
        exact this
    refine myers_snake.n64_in ?_
    rw [myers_snake.b65_eq, condB_decide]
    refine ite_split (fun g1 => ?_) (fun g1 => h68 false (eS_out (.inl (by omega))).symm)
    rw [condB_decide]
    refine ite_split (fun g2 => ?_) (fun g2 => h68 false (eS_out (.inr (by omega))).symm)
    have hx1 : x < a.length := by omega
    have hy1 : y < b.length := by omega
    have ga : a[x]? = some a[x] := List.getElem?_eq_getElem hx1
    have gb : b[y]? = some b[y] := List.getElem?_eq_getElem hy1
    rcases ho with rfl | rfl
    · have ga' : a[a.length - 1 - x]? = some (a[a.length - 1 - x]'(by omega)) := List.getElem?_eq_getElem (by omega)
      have gb' : b[b.length - 1 - y]? = some (b[b.length - 1 - y]'(by omega)) := List.getElem?_eq_getElem (by omega)
      have ex : IntKind.wrap .i64 (IntKind.wrap .i64 ((a.length : Int) - 1) - x) = ((a.length - 1 - x : Nat) : Int) := by
        rw [wrap_i64 (n := (a.length : Int) - 1) (by omega) (by omega), wrap_i64 (by omega) (by omega)]; omega
      have ey : IntKind.wrap .i64 (IntKind.wrap .i64 ((b.length : Int) - 1) - y) = ((b.length - 1 - y : Nat) : Int) := by
        rw [wrap_i64 (n := (b.length : Int) - 1) (by omega) (by omega), wrap_i64 (by omega) (by omega)]; omega
      rw [condB_ibeq, if_neg (by decide), condB_ibeq, if_pos (show ((0 : Nat) : Int) = 0 from rfl), ex, ey]
      refine opt_in (idx_ro tab3 (int_get ga') rfl) ?_
      repeat ((with_reducible first | apply opt_in | apply wI | apply wT | apply wP | apply wS | apply wB); exact rfl)
      refine opt_in (idx_ro tab3 (int_get gb') rfl) ?_
      repeat ((with_reducible first | apply opt_in | apply wI | apply wT | apply wP | apply wS | apply wB); exact rfl)
      refine h68 _ ?_
      unfold eS eB eqL
      rw [if_neg (by decide), List.getElem?_reverse hx1, List.getElem?_reverse hy1, ga', gb']
    · rw [condB_ibeq, if_pos (show ((1 : Nat) : Int) = 1 from rfl)]
      refine opt_in (idx_ro tab3 (int_get ga) rfl) ?_
      repeat ((with_reducible first | apply opt_in | apply wI | apply wT | apply wP | apply wS | apply wB); exact rfl)
      refine opt_in (idx_ro tab3 (int_get gb) rfl) ?_
      repeat ((with_reducible first | apply opt_in | apply wI | apply wT | apply wP | apply wS | apply wB); exact rfl)
      have hq : eS 1 a b x y = (a[x] == b[y]) := by
        unfold eS eF eqL
        rw [if_pos rfl, ga, gb]
      rw [condB_ibeq]
      refine ite_split (fun g => h68 true (by rw [hq]; simpa using g)) (fun g => ?_)
      rw [condB_ibeq, if_neg (by decide)]
      exact h68 false (by rw [hq]; simpa using g)
end
end Go.Sv
