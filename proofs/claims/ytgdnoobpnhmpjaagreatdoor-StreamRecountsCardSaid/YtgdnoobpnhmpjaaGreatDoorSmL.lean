/- A patch's lines with their counts put right: headers and rows, on both sides. -/
import Derived.Test.YtgdnoobpnhmpjaaGreatDoorSmG
import Derived.Test.YtgdnoobpnhmpjaaGreatDoorSmH
import Derived.Test.YtgdnoobpnhmpjaaGreatDoorSvV
import Derived.Test.YtgdnoobpnhmpjaaGreatDoorSvW
import Derived.Lib.Strings
set_option linter.unusedVariables false
set_option linter.unusedSimpArgs false
set_option maxRecDepth 100000
namespace Go.Sv
abbrev Ln := List UInt8
abbrev oldM : Ln := [45, 45, 45, 32]
abbrev newM : Ln := [43, 43, 43, 32]
def headF : List Ln → Bool
  | a :: b :: _ => Lib.hasPrefix a oldM && Lib.hasPrefix b newM
  | _ => false
def stepR (o f : Nat) (x : Nat × Nat × Nat) : Nat × Nat × Nat := (x.1 + 1, x.2.1 + o, x.2.2 + f)
def rowsN : List Ln → Nat × Nat × Nat
  | [] => (0, 0, 0)
  | l :: r => if headF (l :: r) = true then (0, 0, 0) else match l.head? with
    | some c => if c = 32 ∨ c = 10 then stepR 1 1 (rowsN r) else if c = 45 then stepR 1 0 (rowsN r) else if c = 43 then stepR 0 1 (rowsN r) else if c = 92 then stepR 0 0 (rowsN r) else (0, 0, 0)
    | none => (0, 0, 0)
theorem rowsN_le : ∀ L : List Ln, (rowsN L).1 ≤ L.length ∧ (rowsN L).2.1 ≤ L.length ∧ (rowsN L).2.2 ≤ L.length
  | [] => ⟨Nat.le_refl _, Nat.le_refl _, Nat.le_refl _⟩
  | l :: r => by
    have ⟨h1, h2, h3⟩ := rowsN_le r
    have key : ∀ o f, o ≤ 1 → f ≤ 1 → (stepR o f (rowsN r)).1 ≤ (l :: r).length ∧ (stepR o f (rowsN r)).2.1 ≤ (l :: r).length ∧ (stepR o f (rowsN r)).2.2 ≤ (l :: r).length := by
      intro o f ho hf
      simp only [stepR, List.length_cons]
      omega
    have z : (0 : Nat) ≤ (l :: r).length := Nat.zero_le _
    unfold rowsN
    split
    · exact ⟨z, z, z⟩
    · split
      · split
        · exact key 1 1 (Nat.le_refl _) (Nat.le_refl _)
        · split
          · exact key 1 0 (Nat.le_refl _) (Nat.zero_le _)
          · split
            · exact key 0 1 (Nat.zero_le _) (Nat.le_refl _)
            · split
              · exact key 0 0 (Nat.zero_le _) (Nat.zero_le _)
              · exact ⟨z, z, z⟩
      · exact ⟨z, z, z⟩
def behF (s w : Ln) : Option Ln := if Lib.hasPrefix s w = true then some (s.drop w.length) else none
open Go Go.RowKit Go.Proofs
abbrev lnsP (L : List Ln) : PV := .sl (L.map .str)
section
variable {w0 : Base} {σ : Store} {R : AV → Store → Prop}
theorem slice_take {s : Ln} {k : Nat} (h : k ≤ s.length) : aSlice σ tabS ti9.td (.pv (.str s)) none (some (.pv (.int .i64 (k : Int)))) = some (.pv (.str (s.take k))) := by
  show (if (0 : Int) ≤ 0 ∧ (0 : Int) ≤ (k : Int) ∧ (k : Int) ≤ ((s.length : Nat) : Int) then some (AV.pv (.str ((s.take (k : Int).toNat).drop (0 : Int).toNat))) else none) = _
  rw [if_pos (by omega)]
  simp
theorem slice_drop {s : Ln} {k : Nat} (h : k ≤ s.length) : aSlice σ tabS ti9.td (.pv (.str s)) (some (.pv (.int .i64 (k : Int)))) none = some (.pv (.str (s.drop k))) := by
  show (if (0 : Int) ≤ (k : Int) ∧ (k : Int) ≤ ((s.length : Nat) : Int) ∧ ((s.length : Nat) : Int) ≤ ((s.length : Nat) : Int) then some (AV.pv (.str ((s.take ((s.length : Nat) : Int).toNat).drop (k : Int).toNat))) else none) = _
  rw [if_pos (by omega)]
  simp
theorem ln_at {i k n off len : Nat} {ks : List Ln} {fz : Bool} (ho : σ[i]? = some (.arr 1 (ks.map PV.str) fz)) (hn : ks.length = n) (hk : k < len) : aIndexAddr σ tabS ti63.td (.arr i n off len) (k : Int) = some (.eptr i n (off + k) 0) :=
  idx_arr (es := 1) tab9 ho hk rfl (by rw [List.length_map]; exact hn)
theorem ln_load {i n : Nat} {ks : List Ln} {fz : Bool} (ho : σ[i]? = some (.arr 1 (ks.map PV.str) fz)) (hn : ks.length = n) {j : Nat} {s : Ln} (hj : ks[j]? = some s) : aLoad σ ti9 (.eptr i n j 0) = some (.pv (.str s)) := by
  have hg : (ks.map PV.str)[j]? = some (.str s) := by rw [List.getElem?_map, hj]; rfl
  have hv : (ks.map PV.str).length = n := by rw [List.length_map]; exact hn
  simp only [aLoad, ho, if_pos hv, hg]
  rfl
theorem header_spec {i n off len : Nat} {ks : List Ln} {fz : Bool} (ho : σ[i]? = some (.arr 1 (ks.map PV.str) fz)) (hn : ks.length = n) (hl : off + len = n) (hR : R (.pv (.bool (headF (ks.drop off)))) σ) : SCalls (cx w0) stream_header.id [.arr i n off len] σ R := by
  have fin : ∀ q, q = headF (ks.drop off) → stream_header.n4 (stream_header.X w0 σ.length) w0 σ.length R σ q := by
    rintro q rfl
    refine stream_header.n4_in ?_
    rw [stream_header.b4_eq]
    exact fin_same hR
  refine stream_header.calls ?_
  rw [stream_header.b0_eq]
  refine opt_in (v := .pv (.int .i64 (len : Nat))) rfl (isI_in ?_)
  rw [condB_decide]
  refine ite_split (fun g => ?_) (fun g => fin _ ?_)
  · have g0 : ks[off]? = some (ks[off]'(by omega)) := List.getElem?_eq_getElem _
    have g1 : ks[off + 1]? = some (ks[off + 1]'(by omega)) := List.getElem?_eq_getElem _
    generalize ks[off]'(by omega) = a at g0
    generalize ks[off + 1]'(by omega) = b at g1
    have e : headF (ks.drop off) = (Lib.hasPrefix a oldM && Lib.hasPrefix b newM) := by
      have h0 : (ks.drop off)[0]? = some a := by rw [List.getElem?_drop]; exact g0
      have h1 : (ks.drop off)[1]? = some b := by rw [List.getElem?_drop]; exact g1
      match hd : ks.drop off with
      | [] => rw [hd] at h0; simp at h0
      | [x] => rw [hd] at h1; simp at h1
      | x :: y :: r =>
        rw [hd] at h0 h1
        simp only [List.getElem?_cons_zero, List.getElem?_cons_succ, Option.some.injEq] at h0 h1
        subst h0; subst h1; rfl
    refine opt_in (ln_at (k := 0) ho hn (by omega)) ?_
    refine opt_in (ln_load ho hn g0) (isS_in ?_)
    refine HasPrefix_spec (isB_in ?_)
    refine condB_split (fun q => ?_) (fun q => fin _ ?_)
    · refine opt_in (ln_at (k := 1) ho hn (by omega)) ?_
      refine opt_in (ln_load ho hn g1) (isS_in ?_)
      refine HasPrefix_spec (isB_in (fin _ ?_))
      rw [e, q, Bool.true_and]
    · rw [e, q, Bool.false_and]
  · match hd : ks.drop off with
    | [] => rfl
    | [x] => rfl
    | x :: y :: r =>
      have := congrArg List.length hd
      rw [List.length_drop] at this
      simp only [List.length_cons] at this
      omega
theorem ln_cut {i k n off len : Nat} {ks : List Ln} {fz : Bool} (ho : σ[i]? = some (.arr 1 (ks.map PV.str) fz)) (hn : ks.length = n) (hk : k ≤ len) : aSlice σ tabS ti63.td (.arr i n off len) (some (.pv (.int .i64 (k : Int)))) none = some (.arr i n (off + k) (len - k)) := by
  show (if (0 : Int) ≤ (k : Int) ∧ (k : Int) ≤ ((len : Nat) : Int) ∧ ((len : Nat) : Int) ≤ ((len : Nat) : Int) then (match tabS 9, σ[i]? with
    | some ei, some (.arr es xs _) => if xs.length = n ∧ es = ei.size then some (AV.arr i n (off + (k : Int).toNat) (((len : Nat) : Int) - (k : Int)).toNat) else none
    | _, _ => none) else none) = _
  rw [if_pos (by omega), ho, tab9]
  simp only
  rw [if_pos ⟨by rw [List.length_map]; exact hn, rfl⟩, Int.toNat_natCast, show (((len : Nat) : Int) - (k : Int)).toNat = len - k by omega]
abbrev rw6 (w0 : Base) (R : AV → Store → Prop) (σ : Store) (l : AV) (k o f : Nat) : Prop := stream_rows.n6 (stream_rows.X w0 σ.length) w0 σ.length R σ l k o f
theorem rows_loop {i n off len : Nat} {ks : List Ln} {fz : Bool} (ho : σ[i]? = some (.arr 1 (ks.map PV.str) fz)) (hn : ks.length = n) (hl : off + len = n) (hne : ∀ l ∈ ks, l ≠ []) (hb : n ≤ 8388608) : ∀ (q k o f : Nat), k + q = len → o ≤ k → f ≤ k →
    (∀ x, x = rowsN (ks.drop (off + k)) → R (.tup [.pv (.int .i64 ((k + x.1 : Nat) : Int)), .pv (.int .i64 ((o + x.2.1 : Nat) : Int)), .pv (.int .i64 ((f + x.2.2 : Nat) : Int))]) σ) → rw6 w0 R σ (.arr i n off len) k o f
  | 0, k, o, f, hk, h1, h2, hR => by
    have e : ks.drop (off + k) = [] := List.drop_eq_nil_of_le (by omega)
    have hR' := hR (0, 0, 0) (by rw [e]; rfl)
    refine stream_rows.n6_in ?_
    rw [stream_rows.b7_eq]
    refine opt_in (v := .pv (.int .i64 (len : Nat))) rfl (isI_in ?_)
    rw [condB_decide, if_neg (by omega)]
    refine stream_rows.n10_in ?_
    rw [stream_rows.b10_eq, condB_false']
    refine stream_rows.n44_in ?_
    rw [stream_rows.b44_eq]
    exact fin_same hR'
  | q + 1, k, o, f, hk, h1, h2, hR => by
    have hlt : off + k < ks.length := by omega
    have gl : ks[off + k]? = some ks[off + k] := List.getElem?_eq_getElem hlt
    have hd : ks.drop (off + k) = ks[off + k] :: ks.drop (off + k + 1) := List.drop_eq_getElem_cons hlt
    generalize ks[off + k] = l at gl hd
    have hnil := hne l (List.mem_of_getElem? gl)
    obtain ⟨c, r0, rfl⟩ : ∃ c r0, l = c :: r0 := by
      cases l with
      | nil => exact absurd rfl hnil
      | cons c r0 => exact ⟨c, r0, rfl⟩
    have stop : rowsN (ks.drop (off + k)) = (0, 0, 0) → R (.tup [.pv (.int .i64 (k : Nat)), .pv (.int .i64 (o : Nat)), .pv (.int .i64 (f : Nat))]) σ := fun e => hR (0, 0, 0) e.symm
    have next : ∀ u v, u ≤ 1 → v ≤ 1 → rowsN (ks.drop (off + k)) = stepR u v (rowsN (ks.drop (off + k + 1))) → stream_rows.n43 (stream_rows.X w0 σ.length) w0 σ.length R σ (.arr i n off len) k ((o + u : Nat) : Int) ((f + v : Nat) : Int) := by
      intro u v hu hv e
      refine stream_rows.n43_in ?_
      rw [stream_rows.b43_eq, wrap_next (n := len) (by omega) (by omega)]
      refine rows_loop ho hn hl hne hb q (k + 1) (o + u) (f + v) (by omega) (by omega) (by omega) fun x hx => ?_
      have := hR _ e.symm
      rw [show off + (k + 1) = off + k + 1 by omega] at hx
      subst hx
      simp only [stepR] at this
      rw [show k + ((rowsN (ks.drop (off + k + 1))).1 + 1) = k + 1 + (rowsN (ks.drop (off + k + 1))).1 by omega, show o + ((rowsN (ks.drop (off + k + 1))).2.1 + u) = o + u + (rowsN (ks.drop (off + k + 1))).2.1 by omega, show f + ((rowsN (ks.drop (off + k + 1))).2.2 + v) = f + v + (rowsN (ks.drop (off + k + 1))).2.2 by omega] at this
      exact this
    refine stream_rows.n6_in ?_
    rw [stream_rows.b7_eq]
    refine opt_in (v := .pv (.int .i64 (len : Nat))) rfl (isI_in ?_)
    rw [condB_decide, if_pos (by omega)]
    refine opt_in (ln_cut ho hn (by omega)) ?_
    refine header_spec ho hn (by omega) (isB_in ?_)
    refine stream_rows.n10_in ?_
    rw [stream_rows.b10_eq, condB_not]
    refine condB_split (fun g => ?_) (fun g => ?_)
    · refine stream_rows.n44_in ?_
      rw [stream_rows.b44_eq]
      refine fin_same (stop ?_)
      rw [hd] at g ⊢
      unfold rowsN; rw [if_pos g]
    · have hrow : rowsN (ks.drop (off + k)) = if c = 32 ∨ c = 10 then stepR 1 1 (rowsN (ks.drop (off + k + 1))) else if c = 45 then stepR 1 0 (rowsN (ks.drop (off + k + 1))) else if c = 43 then stepR 0 1 (rowsN (ks.drop (off + k + 1))) else if c = 92 then stepR 0 0 (rowsN (ks.drop (off + k + 1))) else (0, 0, 0) := by
        rw [hd] at g ⊢
        rw [rowsN, if_neg (by rw [g]; decide)]
        rfl
      have cn : ∀ d : UInt8, ((c.toNat : Int) = (d.toNat : Int)) ↔ c = d := fun d => ⟨fun h => UInt8.toNat_inj.1 (by omega), fun h => by rw [h]⟩
      have w1 : ∀ z : Nat, z ≤ k → IntKind.wrap .i64 ((z : Int) + 1) = ((z + 1 : Nat) : Int) := fun z hz => wrap_next (n := 16777216) (by omega) (by omega)
      have h24 : ∀ b : Bool, (b = true ↔ (c = 32 ∨ c = 10)) → stream_rows.n24 (stream_rows.X w0 σ.length) w0 σ.length R σ (.arr i n off len) k o f (c.toNat : Nat) b := by
        intro b hb'
        refine stream_rows.n24_in ?_
        rw [stream_rows.b24_eq]
        refine condB_split (fun g1 => ?_) (fun g1 => ?_)
        · rw [w1 o h1, w1 f h2]
          exact next 1 1 (Nat.le_refl _) (Nat.le_refl _) (by rw [hrow, if_pos (hb'.1 g1)])
        · have n1 : ¬ (c = 32 ∨ c = 10) := fun h => by rw [hb'.2 h] at g1; cases g1
          rw [if_neg n1] at hrow
          rw [condB_ibeq]
          refine ite_split (fun g2 => ?_) (fun g2 => ?_)
          · rw [if_pos ((cn 45).1 g2)] at hrow
            rw [w1 o h1]
            exact next 1 0 (Nat.le_refl _) (Nat.zero_le _) hrow
          · rw [if_neg (fun h => g2 ((cn 45).2 h))] at hrow
            rw [condB_ibeq]
            refine ite_split (fun g3 => ?_) (fun g3 => ?_)
            · rw [if_pos ((cn 43).1 g3)] at hrow
              rw [w1 f h2]
              exact next 0 1 (Nat.zero_le _) (Nat.le_refl _) hrow
            · rw [if_neg (fun h => g3 ((cn 43).2 h))] at hrow
              rw [condB_ibeq]
              refine ite_split (fun g4 => ?_) (fun g4 => ?_)
              · rw [if_pos ((cn 92).1 g4)] at hrow
                exact next 0 0 (Nat.zero_le _) (Nat.zero_le _) hrow
              · rw [if_neg (fun h => g4 ((cn 92).2 h))] at hrow
                exact fin_same (stop hrow)
      refine opt_in (ln_at (k := k) ho hn (by omega)) ?_
      refine opt_in (ln_load ho hn gl) (isS_in ?_)
      refine opt_in (idx_str (k := 0) (c := c) rfl) (isI_in ?_)
      rw [condB_ibeq]
      refine ite_split (fun g1 => ?_) (fun g1 => ?_)
      · refine h24 _ ?_
        rw [beq_iff_eq]
        exact ⟨fun h => .inl ((cn 32).1 h), fun _ => g1⟩
      · refine h24 _ ?_
        rw [beq_iff_eq]
        refine ⟨fun h => .inr ((cn 10).1 h), fun h => ?_⟩
        rcases h with h | h
        · exact absurd ((cn 32).2 h) g1
        · exact (cn 10).2 h
theorem rows_spec {i n off len : Nat} {ks : List Ln} {fz : Bool} (ho : σ[i]? = some (.arr 1 (ks.map PV.str) fz)) (hn : ks.length = n) (hl : off + len = n) (hne : ∀ l ∈ ks, l ≠ []) (hb : n ≤ 8388608)
    (hR : ∀ x, x = rowsN (ks.drop off) → R (.tup [.pv (.int .i64 (x.1 : Nat)), .pv (.int .i64 (x.2.1 : Nat)), .pv (.int .i64 (x.2.2 : Nat))]) σ) : SCalls (cx w0) stream_rows.id [.arr i n off len] σ R := by
  refine stream_rows.calls ?_
  rw [stream_rows.b0_eq]
  refine rows_loop ho hn hl hne hb len 0 0 0 (Nat.zero_add _) (Nat.le_refl _) (Nat.le_refl _) fun x hx => ?_
  rw [Nat.add_zero] at hx
  have := hR x hx
  rw [Nat.zero_add, Nat.zero_add, Nat.zero_add]
  exact this
end
end Go.Sv
