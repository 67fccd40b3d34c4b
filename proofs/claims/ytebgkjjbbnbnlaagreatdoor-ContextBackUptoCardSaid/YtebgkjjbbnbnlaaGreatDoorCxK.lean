/- What the code of package context answers where it reads: both parts of a hunk put together. What the code of package context answers where it reads: both parts of a hunk put together, whole. -/
import Derived.Test.YtebgkjjbbnbnlaaGreatDoorSvC
set_option linter.unusedVariables false
set_option linter.unusedSimpArgs false
set_option maxRecDepth 100000
section
namespace Go.Sv
section
open Go Go.RowKit Go.Proofs
variable {w0 : Base} {σ : Store} {R : AV → Store → Prop}
abbrev mkP (x : Mkd) : PV := .agg [.int .u8 x.m.toNat, .str x.t]
abbrev mksP (l : List Mkd) : PV := .sl (l.map mkP)
theorem u8_eq {a b : UInt8} : ((a.toNat : Int) = (b.toNat : Int)) ↔ a = b := ⟨fun h => UInt8.toNat_inj.1 (by omega), fun h => by rw [h]⟩
theorem mk_get {l : List Mkd} {i : Nat} {x : Mkd} (h : l[i]? = some x) : (l.map mkP)[i]? = some (mkP x) := by rw [List.getElem?_map, h]; rfl
theorem marks_sized : ∀ l : List Mkd, sized 2 (l.map mkP) = true := by
  intro l
  simp only [sized, List.all_eq_true, List.mem_map]
  rintro x ⟨r, _, rfl⟩
  rfl
theorem X8 {l : List Mkd} {k : Nat} (h : k ≤ l.length) : I1 σ tabS ti136.td (.pv (mksP l)) (some (.pv (.int .i64 (k : Int)))) none = some (.pv (mksP (l.drop k))) := by
  show (if (0 : Int) ≤ (k : Int) ∧ (k : Int) ≤ (((l.map mkP).length : Nat) : Int) ∧ (((l.map mkP).length : Nat) : Int) ≤ (((l.map mkP).length : Nat) : Int) then (if sized 2 (l.map mkP) = true then some (AV.pv (.sl (((l.map mkP).take (((l.map mkP).length : Nat) : Int).toNat).drop (k : Int).toNat))) else none) else none) = _
  rw [if_pos (by rw [List.length_map]; omega), if_pos (marks_sized l)]
  simp [List.take_of_length_le]
theorem slice_mk_hi {l : List Mkd} {k : Nat} (h : k ≤ l.length) : I1 σ tabS ti136.td (.pv (mksP l)) none (some (.pv (.int .i64 (k : Int)))) = some (.pv (mksP (l.take k))) := by
  show (if (0 : Int) ≤ 0 ∧ (0 : Int) ≤ (k : Int) ∧ (k : Int) ≤ (((l.map mkP).length : Nat) : Int) then (if sized 2 (l.map mkP) = true then some (AV.pv (.sl (((l.map mkP).take (k : Int).toNat).drop (0 : Int).toNat))) else none) else none) = _
  rw [if_pos (by rw [List.length_map]; omega), if_pos (marks_sized l)]
  simp
abbrev msS (l : List Mkd) : Store := [.arr 2 (l.map mkP) false]
abbrev msA (l : List Mkd) : AV := .arr 0 l.length 0 l.length
theorem ms_seal (l : List Mkd) : sealR 0 ([] ++ msS l) (msA l) = some (.pv (mksP l)) := by
  show (if (l.map mkP).length = l.length ∧ 0 + l.length ≤ l.length then some (AV.pv (.sl (((l.map mkP).drop 0).take l.length))) else none) = _
  rw [if_pos ⟨List.length_map _, by omega⟩]
  simp [List.take_of_length_le]
theorem contexts_loop (l : List Mkd) (hl : l.length ≤ 8388608) (v : AV) : ∀ (r : List Mkd) (k : Nat) (done : List Mkd), l.drop k = r → done.length ≤ k → v = .pv (mksP (done ++ ctxM r)) →
    C6.n8 (C6.X w0 0) w0 0 (fun r' _ => r' = v) (msS done) (msA done) (.pv (mksP l)) l.length k
  | [], k, done, hd, _, hv => by
    have hk := M0 hd
    refine C6.n8_in ?_
    rw [C6.b9_eq, A7, if_neg (by omega)]
    refine C6.n25_in ?_
    rw [C6.b25_eq]
    refine O9 (σ := []) (L := msS done) glob0 rfl (ms_seal done) ?_
    rw [hv]; simp [ctxM]
  | c :: r, k, done, hd, hdk, hv => by
    obtain ⟨h1, h2, hk⟩ := H4 hd
    have h24 : ∀ (done' : List Mkd), done'.length ≤ k + 1 → v = .pv (mksP (done' ++ ctxM r)) → C6.n24 (C6.X w0 0) w0 0 (fun r' _ => r' = v) [.arr 2 (done'.map mkP) false, .cells 183 [.pv (.int .u8 c.m.toNat), .pv (.str c.t)]] (msA done') (.pv (mksP l)) l.length k := by
      intro done' hd' hv'
      refine C6.n24_in ?_
      rw [C6.b24_eq, I3 hk (by omega)]
      refine C6.n8_weak (EWeak.drop (τ := msS done') glob0 (Nat.zero_le _) rfl rfl) ?_
      exact contexts_loop l hl v r (k + 1) done' h2 hd' hv'
    refine C6.n8_in ?_
    rw [C6.b9_eq, A7, if_pos (by omega)]
    refine A0 (K7 tab183 (mk_get h1) rfl) ?_
    repeat ((with_reducible first | apply A0 | apply wI | apply wT | apply wP | apply wS | apply wB); exact rfl)
    rw [G4]
    have hc : ((c.m.toNat : Int) = 32) ↔ c.m = 32 := u8_eq (b := 32)
    refine B8 (fun g => ?_) (fun g => ?_)
    · have g' := hc.1 g
      refine A0 (v := .pv (mkP c)) rfl ?_
      refine G2 (v := .pv (.sl [mkP c])) rfl ?_
      refine G2 (R1 (id := 0) (es := 2) (ver := done.length) (xs := done.map mkP) (ys := [mkP c]) rfl rfl (List.length_map _).symm rfl rfl ⟨by rw [List.length_map]; show done.length + 1 ≤ _; omega, by rw [List.length_map]; show (done.length + 1) * 24 ≤ _; omega⟩) ?_
      have e : done.map mkP ++ [mkP c] = (done ++ [c]).map mkP := by simp
      have e2 : (done.map mkP).length + [mkP c].length = (done ++ [c]).length := by simp
      rw [e, e2]
      refine h24 (done ++ [c]) (by rw [List.length_append, List.length_singleton]; omega) ?_
      rw [hv]
      unfold ctxM
      rw [List.filter_cons_of_pos (by simpa using g'), List.append_assoc]; rfl
    · have g' : c.m ≠ 32 := fun e => g (hc.2 e)
      refine h24 done (by omega) ?_
      rw [hv]
      unfold ctxM
      rw [List.filter_cons_of_neg (by simpa using g')]
theorem contexts_spec (L : Laid w0.w) {l : List Mkd} (hl : l.length ≤ 8388608) (hR : R (.pv (mksP (ctxM l))) σ) : A1 (cx w0) C6.id [.pv (mksP l)] σ R := by
  refine A1.alone L rfl (fun w1 L1 => ?_) rfl hR
  refine C6.calls ?_
  rw [C6.b0_eq]
  repeat ((with_reducible first | apply A0 | apply wI | apply wT | apply wP | apply wS | apply wB); exact rfl)
  rw [List.length_map]
  refine C6.n8_weak (out' := msA []) (t6' := .pv (mksP l)) (t7' := l.length) (t8' := 0) (τ := msS []) (EWeak.nil (t := 3) (es := 2) rfl rfl) ?_
  exact contexts_loop l hl _ l 0 [] rfl (Nat.zero_le _) rfl
theorem taken_loop (l : List Mkd) (hl : l.length ≤ 8388608) : ∀ (r p : List Mkd), l = p ++ r → p = tkM l ∨ (∀ x ∈ p, x.m ≠ 32) →
    (∀ x ∈ p, x.m ≠ 32) → D5.n6 (D5.X w0 0) w0 0 (fun r' _ => r' = .tup [.pv (mksP (tkM l)), .pv (mksP (tdM l))]) [] (.pv (mksP l)) p.length := by
  have fin : ∀ p r : List Mkd, l = p ++ r → tkM l = p → tdM l = r → D5.n15 (D5.X w0 0) w0 0 (fun r' _ => r' = .tup [.pv (mksP (tkM l)), .pv (mksP (tdM l))]) [] (.pv (mksP l)) p.length := by
    intro p r hpr h1 h2
    have hle : p.length ≤ l.length := by rw [hpr]; simp
    refine D5.n15_in ?_
    rw [D5.b15_eq]
    refine A0 (slice_mk_hi hle) (A0 (X8 hle) ⟨A0 (X8 hle) rfl, ?_⟩)
    refine C5 (Nat.zero_le _) ?_
    rw [h1, h2, hpr]; simp
  have split : ∀ p r : List Mkd, (∀ x ∈ p, x.m ≠ 32) → (∀ x ∈ r.head?, x.m = 32) → tkM (p ++ r) = p ∧ tdM (p ++ r) = r := by
    intro p r hp hr
    induction p with
    | nil =>
      cases r with
      | nil => exact ⟨rfl, rfl⟩
      | cons x r =>
        have : x.m = 32 := hr x (by simp)
        simp [tkM, tdM, this]
    | cons y p ih =>
      have hy := hp y (by simp)
      obtain ⟨i1, i2⟩ := ih (fun x hx => hp x (by simp [hx]))
      unfold tkM tdM at *
      simp only [List.cons_append, List.takeWhile_cons, List.dropWhile_cons]
      have e : (!(y.m == 32)) = true := by simp [hy]
      rw [e]
      simp only [if_true]
      exact ⟨by rw [i1], i2⟩
  intro r
  induction r with
  | nil =>
    intro p hpr _ hp
    obtain ⟨s1, s2⟩ := split p [] hp (by simp)
    rw [← hpr] at s1 s2
    refine D5.n6_in ?_
    rw [D5.b7_eq]
    repeat ((with_reducible first | apply A0 | apply wI | apply wT | apply wP | apply wS | apply wB); exact rfl)
    rw [A7, if_neg (by rw [List.length_map, hpr]; simp)]
    generalize hb : false = b
    refine D5.n10_in ?_
    rw [D5.b10_eq, ← hb, I5]
    exact fin p [] hpr s1 s2
  | cons c r ih =>
    intro p hpr _ hp
    have hk : l[p.length]? = some c := by rw [hpr]; simp
    have hlt : p.length < l.length := by rw [hpr]; simp
    refine D5.n6_in ?_
    rw [D5.b7_eq]
    repeat ((with_reducible first | apply A0 | apply wI | apply wT | apply wP | apply wS | apply wB); exact rfl)
    rw [A7, if_pos (by rw [List.length_map]; omega)]
    refine A0 (K7 tab183 (mk_get hk) rfl) ?_
    repeat ((with_reducible first | apply A0 | apply wI | apply wT | apply wP | apply wS | apply wB); exact rfl)
    have h10 : ∀ t, t = !(c.m == 32) → D5.n10 (D5.X w0 0) w0 0 (fun r' _ => r' = .tup [.pv (mksP (tkM l)), .pv (mksP (tdM l))]) [] (.pv (mksP l)) p.length t := by
      intro t ht
      refine D5.n10_in ?_
      rw [D5.b10_eq]
      refine A5 (fun g => ?_) (fun g => ?_)
      · have hc : c.m ≠ 32 := by rw [g] at ht; simpa using ht.symm
        rw [I3 hlt (by omega)]
        have h3 : ∀ x ∈ p ++ [c], x.m ≠ 32 := fun x hx => by
          rcases List.mem_append.1 hx with hx | hx
          · exact hp x hx
          · rw [List.mem_singleton] at hx; rw [hx]; exact hc
        have := ih (p ++ [c]) (by rw [hpr]; simp) (.inr h3) h3
        rw [List.length_append] at this
        exact this
      · have hc : c.m = 32 := by rw [g] at ht; simpa using ht.symm
        obtain ⟨s1, s2⟩ := split p (c :: r) hp (by simpa using hc)
        rw [← hpr] at s1 s2
        exact fin p (c :: r) hpr s1 s2
    refine h10 _ ?_
    have hc : ((c.m.toNat : Int) = 32) ↔ c.m = 32 := u8_eq (b := 32)
    by_cases h : c.m = 32
    · rw [h]; rfl
    · have h2 : ¬ ((c.m.toNat : Int) = 32) := fun e => h (hc.1 e)
      rw [beq_false_of_ne h, Bool.not_false, bne_iff_ne.2 h2]
theorem taken_spec12 (L : Laid w0.w) {l : List Mkd} (hl : l.length ≤ 8388608) (hR : R (.tup [.pv (mksP (tkM l)), .pv (mksP (tdM l))]) σ) : A1 (cx w0) D5.id [.pv (mksP l)] σ R := by
  refine A1.alone L rfl (fun w1 L1 => ?_) rfl hR
  refine D5.calls ?_
  rw [D5.b0_eq]
  exact taken_loop l hl l [] rfl (.inr (fun x hx => by cases hx)) (fun x hx => by cases hx)
theorem only_loop (l : List Mkd) (hl : l.length ≤ 8388608) (m : UInt8) (v : AV) : ∀ (r : List Mkd) (k : Nat), l.drop k = r → v = .pv (.bool (r.all (fun x => x.m == m) && !l.isEmpty)) →
    F6.n6 (F6.X w0 0) w0 0 (fun r' _ => r' = v) [] (.pv (mksP l)) (m.toNat : Int) (.pv (mksP l)) l.length k
  | [], k, hd, hv => by
    have hk := M0 hd
    refine F6.n6_in ?_
    rw [F6.b7_eq, A7, if_neg (by omega)]
    refine F6.n25_in ?_
    rw [F6.b25_eq]
    repeat ((with_reducible first | apply A0 | apply wI | apply wT | apply wP | apply wS | apply wB); exact rfl)
    refine C5 (Nat.zero_le _) ?_
    rw [hv, List.length_map]
    cases l with
    | nil => rfl
    | cons x l => simp
  | c :: r, k, hd, hv => by
    obtain ⟨h1, h2, hk⟩ := H4 hd
    refine F6.n6_in ?_
    rw [F6.b7_eq, A7, if_pos (by omega)]
    refine A0 (K7 tab183 (mk_get h1) rfl) ?_
    repeat ((with_reducible first | apply A0 | apply wI | apply wT | apply wP | apply wS | apply wB); exact rfl)
    rw [M1]
    have hc : ((c.m.toNat : Int) = (m.toNat : Int)) ↔ c.m = m := u8_eq
    refine B8 (fun g => ?_) (fun g => ?_)
    · rw [I3 hk (by omega)]
      refine F6.n6_weak (EWeak.drop (τ := []) glob0 (Nat.zero_le _) rfl rfl) ?_
      refine only_loop l hl m v r (k + 1) h2 ?_
      rw [hv, List.all_cons, hc.1 g]; simp
    · refine C5 (Nat.zero_le _) ?_
      have hne : (c.m == m) = false := beq_false_of_ne (fun e => g (hc.2 e))
      rw [hv, List.all_cons, hne]; rfl
theorem only_spec (L : Laid w0.w) {l : List Mkd} {m : UInt8} (hl : l.length ≤ 8388608) (hR : R (.pv (.bool (onlyM l m))) σ) : A1 (cx w0) F6.id [.pv (mksP l), .pv (.int .u8 m.toNat)] σ R := by
  refine A1.alone L rfl (fun w1 L1 => ?_) rfl hR
  refine F6.calls ?_
  rw [F6.b0_eq]
  repeat ((with_reducible first | apply A0 | apply wI | apply wT | apply wP | apply wS | apply wB); exact rfl)
  rw [List.length_map]
  exact only_loop l hl m _ l 0 rfl rfl
end
end Go.Sv
end
section
namespace Go.Sv
section
open Go Go.RowKit Go.Proofs
variable {w0 : Base} {σ : Store} {R : AV → Store → Prop}
abbrev rwsS (l : List Row) : Store := [.arr 2 (l.map rowP) false]
abbrev rwsA (l : List Row) : AV := .arr 0 l.length 0 l.length
theorem rws_seal (l : List Row) (b : Bool) : sealR 0 ([] ++ rwsS l) (.tup [rwsA l, .pv (.bool b)]) = some (.tup [.pv (rowsP l), .pv (.bool b)]) := by
  have e : sealV 0 ([] ++ rwsS l) (rwsA l) = some (.pv (rowsP l)) := by
    show (if (l.map rowP).length = l.length ∧ 0 + l.length ≤ l.length then some (AV.pv (.sl (((l.map rowP).drop 0).take l.length))) else none) = _
    rw [if_pos ⟨List.length_map _, by omega⟩]
    simp [List.take_of_length_le]
  have e2 : sealE 0 ([] ++ rwsS l) (rwsA l) = some (.pv (rowsP l)) := e
  simp only [sealR, sealEs, e2]
  rfl
def togP (o : Option (List Row)) (w : AV) : Prop := match o with
  | some rows => w = .tup [.pv (rowsP rows), .pv (.bool true)]
  | none => ∃ rows, w = .tup [.pv (rowsP rows), .pv (.bool false)]
theorem togP_under {o : Option (List Row)} {w : AV} (h : togP o w) : AV.under 0 w = true := by
  unfold togP at h
  split at h
  · rw [h]; rfl
  · obtain ⟨rows, rfl⟩ := h; rfl
section
variable {P : AV → Prop}
theorem put_row {out : List Row} {c : Mkd} {k : Int} (hl : out.length + 1 ≤ 16777216) : I7 [.arr 2 (out.map rowP) false, .cells 183 [.pv (.int .u8 c.m.toNat), .pv (.str c.t)]] ti51 (rwsA out) (.pv (.sl [rowP ⟨k, c.t⟩])) = some (rwsA (out ++ [⟨k, c.t⟩]), [.arr 2 ((out ++ [(⟨k, c.t⟩ : Row)]).map rowP) false, .cells 183 [.pv (.int .u8 c.m.toNat), .pv (.str c.t)]]) := by
  have := R1 (σ := [.arr 2 (out.map rowP) false, .cells 183 [.pv (.int .u8 c.m.toNat), .pv (.str c.t)]]) (id := 0) (es := 2) (ver := out.length) (xs := out.map rowP) (ys := [rowP ⟨k, c.t⟩]) (fz := false) (ei := ti51) (x := .pv (.sl [rowP ⟨k, c.t⟩])) rfl rfl (List.length_map _).symm rfl rfl ⟨by rw [List.length_map]; show out.length + 1 ≤ _; omega, by rw [List.length_map]; show (out.length + 1) * 24 ≤ _; omega⟩
  have e : out.map rowP ++ [rowP ⟨k, c.t⟩] = (out ++ [(⟨k, c.t⟩ : Row)]).map rowP := by simp
  have e2 : (out.map rowP).length + [rowP (⟨k, c.t⟩ : Row)].length = (out ++ [(⟨k, c.t⟩ : Row)]).length := by simp
  rw [this, e, e2]
  rfl
theorem come_loop {old fresh come : List Mkd} {out0 : List Row} (hl : out0.length + come.length ≤ 16777216) (hc : come.length ≤ 8388608)
    (next : A3.n85 (A3.X w0 0) w0 0 (fun r _ => P r) (rwsS (out0 ++ come.map fun x => ⟨3, x.t⟩)) (.pv (mksP old)) (.pv (mksP fresh)) (rwsA (out0 ++ come.map fun x => ⟨3, x.t⟩))) : ∀ (r done : List Mkd), come = done ++ r →
    A3.n72 (A3.X w0 0) w0 0 (fun r _ => P r) (rwsS (out0 ++ done.map fun x => ⟨3, x.t⟩)) (.pv (mksP old)) (.pv (mksP fresh)) (rwsA (out0 ++ done.map fun x => ⟨3, x.t⟩)) (.pv (mksP come)) come.length done.length
  | [], done, h => by
    rw [List.append_nil] at h
    subst h
    refine A3.n72_in ?_
    rw [A3.b73_eq, A7, if_neg (by omega)]
    exact next
  | c :: r, done, h => by
    have hk : come[done.length]? = some c := by rw [h]; simp
    have hlen : come.length = done.length + (r.length + 1) := by rw [h]; simp
    have ih := come_loop hl hc next r (done ++ [c]) (by rw [h]; simp)
    refine A3.n72_in ?_
    rw [A3.b73_eq, A7, if_pos (by omega)]
    refine A0 (K7 tab183 (mk_get hk) rfl) ?_
    repeat ((with_reducible first | apply A0 | apply wI | apply wT | apply wP | apply wS | apply wB); exact rfl)
    refine G2 (v := .pv (.sl [rowP ⟨3, c.t⟩])) rfl ?_
    refine G2 (put_row (c := c) (by simp only [List.length_append, List.length_map]; omega)) ?_
    rw [I3 (n := come.length) (by omega) (by omega)]
    refine A3.n72_weak (EWeak.drop (τ := rwsS ((out0 ++ done.map fun x => ⟨3, x.t⟩) ++ [⟨3, c.t⟩])) glob0 (Nat.zero_le _) rfl rfl) ?_
    simp only [List.map_append, List.map_cons, List.map_nil, List.length_append, List.length_singleton, ← List.append_assoc] at ih
    exact ih
theorem gone_loop {old fresh gone come : List Mkd} {out0 : List Row} (hl : out0.length + gone.length ≤ 16777216) (hc : gone.length ≤ 8388608)
    (next : A3.n68 (A3.X w0 0) w0 0 (fun r _ => P r) (rwsS (out0 ++ gone.map fun x => ⟨2, x.t⟩)) (.pv (mksP old)) (.pv (mksP fresh)) (rwsA (out0 ++ gone.map fun x => ⟨2, x.t⟩)) (.pv (mksP come))) : ∀ (r done : List Mkd), gone = done ++ r →
    A3.n55 (A3.X w0 0) w0 0 (fun r _ => P r) (rwsS (out0 ++ done.map fun x => ⟨2, x.t⟩)) (.pv (mksP old)) (.pv (mksP fresh)) (rwsA (out0 ++ done.map fun x => ⟨2, x.t⟩)) (.pv (mksP come)) (.pv (mksP gone)) gone.length done.length
  | [], done, h => by
    rw [List.append_nil] at h
    subst h
    refine A3.n55_in ?_
    rw [A3.b56_eq, A7, if_neg (by omega)]
    exact next
  | c :: r, done, h => by
    have hk : gone[done.length]? = some c := by rw [h]; simp
    have hlen : gone.length = done.length + (r.length + 1) := by rw [h]; simp
    have ih := gone_loop hl hc next r (done ++ [c]) (by rw [h]; simp)
    refine A3.n55_in ?_
    rw [A3.b56_eq, A7, if_pos (by omega)]
    refine A0 (K7 tab183 (mk_get hk) rfl) ?_
    repeat ((with_reducible first | apply A0 | apply wI | apply wT | apply wP | apply wS | apply wB); exact rfl)
    refine G2 (v := .pv (.sl [rowP ⟨2, c.t⟩])) rfl ?_
    refine G2 (put_row (c := c) (by simp only [List.length_append, List.length_map]; omega)) ?_
    rw [I3 (n := gone.length) (by omega) (by omega)]
    refine A3.n55_weak (EWeak.drop (τ := rwsS ((out0 ++ done.map fun x => ⟨2, x.t⟩) ++ [⟨2, c.t⟩])) glob0 (Nat.zero_le _) rfl rfl) ?_
    simp only [List.map_append, List.map_cons, List.map_nil, List.length_append, List.length_singleton, ← List.append_assoc] at ih
    exact ih
end
theorem tk_len (l : List Mkd) : (tkM l).length + (tdM l).length = l.length := by
  have := congrArg List.length (List.takeWhile_append_dropWhile (p := fun x : Mkd => !(x.m == 32)) (l := l))
  rw [List.length_append] at this
  exact this
theorem P6 (l : List Mkd) : l.isEmpty = ((l.length : Int) == 0) := by
  cases l with
  | nil => rfl
  | cons x l =>
    have : ¬ (((x :: l).length : Int) = 0) := by simp only [List.length_cons]; omega
    rw [beq_false_of_ne this]; rfl
theorem tog_bad {v : Option (List Row)} (h : v = none) (S : Store) : FinK (cx w0) 0 (.tup [.nilsl, .pv (.bool false)]) S (fun r _ => togP v r) := by
  refine O9 (σ := []) (L := S) glob0 rfl (r' := .tup [.pv (rowsP []), .pv (.bool false)]) rfl ?_
  rw [h]; exact ⟨[], rfl⟩
theorem tog88 {v : Option (List Row)} {o1 f1 : List Mkd} {out : List Row} (hl : out.length + 1 ≤ 16777216)
    (h1 : o1 = [] → f1 = [] → v = some out) (h2 : (o1 = [] ∧ f1 ≠ []) ∨ (o1 ≠ [] ∧ f1 = []) → v = none)
    (h3 : ∀ a o b f, o1 = a :: o → f1 = b :: f → (a.t ≠ b.t → v = none) ∧ (a.t = b.t → A3.n22 (A3.X w0 0) w0 0 (fun r _ => togP v r) (rwsS (out ++ [⟨1, a.t⟩])) (.pv (mksP o)) (.pv (mksP f)) (rwsA (out ++ [⟨1, a.t⟩]))))
    (t : Bool) (ht : t = (o1.isEmpty || f1.isEmpty)) : A3.n88 (A3.X w0 0) w0 0 (fun r _ => togP v r) (rwsS out) (.pv (mksP o1)) (.pv (mksP f1)) (rwsA out) t := by
  refine A3.n88_in ?_
  rw [A3.b88_eq]
  refine A5 (fun g => ?_) (fun g => ?_)
  · rw [g] at ht
    repeat ((with_reducible first | apply A0 | apply wI | apply wT | apply wP | apply wS | apply wB); exact rfl)
    rw [List.length_map, List.length_map]
    refine O9 (σ := []) (L := rwsS out) glob0 rfl (rws_seal _ _) ?_
    cases o1 with
    | nil =>
      cases f1 with
      | nil => rw [h1 rfl rfl]; rfl
      | cons b f =>
        have hb : (((([] : List Mkd).length : Nat) : Int) == (((b :: f).length : Nat) : Int)) = false := beq_false_of_ne (by simp only [List.length_cons, List.length_nil]; omega)
        rw [hb, h2 (.inl ⟨rfl, by simp⟩)]
        exact ⟨_, rfl⟩
    | cons a o =>
      cases f1 with
      | nil =>
        have hb : ((((a :: o).length : Nat) : Int) == ((([] : List Mkd).length : Nat) : Int)) = false := beq_false_of_ne (by simp only [List.length_cons, List.length_nil]; omega)
        rw [hb, h2 (.inr ⟨by simp, rfl⟩)]
        exact ⟨_, rfl⟩
      | cons b f => exact absurd ht (by simp)
  · rw [g] at ht
    cases o1 with
    | nil => exact absurd ht (by simp)
    | cons a o =>
      cases f1 with
      | nil => exact absurd ht (by simp)
      | cons b f =>
        obtain ⟨h4, h5⟩ := h3 a o b f rfl rfl
        refine A0 (K7 (k := 0) tab183 (mk_get (l := a :: o) (i := 0) rfl) rfl) ?_
        repeat ((with_reducible first | apply A0 | apply wI | apply wT | apply wP | apply wS | apply wB); exact rfl)
        refine A0 (K7 (k := 0) tab183 (mk_get (l := b :: f) (i := 0) rfl) rfl) ?_
        repeat ((with_reducible first | apply A0 | apply wI | apply wT | apply wP | apply wS | apply wB); exact rfl)
        rw [E3, P0]
        refine B8 (fun g2 => ?_) (fun g2 => tog_bad (h4 g2) _)
        refine A0 (K7 (k := 0) tab183 (mk_get (l := a :: o) (i := 0) rfl) rfl) ?_
        repeat ((with_reducible first | apply A0 | apply wI | apply wT | apply wP | apply wS | apply wB); exact rfl)
        refine G2 (v := .pv (.sl [rowP ⟨1, a.t⟩])) rfl ?_
        refine G2 (R1 (id := 0) (es := 2) (ver := out.length) (xs := out.map rowP) (ys := [rowP ⟨1, a.t⟩]) rfl rfl (List.length_map _).symm rfl rfl ⟨by rw [List.length_map]; show out.length + 1 ≤ _; omega, by rw [List.length_map]; show (out.length + 1) * 24 ≤ _; omega⟩) ?_
        refine A0 (X8 (k := 1) (by simp)) (A0 (X8 (k := 1) (by simp)) ⟨A0 (X8 (k := 1) (by simp)) rfl, ?_⟩)
        have e : out.map rowP ++ [rowP ⟨1, a.t⟩] = (out ++ [(⟨1, a.t⟩ : Row)]).map rowP := by simp
        have e3 : (out.map rowP).length + [rowP (⟨1, a.t⟩ : Row)].length = (out ++ [(⟨1, a.t⟩ : Row)]).length := by simp
        rw [e, e3]
        exact h5 g2
theorem tog85 {v : Option (List Row)} {o1 f1 : List Mkd} {out : List Row} (h88 : ∀ t, t = (o1.isEmpty || f1.isEmpty) → A3.n88 (A3.X w0 0) w0 0 (fun r _ => togP v r) (rwsS out) (.pv (mksP o1)) (.pv (mksP f1)) (rwsA out) t) :
    A3.n85 (A3.X w0 0) w0 0 (fun r _ => togP v r) (rwsS out) (.pv (mksP o1)) (.pv (mksP f1)) (rwsA out) := by
  refine A3.n85_in ?_
  rw [A3.b85_eq]
  repeat ((with_reducible first | apply A0 | apply wI | apply wT | apply wP | apply wS | apply wB); exact rfl)
  rw [List.length_map, G4]
  refine B8 (fun g => ?_) (fun g => ?_)
  · generalize hb : true = b
    refine h88 b ?_
    rw [← hb, P6, beq_iff_eq.2 g]; rfl
  · repeat ((with_reducible first | apply A0 | apply wI | apply wT | apply wP | apply wS | apply wB); exact rfl)
    rw [List.length_map]
    refine h88 _ ?_
    rw [P6, P6, beq_false_of_ne g, Bool.false_or]
theorem tog51 {v : Option (List Row)} {o1 f1 g1 c1 : List Mkd} {out : List Row} (hl : out.length + g1.length + c1.length ≤ 16777216) (hg : g1.length ≤ 8388608) (hc : c1.length ≤ 8388608)
    (h85 : A3.n85 (A3.X w0 0) w0 0 (fun r _ => togP v r) (rwsS (out ++ U0 g1 c1)) (.pv (mksP o1)) (.pv (mksP f1)) (rwsA (out ++ U0 g1 c1))) :
    A3.n51 (A3.X w0 0) w0 0 (fun r _ => togP v r) (rwsS out) (.pv (mksP o1)) (.pv (mksP f1)) (rwsA out) (.pv (mksP g1)) (.pv (mksP c1)) := by
  have eo : (out ++ g1.map fun x => (⟨2, x.t⟩ : Row)) ++ c1.map (fun x => (⟨3, x.t⟩ : Row)) = out ++ U0 g1 c1 := by
    unfold U0; rw [List.append_assoc]
  have h68 : A3.n68 (A3.X w0 0) w0 0 (fun r _ => togP v r) (rwsS (out ++ g1.map fun x => ⟨2, x.t⟩)) (.pv (mksP o1)) (.pv (mksP f1)) (rwsA (out ++ g1.map fun x => ⟨2, x.t⟩)) (.pv (mksP c1)) := by
    refine A3.n68_in ?_
    rw [A3.b68_eq]
    repeat ((with_reducible first | apply A0 | apply wI | apply wT | apply wP | apply wS | apply wB); exact rfl)
    rw [List.length_map]
    rw [← eo] at h85
    have hA : (out ++ g1.map fun x => (⟨2, x.t⟩ : Row)).length + c1.length ≤ 16777216 := by rw [List.length_append, List.length_map]; omega
    have := come_loop (P := togP v) (old := o1) (fresh := f1) (come := c1) (out0 := out ++ g1.map fun x => (⟨2, x.t⟩ : Row)) hA hc h85 c1 [] rfl
    simp only [List.map_nil, List.append_nil, List.length_nil] at this
    exact this
  refine A3.n51_in ?_
  rw [A3.b51_eq]
  repeat ((with_reducible first | apply A0 | apply wI | apply wT | apply wP | apply wS | apply wB); exact rfl)
  rw [List.length_map]
  have hB : out.length + g1.length ≤ 16777216 := by omega
  have := gone_loop (P := togP v) (old := o1) (fresh := f1) (gone := g1) (come := c1) (out0 := out) hB hg h68 g1 [] rfl
  simp only [List.map_nil, List.append_nil, List.length_nil] at this
  exact this
theorem tog34 (L : Laid w0.w) {v : Option (List Row)} {o1 f1 g1 c1 : List Mkd} {out : List Row} (hg : g1.length ≤ 8388608) (hc : c1.length ≤ 8388608)
    (hok : runOK g1 c1 = true → A3.n51 (A3.X w0 0) w0 0 (fun r _ => togP v r) (rwsS out) (.pv (mksP o1)) (.pv (mksP f1)) (rwsA out) (.pv (mksP g1)) (.pv (mksP c1)))
    (hbad : runOK g1 c1 = false → v = none) (t : Bool) (ht : t = (g1.isEmpty && c1.isEmpty)) :
    A3.n34 (A3.X w0 0) w0 0 (fun r _ => togP v r) (rwsS out) (.pv (mksP o1)) (.pv (mksP f1)) (rwsA out) (.pv (mksP g1)) (.pv (mksP c1)) t := by
  have h46 : ∀ t, t = runOK g1 c1 → A3.n46 (A3.X w0 0) w0 0 (fun r _ => togP v r) (rwsS out) (.pv (mksP o1)) (.pv (mksP f1)) (rwsA out) (.pv (mksP g1)) (.pv (mksP c1)) t := by
    intro t ht
    refine A3.n46_in ?_
    rw [A3.b46_eq]
    refine A5 (fun g => hok (by rw [← ht, g])) (fun g => tog_bad (hbad (by rw [← ht, g])) _)
  have h43 : ∀ t, t = ((g1.isEmpty && c1.isEmpty) || (c1.isEmpty && onlyM g1 45) || (g1.isEmpty && onlyM c1 43)) → A3.n43 (A3.X w0 0) w0 0 (fun r _ => togP v r) (rwsS out) (.pv (mksP o1)) (.pv (mksP f1)) (rwsA out) (.pv (mksP g1)) (.pv (mksP c1)) t := by
    intro t ht
    have hr : runOK g1 c1 = (t || (onlyM g1 33 && onlyM c1 33)) := by rw [ht]; rfl
    refine A3.n43_in ?_
    rw [A3.b43_eq]
    refine A5 (fun g => h46 t (by rw [hr, g]; rfl)) (fun g => ?_)
    refine only_spec L (m := 33) hg (F5 ?_)
    rw [g, Bool.false_or] at hr
    refine A5 (fun g2 => ?_) (fun g2 => ?_)
    · refine only_spec L (m := 33) hc (F5 (h46 _ ?_))
      rw [hr, g2, Bool.true_and]
    · generalize hb : false = b
      refine h46 b ?_
      rw [hr, g2, ← hb]; rfl
  have h39 : ∀ t, t = ((g1.isEmpty && c1.isEmpty) || (c1.isEmpty && onlyM g1 45)) → A3.n39 (A3.X w0 0) w0 0 (fun r _ => togP v r) (rwsS out) (.pv (mksP o1)) (.pv (mksP f1)) (rwsA out) (.pv (mksP g1)) (.pv (mksP c1)) t := by
    intro t ht
    refine A3.n39_in ?_
    rw [A3.b39_eq]
    refine A5 (fun g => h46 t ?_) (fun g => ?_)
    · rw [runOK, ← ht, g]; rfl
    · rw [g] at ht
      repeat ((with_reducible first | apply A0 | apply wI | apply wT | apply wP | apply wS | apply wB); exact rfl)
      rw [List.length_map, G4]
      refine B8 (fun g2 => ?_) (fun g2 => ?_)
      · refine only_spec L (m := 43) hc (F5 (h43 _ ?_))
        rw [← ht, P6 g1, beq_iff_eq.2 g2]; rfl
      · generalize hb : false = b
        refine h43 b ?_
        rw [← ht, P6 g1, beq_false_of_ne g2, ← hb]; rfl
  refine A3.n34_in ?_
  rw [A3.b34_eq]
  refine A5 (fun g => hok ?_) (fun g => ?_)
  · rw [runOK, ← ht, g]; rfl
  · rw [g] at ht
    repeat ((with_reducible first | apply A0 | apply wI | apply wT | apply wP | apply wS | apply wB); exact rfl)
    rw [List.length_map, G4]
    refine B8 (fun g2 => ?_) (fun g2 => ?_)
    · refine only_spec L (m := 45) hg (F5 (h39 _ ?_))
      rw [← ht, P6 c1, beq_iff_eq.2 g2]; rfl
    · generalize hb : false = b
      refine h39 b ?_
      rw [← ht, P6 c1, beq_false_of_ne g2, ← hb]; rfl
theorem tog_loop (L : Laid w0.w) (v : Option (List Row)) : ∀ (n : Nat) (old fresh : List Mkd) (out : List Row), old.length < n → out.length + old.length + fresh.length ≤ 16777215 → old.length ≤ 8388608 → fresh.length ≤ 8388608 → v = togL n old fresh out →
    A3.n22 (A3.X w0 0) w0 0 (fun r _ => togP v r) (rwsS out) (.pv (mksP old)) (.pv (mksP fresh)) (rwsA out)
  | 0, old, fresh, out, h, _, _, _, _ => absurd h (Nat.not_lt_zero _)
  | n + 1, old, fresh, out, hn, hl, ho, hf, hv => by
    have k1 := tk_len old
    have k2 := tk_len fresh
    rw [togL] at hv
    have hol : (out ++ U0 (tkM old) (tkM fresh)).length = out.length + ((tkM old).length + (tkM fresh).length) := by unfold U0; simp
    have h34 : ∀ t, t = ((tkM old).isEmpty && (tkM fresh).isEmpty) → A3.n34 (A3.X w0 0) w0 0 (fun r _ => togP v r) (rwsS out) (.pv (mksP (tdM old))) (.pv (mksP (tdM fresh))) (rwsA out) (.pv (mksP (tkM old))) (.pv (mksP (tkM fresh))) t := by
      refine tog34 L (by omega) (by omega) (fun hok => ?_) (fun hok => by rw [hv, if_neg (by rw [hok]; decide)])
      rw [if_pos hok] at hv
      refine tog51 (by omega) (by omega) (by omega) (tog85 (tog88 (by omega) (fun e1 e2 => ?_) (fun h => ?_) (fun a o b f e1 e2 => ⟨fun hne => ?_, fun heq => ?_⟩)))
      · rw [hv, e1, e2]
      · rcases h with ⟨e1, e2⟩ | ⟨e1, e2⟩
        · rw [hv, e1]
          cases e : tdM fresh with
          | nil => exact absurd e e2
          | cons b f => rfl
        · rw [hv, e2]
          cases e : tdM old with
          | nil => exact absurd e e1
          | cons b f => rfl
      · rw [hv, e1, e2]
        simp only [if_neg hne]
      · rw [e1] at k1
        rw [e2] at k2
        simp only [List.length_cons] at k1 k2
        refine tog_loop L v n o f _ (by omega) (by rw [List.length_append, hol, List.length_singleton]; omega) (by omega) (by omega) ?_
        rw [hv, e1, e2]
        simp only [if_pos heq]
    refine A3.n22_in ?_
    rw [A3.b23_eq]
    refine taken_spec12 L ho ?_
    repeat ((with_reducible first | apply A0 | apply wI | apply wT | apply wP | apply wS | apply wB); exact rfl)
    refine taken_spec12 L hf ?_
    repeat ((with_reducible first | apply A0 | apply wI | apply wT | apply wP | apply wS | apply wB); exact rfl)
    rw [List.length_map, G4]
    refine B8 (fun g => ?_) (fun g => ?_)
    · repeat ((with_reducible first | apply A0 | apply wI | apply wT | apply wP | apply wS | apply wB); exact rfl)
      rw [List.length_map]
      refine h34 _ ?_
      rw [P6, P6, beq_iff_eq.2 g, Bool.true_and]
    · generalize hb : false = b
      refine h34 b ?_
      rw [P6, beq_false_of_ne g, ← hb, Bool.false_and]
theorem ctx_len (l : List Mkd) : (ctxM l).length ≤ l.length := List.length_filter_le _ _
theorem tog19 (L : Laid w0.w) {n : Nat} {old fresh : List Mkd} (hn : old.length < n) (ho : old.length ≤ 8388607) (hf : fresh.length ≤ 8388607) :
    A3.n19 (A3.X w0 0) w0 0 (fun r _ => togP (togL n old fresh []) r) [] (.pv (mksP old)) (.pv (mksP fresh)) := by
  refine A3.n19_in ?_
  rw [A3.b19_eq]
  refine A3.n22_weak (old' := .pv (mksP old)) (fresh' := .pv (mksP fresh)) (out' := rwsA []) (τ := rwsS []) (EWeak.nil (t := 6) (es := 2) rfl rfl) ?_
  exact tog_loop L _ n old fresh [] hn (by simp only [List.length_nil]; omega) (by omega) (by omega) rfl
theorem together_spec (L : Laid w0.w) {old fresh : List Mkd} (ho : old.length ≤ 8388607) (hf : fresh.length ≤ 8388607) (hR : ∀ w, togP (togF old fresh) w → R w σ) : A1 (cx w0) A3.id [.pv (mksP old), .pv (mksP fresh)] σ R := by
  refine A1.some_of (P := togP (togF old fresh)) L rfl (fun w1 L1 => ?_) (fun r h => togP_under h) hR
  have h6 : ∀ t, t = decide (old = [] ∧ fresh = []) → A3.n6 (A3.X w1 0) w1 0 (fun r _ => togP (togF old fresh) r) [] (.pv (mksP old)) (.pv (mksP fresh)) t := by
    intro t ht
    refine A3.n6_in ?_
    rw [A3.b6_eq]
    refine A5 (fun g => ?_) (fun g => ?_)
    · rw [g] at ht
      refine tog_bad ?_ _
      rw [togF, if_pos (of_decide_eq_true ht.symm)]
    · rw [g] at ht
      have hn := of_decide_eq_false ht.symm
      repeat ((with_reducible first | apply A0 | apply wI | apply wT | apply wP | apply wS | apply wB); exact rfl)
      rw [List.length_map, G4]
      refine B8 (fun g2 => ?_) (fun g2 => ?_)
      · have e : old = [] := List.length_eq_zero_iff.1 (by omega)
        have hc := ctx_len fresh
        have ef : togF old fresh = togL (fresh.length + 1) (ctxM fresh) fresh [] := by rw [togF, if_neg hn, if_pos e]
        rw [ef]
        exact contexts_spec L1 (by omega) (tog19 L1 (by omega) (by omega) hf)
      · have e : old ≠ [] := fun e => g2 (by rw [e]; rfl)
        repeat ((with_reducible first | apply A0 | apply wI | apply wT | apply wP | apply wS | apply wB); exact rfl)
        rw [List.length_map, G4]
        refine B8 (fun g3 => ?_) (fun g3 => ?_)
        · have e2 : fresh = [] := List.length_eq_zero_iff.1 (by omega)
          have hc := ctx_len old
          have ef : togF old fresh = togL (old.length + 1) old (ctxM old) [] := by rw [togF, if_neg hn, if_neg e, if_pos e2]
          rw [ef]
          exact contexts_spec L1 (by omega) (tog19 L1 (by omega) ho (by omega))
        · have e2 : fresh ≠ [] := fun e => g3 (by rw [e]; rfl)
          have ef : togF old fresh = togL (old.length + 1) old fresh [] := by rw [togF, if_neg hn, if_neg e, if_neg e2]
          rw [ef]
          exact tog19 L1 (by omega) ho hf
  refine A3.calls ?_
  rw [A3.b0_eq]
  repeat ((with_reducible first | apply A0 | apply wI | apply wT | apply wP | apply wS | apply wB); exact rfl)
  rw [List.length_map, G4]
  refine B8 (fun g => ?_) (fun g => ?_)
  · repeat ((with_reducible first | apply A0 | apply wI | apply wT | apply wP | apply wS | apply wB); exact rfl)
    rw [List.length_map]
    refine h6 _ ?_
    have e : old = [] := List.length_eq_zero_iff.1 (by omega)
    rw [Bool.eq_iff_iff, beq_iff_eq, decide_eq_true_eq]
    exact ⟨fun h => ⟨e, List.length_eq_zero_iff.1 (by omega)⟩, fun h => by rw [h.2]; rfl⟩
  · generalize hb : false = b
    refine h6 b ?_
    rw [← hb, decide_eq_false]
    rintro ⟨h, _⟩
    exact g (by rw [h]; rfl)
end
end Go.Sv
end
