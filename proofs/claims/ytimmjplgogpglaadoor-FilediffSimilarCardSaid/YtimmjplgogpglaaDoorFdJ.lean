/- What package myers answers: the middle of a shortest way. -/
import Derived.Test.YtimmjplgogpglaaDoorFdI
set_option linter.unusedVariables false
set_option linter.unusedSimpArgs false
set_option maxRecDepth 100000
namespace Go.Sv
section
open Go Go.RowKit Go.Proofs
variable {w0 : Base} {σ : Store} {P : AV → Prop}
variable {a b : List Int} {h : Nat} {c d cA cB : List Int}
abbrev p13 (w0 : Base) (P : AV → Prop) (a b : List Int) (h : Nat) (cA cB : List Int) : Prop :=
  myers_snake.n13 (myers_snake.X w0 0) w0 0 (fun r _ => P r) [.arr 1 (iP cA) false, .arr 1 (iP cB) false] (intsA a) (intsA b) a.length b.length (sizeK a.length b.length : Nat) (rwA a b 0) (rwA a b 1) (oddN a b) h
structure Rnd (a b : List Int) (h : Nat) (cA cB : List Int) : Prop where
  hn : a.length ≤ 4194304
  hm : b.length ≤ 4194304
  two : 2 ≤ cntL a b
  al : cA.length = sizeK a.length b.length
  bl : cB.length = sizeK a.length b.length
  rA : h = 0 ∨ ∃ h0, h = h0 + 1 ∧ RowK (eS 1 a b) a.length b.length h0 allK cA
  rB : h = 0 ∨ ∃ h0, h = h0 + 1 ∧ RowK (eS 0 a b) a.length b.length h0 allK cB
  z : h = 0 → ∀ j, j < sizeK a.length b.length → cA[j]? = some 0 ∧ cB[j]? = some 0
  en : 2 * h ≤ cntL a b + (a.length + b.length) % 2
theorem cnt_facts (a b : List Int) : cntL a b ≤ a.length + b.length ∧ cntL a b % 2 = (a.length + b.length) % 2 := ⟨(way_facts (e := eqL a b) a.length b.length).1, (way_facts (e := eqL a b) a.length b.length).2.2.2⟩
theorem h_small {n m D h : Nat} (hn : n ≤ 4194304) (hm : m ≤ 4194304) (hD : D ≤ n + m) (en : 2 * h ≤ D + (n + m) % 2) : h ≤ 8388600 := by omega
theorem low_first (m h : Nat) : LowK m h (-UpK m h) := by unfold LowK UpK; omega
theorem par_first (m h : Nat) : (-UpK m h - h) % 2 = 0 := by unfold UpK; omega
theorem fuel_first (n m h : Nat) : FuelK n h (h + 1) (-UpK m h) := by
  unfold FuelK
  have := UpK_le n h
  have := UpK_le m h
  omega
theorem nomeet_first {o : Nat} : NoMeet a b h o c d (-UpK b.length h) := by
  intro _ _ k' hr hlt _
  have := hr.1
  unfold UpK at hlt
  omega
theorem stage {o : Nat} (S : Stg a b h o c d) (hz : h = 0 → ∀ j, j < sizeK a.length b.length → c[j]? = some 0) (hret : ∀ s t x y, SnakeOut a b s t x y → P (snA s t x y))
    (next : ∀ c', Stg a b h o c' d → RowK (eS o a b) a.length b.length h allK c' → (∀ K, NoMeet a b h o c' d K) → p19 w0 P a b h o c' d) : p41 w0 (fun r _ => P r) a b h o c d (-UpK b.length h) :=
  k_loop hret (h + 1) _ c (fuel_first _ _ _) S (low_first _ _) (par_first _ _) RowK.none nomeet_first (fun h0 _ => hz h0) next
theorem no_more {D h q : Nat} (hq : q = 0 ∨ q = 1) (hp : D % 2 = q) (en : 2 * h ≤ D + q) (hno : D ≠ 2 * h - q ∨ h = 0 ∧ q = 1) (h2 : 2 ≤ D) : 2 * (h + 1) ≤ D + q := by omega
theorem meet1 (hmm : RowK (eS 1 a b) a.length b.length h allK cA) (hmB : h = 0 ∨ ∃ h0, h = h0 + 1 ∧ RowK (eS 0 a b) a.length b.length h0 allK cB) (hodd : (a.length + b.length) % 2 = 1) (two : 2 ≤ cntL a b) (nm : ∀ K, NoMeet a b h 1 cA cB K) : cntL a b ≠ 2 * h - 1 := by
  intro e
  rcases hmB with h0 | ⟨h0, e0, r⟩
  · rw [h0] at e
    rw [e] at two
    exact absurd two (by decide)
  · subst e0
    unfold eS at hmm r
    rw [if_pos rfl] at hmm
    rw [if_neg (by decide)] at r
    obtain ⟨k, k1, k2, hk⟩ := rows_meet (h := h0 + 1) (h' := h0) (by rw [e]; omega) hmm r
    obtain ⟨x1, y1, u1, u2, u3⟩ := hmm k k1 trivial
    obtain ⟨x2, y2, v1, v2, v3⟩ := r _ k2 trivial
    have g1 := hk _ _ u2 v2
    have g2 := nm (k + 1) (by show (((a.length + b.length) % 2 : Nat) : Int) = ((1 : Nat) : Int); rw [hodd]) (Nat.succ_le_succ (Nat.zero_le _)) k k1 (Int.lt_succ k) k2 _ _ u2 v2
    exact absurd g2 (Int.not_lt.2 g1)
theorem meet0 (hmA : RowK (eS 1 a b) a.length b.length h allK cA) (hmB : RowK (eS 0 a b) a.length b.length h allK cB) (hodd : (a.length + b.length) % 2 = 0) (nm : ∀ K, NoMeet a b h 0 cB cA K) : cntL a b ≠ 2 * h := by
  intro e
  unfold eS at hmA hmB
  rw [if_pos rfl] at hmA
  rw [if_neg (by decide)] at hmB
  obtain ⟨k, k1, k2, hk⟩ := rows_meet (h := h) (h' := h) (by rw [e]; omega) hmA hmB
  obtain ⟨x1, y1, u1, u2, u3⟩ := hmA k k1 trivial
  obtain ⟨x2, y2, v1, v2, v3⟩ := hmB _ k2 trivial
  have g1 := hk _ _ u2 v2
  have ez : (a.length : Int) - b.length - ((a.length : Int) - b.length - k) = k := by clear hk g1 u2 v2 u1 v1 e; omega
  have g2 := nm ((a.length : Int) - b.length - k + 1) (by show (((a.length + b.length) % 2 : Nat) : Int) = ((0 : Nat) : Int); rw [hodd]) (Nat.zero_le _) _ k2 (Int.lt_succ _) (by rw [ez]; exact k1) _ _ v2 (by rw [ez]; exact u2)
  rw [Int.add_comm] at g2
  exact absurd g2 (Int.not_lt.2 g1)
theorem par_two (n : Nat) : n % 2 = 0 ∨ n % 2 = 1 := by omega
theorem fuel_13 {D h f q : Nat} (hf : D + 2 < 2 * h + 2 * (f + 1)) : D + 2 < 2 * (h + 1) + 2 * f := by omega
theorem end_13 {D h q : Nat} (hf : D + 2 < 2 * h + 2 * 0) (hq : q = 0 ∨ q = 1) (en : 2 * h ≤ D + q) : False := by omega
theorem wr_h1 {h : Nat} (hh : h ≤ 8388600) : IntKind.wrap .i64 ((h : Int) + 1) = ((h + 1 : Nat) : Int) := by rw [wrap_i64 (by omega) (by omega)]; omega
theorem bd_h {h : Nat} (hh : h ≤ 8388600) : h ≤ 8388608 := by omega
set_option maxHeartbeats 4000000 in
theorem round_loop (hret : ∀ s t x y, SnakeOut a b s t x y → P (snA s t x y)) : ∀ (f h : Nat) (cA cB : List Int), cntL a b + 2 < 2 * h + 2 * f → Rnd a b h cA cB → p13 w0 P a b h cA cB
  | 0, h, cA, cB, hf, S => (end_13 hf (par_two _) S.en).elim
  | f + 1, h, cA, cB, hf, S => by
    obtain ⟨cf1, cf2⟩ := cnt_facts a b
    have hh := h_small S.hn S.hm cf1 S.en
    have e1 : oddN a b = 1 → 2 * h ≤ cntL a b + 1 := fun e => by
      have := S.en
      have e' : (a.length + b.length) % 2 = 1 := Int.ofNat.inj e
      rwa [e'] at this
    have e0 : oddN a b = 0 → 2 * h ≤ cntL a b + 0 := fun e => by
      have := S.en
      have e' : (a.length + b.length) % 2 = 0 := Int.ofNat.inj e
      rwa [e'] at this
    refine myers_snake.n13_in ?_
    rw [myers_snake.b14_eq]
    refine opt2_in (v := onesA) rfl ?_
    repeat ((with_reducible first | apply opt_in | apply wI | apply wT | apply wP | apply wS | apply wB); exact rfl)
    refine myers_snake.n19_in ?_
    rw [myers_snake.b20_eq, condB_decide, if_pos (by decide)]
    refine opt_in (idx_ro (k := 0) tab3 (show [intP 1, intP 0][0]? = some (intP 1) from rfl) rfl) ?_
    repeat ((with_reducible first | apply opt_in | apply wI | apply wT | apply wP | apply wS | apply wB); exact rfl)
    rw [condB_ibeq, if_neg (by decide)]
    refine myers_snake.n38_in ?_
    rw [myers_snake.b38_eq, wr_lo S.hm (bd_h hh)]
    have S1 : Stg a b h 1 cA cB := ⟨S.hn, S.hm, .inr rfl, bd_h hh, S.two, S.al, S.bl, S.rA, fun ho => by
      rcases S.rB with h0 | ⟨h0, e, r⟩
      · rw [h0] at ho; exact absurd ho (by decide)
      · rw [e]; exact r, e1⟩
    refine stage S1 (fun h0 j hj => (S.z h0 j hj).1) hret fun cA' S1' rA' nm1 => ?_
    show p19 w0 P a b h 1 cA' cB
    refine myers_snake.n19_in ?_
    rw [myers_snake.b20_eq, condB_decide, if_pos (by decide)]
    refine opt_in (idx_ro (k := 1) tab3 (show [intP 1, intP 0][1]? = some (intP 0) from rfl) rfl) ?_
    repeat ((with_reducible first | apply opt_in | apply wI | apply wT | apply wP | apply wS | apply wB); exact rfl)
    rw [condB_ibeq, if_pos (by decide)]
    refine myers_snake.n38_in ?_
    rw [myers_snake.b38_eq, wr_lo S.hm (bd_h hh)]
    have S0 : Stg a b h 0 cB cA' := ⟨S.hn, S.hm, .inl rfl, bd_h hh, S.two, S.bl, S1'.cl, S.rB, fun _ => rA', e0⟩
    refine stage S0 (fun h0 j hj => (S.z h0 j hj).2) hret fun cB' S0' rB' nm0 => ?_
    show p19 w0 P a b h 0 cB' cA'
    refine myers_snake.n19_in ?_
    rw [myers_snake.b20_eq, condB_decide, if_neg (by decide)]
    refine myers_snake.n98_in ?_
    rw [myers_snake.b98_eq, wr_h1 hh]
    refine round_loop hret f (h + 1) cA' cB' (fuel_13 (q := 0) hf) ⟨S.hn, S.hm, S.two, S1'.cl, S0'.cl, .inr ⟨h, rfl, rA'⟩, .inr ⟨h, rfl, rB'⟩, fun e => absurd e (Nat.succ_ne_zero _), ?_⟩
    refine no_more (par_two _) cf2 S.en ?_ S.two
    rcases par_two (a.length + b.length) with hp | hp
    · rw [hp]
      exact .inl (meet0 rA' rB' hp nm0)
    · rw [hp]
      exact .inl (meet1 rA' S.rB hp S.two nm1)
def SnakeIs (a b : List Int) (r : AV) : Prop := ∃ s t x y, SnakeOut a b s t x y ∧ r = snA s t x y
theorem mk_ints {n : Nat} (h : n ≤ 1099511627776) : mkObj 3 ti3 (n : Int) (n : Int) = some (.arr 1 (iP (List.replicate n 0)) false) := by
  unfold mkObj
  show (match (if 0 ≤ (n : Int) ∧ (n : Int) ≤ (n : Int) ∧ roomy (n : Int).toNat 8 ∧ (PV.int .i64 0).cells.length = 1 then some (AV.arr ([] : Store).length (n : Int).toNat 0 (n : Int).toNat, ([] : Store) ++ [SObj.arr 1 (List.replicate (n : Int).toNat (PV.int .i64 0)) false]) else none) with
    | some (_, [ob]) => some ob
    | _ => none) = _
  have e : (n : Int).toNat = n := Int.toNat_natCast n
  rw [if_pos ⟨Int.natCast_nonneg n, Int.le_refl _, by rw [e]; exact ⟨by omega, by omega⟩, rfl⟩, e]
  simp only [List.nil_append]
  rw [show iP (List.replicate n 0) = List.replicate n (PV.int .i64 0) from List.map_replicate]
theorem wr_size {n m : Nat} (hn : n ≤ 4194304) (hm : m ≤ 4194304) : IntKind.wrap .i64 (IntKind.wrap .i64 (2 * (if (m : Int) < n then (m : Int) else n)) + 2) = ((sizeK n m : Nat) : Int) := by
  unfold sizeK
  by_cases g : (m : Int) < n
  · rw [if_pos g, wrap_i64 (n := 2 * (m : Int)) (by omega) (by omega), wrap_i64 (by omega) (by omega)]; omega
  · rw [if_neg g, wrap_i64 (n := 2 * (n : Int)) (by omega) (by omega), wrap_i64 (by omega) (by omega)]; omega
theorem wr_odd {n m : Nat} (hn : n ≤ 4194304) (hm : m ≤ 4194304) : Int.tmod (IntKind.wrap .i64 ((n : Int) + m)) 2 = (((n + m) % 2 : Nat) : Int) := by
  rw [wrap_i64 (by omega) (by omega), Int.tmod_eq_emod_of_nonneg (by omega)]
  omega
theorem snake_spec {R : AV → Store → Prop} (L : Laid w0.w) (hn : a.length ≤ 4194304) (hm : b.length ≤ 4194304) (two : 2 ≤ cntL a b) (hR : ∀ s t x y, SnakeOut a b s t x y → R (snA s t x y) σ) : SCalls (cx w0) myers_snake.id [intsA a, intsA b] σ R := by
  refine SCalls.some_of (P := SnakeIs a b) L rfl (fun w1 L1 => ?_) (fun r ⟨s, t, x, y, _, e⟩ => by rw [e]; rfl) (fun r ⟨s, t, x, y, h, e⟩ => by rw [e]; exact hR s t x y h)
  refine myers_snake.calls ?_
  rw [myers_snake.b0_eq]
  repeat ((with_reducible first | apply opt_in | apply wI | apply wT | apply wP | apply wS | apply wB); exact rfl)
  rw [List.length_map, List.length_map, wr_size hn hm]
  have hs := sizeK_le hn hm
  refine opt_in (mk_ints hs) ?_
  refine opt_in (mk_ints hs) ?_
  refine ⟨by decide, ?_⟩
  rw [wr_odd hn hm]
  have zl : (List.replicate (sizeK a.length b.length) (0 : Int)).length = sizeK a.length b.length := List.length_replicate
  have zg : ∀ j, j < sizeK a.length b.length → (List.replicate (sizeK a.length b.length) (0 : Int))[j]? = some 0 := fun j hj => by rw [List.getElem?_replicate, if_pos hj]
  have er : ∀ id : Nat, mkRes ti3 id ((sizeK a.length b.length : Nat) : Int) = rwA a b id := fun id => by
    show AV.arr id ((sizeK a.length b.length : Nat) : Int).toNat 0 ((sizeK a.length b.length : Nat) : Int).toNat = _
    rw [Int.toNat_natCast]
  rw [er, er]
  exact round_loop (P := SnakeIs a b) (fun s t x y h => ⟨s, t, x, y, h, rfl⟩) (cntL a b + 2) 0 _ _ (by generalize cntL a b = D; omega) ⟨hn, hm, two, zl, zl, .inl rfl, .inl rfl, fun _ j hj => ⟨zg j hj, zg j hj⟩, Nat.zero_le _⟩
end
end Go.Sv
