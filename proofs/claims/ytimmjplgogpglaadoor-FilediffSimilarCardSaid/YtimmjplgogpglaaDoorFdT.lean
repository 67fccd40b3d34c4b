/- Lines as numbers, on both sides: the first places of what they count as. -/
import Derived.Test.YtimmjplgogpglaaDoorFdS
import Derived.Test.YtimmjplgogpglaaDoorFdG
set_option linter.unusedVariables false
set_option linter.unusedSimpArgs false
set_option maxRecDepth 100000
namespace Go.Sv
def atF (s : Ln) : List Ln → Nat
  | [] => 0
  | k :: r => if k = s then 0 else atF s r + 1
def addK (kn : List Ln) (s : Ln) : List Ln := if atF s kn = kn.length then kn ++ [s] else kn
def knF (kn : List Ln) (l : List Ln) : List Ln := l.foldl addK kn
def xsF (kn : List Ln) : List Ln → List Int
  | [] => []
  | s :: r => (atF s kn : Int) :: xsF (addK kn s) r
theorem atF_le (s : Ln) : ∀ kn : List Ln, atF s kn ≤ kn.length
  | [] => Nat.le_refl _
  | k :: r => by
    have := atF_le s r
    unfold atF
    split
    · exact Nat.zero_le _
    · simp only [List.length_cons]; omega
theorem atF_get (s : Ln) : ∀ kn : List Ln, atF s kn < kn.length → kn[atF s kn]? = some s
  | [], h => by cases h
  | k :: r, h => by
    unfold atF at h ⊢
    split
    · rename_i e; subst e; rfl
    · rename_i e
      rw [if_neg e] at h
      have := atF_get s r (by simpa using h)
      simpa using this
theorem atF_not (s : Ln) : ∀ (kn : List Ln) (j : Nat), j < atF s kn → kn[j]? ≠ some s
  | [], j, h => by cases h
  | k :: r, j, h => by
    unfold atF at h
    split at h
    · cases h
    · rename_i e
      cases j with
      | zero => exact fun he => e (by simpa using he)
      | succ j => have := atF_not s r j (by omega); simpa using this
theorem addK_len (kn : List Ln) (s : Ln) : (addK kn s).length ≤ kn.length + 1 := by
  unfold addK
  split
  · simp
  · omega
def mpF : List Ln → Nat → List (PV × Go.Sv.AV)
  | [], _ => []
  | s :: r, i => (.str s, .pv (.int .i64 (i : Nat))) :: mpF r (i + 1)
theorem mFind_mpF (s : Ln) : ∀ (kn : List Ln) (i j : Nat), mFind .str (.str s) (mpF kn i) j = some (if atF s kn = kn.length then none else some (j + atF s kn, .pv (.int .i64 ((i + atF s kn : Nat) : Int))))
  | [], i, j => rfl
  | c :: r, i, j => by
    unfold mpF mFind atF
    by_cases h : c = s
    · subst h
      simp [keyEq]
    · have h' : s ≠ c := fun e => h e.symm
      have : keyEq .str (.str s) (.str c) = some false := by simp [keyEq, h']
      rw [this, if_neg h]
      simp only
      rw [mFind_mpF s r (i + 1) (j + 1)]
      simp only [List.length_cons, Nat.add_right_cancel_iff]
      split
      · rfl
      · simp [Nat.add_assoc, Nat.add_comm 1]
theorem mpF_append : ∀ (kn : List Ln) (s : Ln) (i : Nat), mpF (kn ++ [s]) i = mpF kn i ++ [(.str s, .pv (.int .i64 ((i + kn.length : Nat) : Int)))]
  | [], s, i => rfl
  | b :: r, s, i => by
    simp only [List.cons_append, mpF]
    rw [mpF_append r s (i + 1)]
    simp only [List.length_cons, Nat.add_assoc, Nat.add_comm 1]
theorem mpF_len : ∀ (kn : List Ln) (i : Nat), (mpF kn i).length = kn.length
  | [], i => rfl
  | b :: r, i => by simp only [mpF, List.length_cons, mpF_len r]
theorem mpF_unders (k : Nat) : ∀ (kn : List Ln) (i : Nat), AV.unders k ((mpF kn i).map (·.2)) = true
  | [], i => rfl
  | c :: r, i => by
    have := mpF_unders k r (i + 1)
    simp only [mpF, List.map_cons, AV.unders, AV.under, this, Bool.and_true]
open Go Go.RowKit Go.Proofs
section
variable {w0 : Base} {σ : Store}
theorem look_mp {σ : Store} {kn : List Ln} {s : Ln} {i : Nat} (ho : σ[i]? = some (.mp (mpF kn 0))) : aLookup σ tabS ti59.td (.mref i) (.pv (.str s)) true = some (if atF s kn = kn.length then .tup [.pv (.int .i64 0), .pv (.bool false)] else .tup [.pv (.int .i64 (atF s kn : Nat)), .pv (.bool true)]) := by
  have h := mFind_mpF s kn 0 0
  by_cases hn : atF s kn = kn.length
  · rw [if_pos hn] at h
    simp only [aLookup, ti59_td, tab9, tab3, ho, ti9_td, isKeyP, h]
    rw [if_pos hn]; rfl
  · rw [if_neg hn] at h
    simp only [aLookup, ti59_td, tab9, tab3, ho, ti9_td, isKeyP, h]
    rw [if_neg hn]; simp
theorem upd_mp {σ : Store} {kn : List Ln} {s : Ln} {i : Nat} (ho : σ[i]? = some (.mp (mpF kn 0))) (hn : atF s kn = kn.length) : aMapUpd σ tabS ti59.td (.mref i) (.pv (.str s)) (.pv (.int .i64 (kn.length : Nat))) = some (σ.set i (.mp (mpF (kn ++ [s]) 0))) := by
  have h := mFind_mpF s kn 0 0
  rw [if_pos hn] at h
  simp only [aMapUpd, ti59_td, tab9, ho, ti9_td, isKeyP, h, Option.map_none, mpF_append, Nat.zero_add]
abbrev idS (kn : List Ln) : Store := [.cells 3 [.pv (.int .i64 0)], .mp (mpF kn 0), .cells 59 [.mref 1]]
abbrev idO (kn : List Ln) (xs : List Int) : Store := idS kn ++ [.arr 1 (iP xs) false]
theorem idS_wf (kn : List Ln) : wfS (idS kn) := by
  show (true && (AV.unders 3 ((mpF kn 0).map (·.2)) && true)) = true
  rw [mpF_unders]; rfl
theorem in_append {σ : Store} {xs : List Int} {x : Int} {id : Nat} {fz : Bool} (ho : σ[id]? = some (.arr 1 (iP xs) fz)) (h : xs.length ≤ 1099511627776) : aAppend σ ti3 (.arr id xs.length 0 xs.length) (.pv (.sl [intP x])) = some (.arr id (xs ++ [x]).length 0 (xs ++ [x]).length, σ.set id (.arr 1 (iP (xs ++ [x])) fz)) := by
  rw [append_pv (id := id) (es := 1) (ver := xs.length) (xs := iP xs) (ys := [intP x]) rfl ho (List.length_map _).symm rfl rfl ⟨by rw [List.length_map]; show xs.length + 1 ≤ _; omega, by rw [List.length_map]; show (xs.length + 1) * 8 ≤ _; omega⟩]
  simp
theorem in_seal {k : Nat} {S : Store} {xs : List Int} {id : Nat} {fz : Bool} (hid : k ≤ id) (ho : S[id]? = some (.arr 1 (iP xs) fz)) : sealV k S (.arr id xs.length 0 xs.length) = some (intsA xs) := by
  have hb : Nat.ble k id = true := by rw [Nat.ble_eq]; exact hid
  simp only [sealV, hb, ho]
  rw [if_pos ⟨List.length_map _, by omega⟩]
  simp [List.take_of_length_le]
theorem ids_loop {R : AV → Store → Prop} {a : List Ln} (hb : ∀ s ∈ a, s.length ≤ 4194304) (ha : a.length ≤ 8388608) {kn0 : List Ln} (hR : R (intsA (xsF kn0 a)) (idS (knF kn0 a))) : ∀ (r : List Ln) (k : Nat) (xs : List Int) (kn : List Ln), k + r.length = a.length → a.drop k = r → xs.length = k → kn.length ≤ 8388608 + k → xs ++ xsF kn r = xsF kn0 a → knF kn r = knF kn0 a →
    intern_Ids_1.n8 (intern_Ids_1.X w0 3) w0 3 R (idO kn xs) (.ptr 0 0) (.ptr 2 0) (.arr 3 xs.length 0 xs.length) (.pv (lnsP a)) (a.length : Nat) (k : Nat)
  | [], k, xs, kn, hk, hd, hx, hl, h1, h2 => by
    rw [List.length_nil] at hk
    refine intern_Ids_1.n8_in ?_
    rw [intern_Ids_1.b9_eq, condB_decide, if_neg (by omega)]
    refine intern_Ids_1.n33_in ?_
    rw [intern_Ids_1.b33_eq]
    simp only [xsF, List.append_nil] at h1
    subst h1
    have h3 : kn = knF kn0 a := h2
    subst h3
    refine fin_seal (σ := idS (knF kn0 a)) (L := [.arr 1 (iP (xsF kn0 a)) false]) glob0 (idS_wf _) ?_ hR
    exact in_seal (k := 3) (S := idO (knF kn0 a) (xsF kn0 a)) (id := 3) (fz := false) (Nat.le_refl _) rfl
  | s :: r, k, xs, kn, hk, hd, hx, hl, h1, h2 => by
    obtain ⟨g1, g2, g3⟩ := drop_facts hd
    have hin : s ∈ a := List.mem_of_getElem? g1
    rw [List.length_cons] at hk
    have hle := atF_le s kn
    have ih := ids_loop hb ha hR r (k + 1) (xs ++ [(atF s kn : Int)]) (addK kn s) (by omega) g2 (by rw [List.length_append, List.length_singleton, hx]) (by have := addK_len kn s; omega) (by rw [List.append_assoc]; exact h1) h2
    have h31 : ∀ kn', kn' = addK kn s → intern_Ids_1.n31 (intern_Ids_1.X w0 3) w0 3 R (idO kn' xs) (.ptr 0 0) (.ptr 2 0) (.arr 3 xs.length 0 xs.length) (atF s kn : Nat) (.pv (lnsP a)) (a.length : Nat) (k : Nat) := by
      rintro kn' rfl
      refine intern_Ids_1.n31_in ?_
      rw [intern_Ids_1.b31_eq]
      refine opt2_in (v := .pv (.sl [intP (atF s kn : Nat)])) rfl ?_
      refine opt2_in (in_append (σ := idO (addK kn s) xs) (id := 3) rfl (by omega)) ?_
      rw [wrap_next (n := a.length) (by omega) (by omega)]
      exact ih
    refine intern_Ids_1.n8_in ?_
    rw [intern_Ids_1.b9_eq, condB_decide, if_pos (by omega)]
    refine opt_in (idx_ro tab9 (show (a.map PV.str)[k]? = some (PV.str s) by rw [List.getElem?_map, g1]; rfl) rfl) ?_
    repeat ((with_reducible first | apply opt_in | apply wI | apply wT | apply wP | apply wS | apply wB); exact rfl)
    refine Key_spec (by have := hb s hin; omega) (isS_in ?_)
    repeat ((with_reducible first | apply opt_in | apply wI | apply wT | apply wP | apply wS | apply wB); exact rfl)
    refine opt_in (look_mp (σ := idO kn xs) (i := 1) rfl) ?_
    by_cases hn : atF s kn = kn.length
    · rw [if_pos hn]
      repeat ((with_reducible first | apply opt_in | apply wI | apply wT | apply wP | apply wS | apply wB); exact rfl)
      rw [show (!false) = true from rfl, condB_true']
      repeat ((with_reducible first | apply opt_in | apply wI | apply wT | apply wP | apply wS | apply wB); exact rfl)
      rw [mpF_len]
      repeat ((with_reducible first | apply opt_in | apply wI | apply wT | apply wP | apply wS | apply wB); exact rfl)
      refine opt_in (upd_mp (σ := idO kn xs) (i := 1) rfl hn) ?_
      have := h31 (kn ++ [s]) (by unfold addK; rw [if_pos hn])
      rw [hn] at this
      exact this
    · rw [if_neg hn]
      repeat ((with_reducible first | apply opt_in | apply wI | apply wT | apply wP | apply wS | apply wB); exact rfl)
      rw [show (!true) = false from rfl, condB_false']
      exact h31 kn (by unfold addK; rw [if_neg hn])
theorem number_spec {R : AV → Store → Prop} {a kn : List Ln} (hb : ∀ s ∈ a, s.length ≤ 4194304) (ha : a.length ≤ 4194304) (hk : kn.length ≤ 4194304) (hR : R (intsA (xsF kn a)) (idS (knF kn a))) : SCalls (cx w0) intern_Ids_1.id [.pv (lnsP a), .ptr 0 0, .ptr 2 0] (idS kn) R := by
  refine intern_Ids_1.calls ?_
  show intern_Ids_1.b0 (intern_Ids_1.X w0 3) w0 3 R (idS kn) _ _ _
  rw [intern_Ids_1.b0_eq]
  repeat ((with_reducible first | apply opt_in | apply wI | apply wT | apply wP | apply wS | apply wB); exact rfl)
  rw [List.length_map]
  refine intern_Ids_1.n8_weak (out' := .arr 3 0 0 0) (t1' := .ptr 0 0) (t2' := .ptr 2 0) (t11' := .pv (lnsP a)) (t12' := (a.length : Nat)) (t13' := (0 : Nat)) (τ := idO kn []) (EWeak.nil (t := 5) (es := 1) rfl rfl) ?_
  exact ids_loop hb (by omega) hR a 0 [] kn (Nat.zero_add _) rfl rfl (by omega) rfl rfl
theorem knF_len (l : List Ln) : ∀ kn : List Ln, (knF kn l).length ≤ kn.length + l.length := by
  induction l with
  | nil => exact fun kn => Nat.le_refl _
  | cons s r ih =>
    intro kn
    have := ih (addK kn s)
    have := addK_len kn s
    show (knF (addK kn s) r).length ≤ _
    simp only [List.length_cons]
    omega
theorem Ids_spec {R : AV → Store → Prop} (L : Laid w0.w) {a b : List Ln} (ha : a.length ≤ 4194304) (hb : b.length ≤ 4194304) (ca : ∀ s ∈ a, s.length ≤ 4194304) (cb : ∀ s ∈ b, s.length ≤ 4194304) (hR : R (.tup [intsA (xsF [] a), intsA (xsF (knF [] a) b), .pv (.raw .nilIface)]) σ) : SCalls (cx w0) intern_Ids.id [.pv (lnsP a), .pv (lnsP b), .pv (.int .i64 0)] σ R := by
  refine SCalls.alone L rfl (fun w1 L1 => ?_) rfl hR
  refine intern_Ids.calls ?_
  rw [intern_Ids.b0_eq]
  refine ⟨rfl, ?_⟩
  repeat ((with_reducible first | apply opt_in | apply wI | apply wT | apply wP | apply wS | apply wB); exact rfl)
  rw [condB_decide, if_neg (by decide)]
  repeat ((with_reducible first | apply opt_in | apply wI | apply wT | apply wP | apply wS | apply wB); exact rfl)
  refine intern_Ids.n5_in ?_
  rw [intern_Ids.b5_eq, condB_decide, if_neg (by decide)]
  repeat ((with_reducible first | apply opt_in | apply wI | apply wT | apply wP | apply wS | apply wB); exact rfl)
  refine number_spec (kn := []) ca ha (Nat.zero_le _) ?_
  refine opt_in rfl ?_
  have := knF_len a []
  simp only [List.length_nil] at this
  refine number_spec (kn := knF [] a) cb hb (by omega) ?_
  exact fin_keep (Nat.zero_le _) rfl
end
end Go.Sv
