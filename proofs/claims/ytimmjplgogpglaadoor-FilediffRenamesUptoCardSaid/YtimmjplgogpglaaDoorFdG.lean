/- What package myers answers: a number that goes round; the middle of a shortest way. Lines as numbers, on both sides: the first places of what they count as. Lines as numbers, the document's side. -/
import Derived.Test.YtimmjplgogpglaaDoorFdB
import Derived.Test.YtimmjplgogpglaaDoorMyA
import Derived.Test.YtimmjplgogpglaaDoorSvC
set_option linter.unusedVariables false
set_option linter.unusedSimpArgs false
set_option maxRecDepth 100000
section
namespace Go.Sv
theorem tmod_round {k s : Int} (hs : 0 < s) : Int.tmod (Int.tmod k s + s) s = k % s := by
  have h1 : -s < Int.tmod k s := by
    have := Int.neg_emod_two
    have := Int.lt_tmod_of_pos k hs
    exact this
  rw [Int.tmod_eq_emod_of_nonneg (by omega), Int.add_emod_right, Int.tmod_def, Int.sub_mul_emod_self_left]
abbrev intP (x : Int) : PV := .int .i64 x
abbrev iP (l : List Int) : List PV := l.map intP
abbrev intsA (l : List Int) : AV := .pv (.sl (iP l))
section
open Go Go.RowKit Go.Proofs
variable {w0 : Base} {σ : Store} {R : AV → Store → Prop}
theorem wrap_spec {n m : Nat} {k : Int} (hn : sizeK n m ≤ 1099511627776) (hk : -1099511627776 ≤ k ∧ k ≤ 1099511627776) (hR : R (.pv (.int .i64 ((wix n m k : Nat) : Int))) σ) : SCalls (cx w0) myers_wrap.id [.pv (.int .i64 k), .pv (.int .i64 ((sizeK n m : Nat) : Int))] σ R := by
  have hp : 0 < ((sizeK n m : Nat) : Int) := by unfold sizeK; omega
  have hne : ((sizeK n m : Nat) : Int) ≠ 0 := by omega
  have h1 := Int.lt_tmod_of_pos k hp
  have h2 := Int.tmod_lt_of_pos k hp
  refine myers_wrap.calls ?_
  rw [myers_wrap.b0_eq]
  refine ⟨hne, hne, ?_⟩
  rw [wrap_i64 (by omega) (by omega), tmod_round hp]
  refine fin_same ?_
  have e : k % ((sizeK n m : Nat) : Int) = ((wix n m k : Nat) : Int) := by
    have := Int.emod_nonneg k hne
    unfold wix; omega
  rw [e]
  exact hR
theorem int_get {l : List Int} {i : Nat} {x : Int} (h : l[i]? = some x) : (iP l)[i]? = some (intP x) := by rw [List.getElem?_map, h]; rfl
theorem arr_idx {i s : Nat} {c : List Int} {fz : Bool} (ho : σ[i]? = some (.arr 1 (iP c) fz)) (hl : c.length = s) {j : Nat} (hj : j < s) : aIndexAddr σ tabS ti43.td (.arr i s 0 s) (j : Int) = some (.eptr i s j 0) := by
  show (match σ[i]? with
    | some (.arr es xs _) => if 0 ≤ (j : Int) ∧ (j : Int) < (s : Nat) ∧ es = 1 ∧ xs.length = s then some (AV.eptr i s (0 + (j : Int).toNat) 0) else none
    | _ => none) = _
  rw [ho]
  simp only
  rw [if_pos ⟨by omega, by omega, trivial, by rw [List.length_map]; exact hl⟩]
  simp
theorem arr_load {i s : Nat} {c : List Int} {fz : Bool} (ho : σ[i]? = some (.arr 1 (iP c) fz)) (hl : c.length = s) {j : Nat} {v : Int} (hj : c[j]? = some v) : aLoad σ ti3 (.eptr i s j 0) = some (.pv (.int .i64 v)) := by
  have hg := int_get hj
  simp only [aLoad, ho, if_pos (show (iP c).length = s by rw [List.length_map]; exact hl), hg]
  rfl
theorem arr_store {i s : Nat} {c : List Int} (ho : σ[i]? = some (.arr 1 (iP c) false)) (hl : c.length = s) {j : Nat} {v v' : Int} (hj : c[j]? = some v) : aStore σ ti3 (.eptr i s j 0) (.pv (.int .i64 v')) = some (σ.set i (.arr 1 (iP (c.set j v')) false)) := by
  have hg := int_get hj
  show (if 1 = 1 ∧ true = true then (match σ[i]?, some [PV.int .i64 v'] with
      | some (.arr es xs false), some ps =>
        if xs.length = s then match xs[j]? with
          | some (.agg cs) => if 0 + ps.length ≤ cs.length then some (σ.set i (.arr es (xs.set j (.agg (splice cs 0 ps))) false)) else none
          | some _ => match ps with
            | [q] => if 0 = 0 then some (σ.set i (.arr es (xs.set j q) false)) else none
            | _ => none
          | none => none
        else none
      | _, _ => none) else none) = _
  rw [if_pos ⟨rfl, rfl⟩, ho]
  simp only [if_pos (show (iP c).length = s by rw [List.length_map]; exact hl), hg]
  simp only [if_true]
  rw [show (iP c).set j (PV.int .i64 v') = iP (c.set j v') from List.map_set.symm]
def SS (o : Nat) (c d : List Int) : Store := if o = 1 then [.arr 1 (iP c) false, .arr 1 (iP d) false] else [.arr 1 (iP d) false, .arr 1 (iP c) false]
def eS (o : Nat) (a b : List Int) : Nat → Nat → Bool := if o = 1 then eF a b else eB a b
theorem SS_c {o : Nat} (ho : o = 0 ∨ o = 1) (c d : List Int) : (SS o c d)[1 - o]? = some (.arr 1 (iP c) false) := by rcases ho with rfl | rfl <;> rfl
theorem SS_d {o : Nat} (ho : o = 0 ∨ o = 1) (c d : List Int) : (SS o c d)[o]? = some (.arr 1 (iP d) false) := by rcases ho with rfl | rfl <;> rfl
theorem SS_set {o : Nat} (ho : o = 0 ∨ o = 1) (c d c' : List Int) : (SS o c d).set (1 - o) (.arr 1 (iP c') false) = SS o c' d := by rcases ho with rfl | rfl <;> rfl
abbrev oddN (a b : List Int) : Int := (((a.length + b.length) % 2 : Nat) : Int)
abbrev rwA (a b : List Int) (i : Nat) : AV := .arr i (sizeK a.length b.length) 0 (sizeK a.length b.length)
abbrev onesA : AV := .pv (.sl [.int .i64 1, .int .i64 0])
abbrev p41 (w0 : Base) (R : AV → Store → Prop) (a b : List Int) (h o : Nat) (c d : List Int) (k : Int) : Prop :=
  myers_snake.n41 (myers_snake.X w0 0) w0 0 R (SS o c d) (intsA a) (intsA b) a.length b.length (sizeK a.length b.length : Nat) (rwA a b 0) (rwA a b 1) (oddN a b) h o (rwA a b (1 - o)) (rwA a b o) k onesA 2 ((1 - o : Nat) : Int)
abbrev p64 (w0 : Base) (R : AV → Store → Prop) (a b : List Int) (h o : Nat) (c d : List Int) (k x y s t : Int) : Prop :=
  myers_snake.n64 (myers_snake.X w0 0) w0 0 R (SS o c d) (intsA a) (intsA b) a.length b.length (sizeK a.length b.length : Nat) (rwA a b 0) (rwA a b 1) (oddN a b) h o (rwA a b (1 - o)) (rwA a b o) k x y s t onesA 2 ((1 - o : Nat) : Int)
abbrev p68 (w0 : Base) (R : AV → Store → Prop) (a b : List Int) (h o : Nat) (c d : List Int) (k x y s t : Int) (q : Bool) : Prop :=
  myers_snake.n68 (myers_snake.X w0 0) w0 0 R (SS o c d) (intsA a) (intsA b) a.length b.length (sizeK a.length b.length : Nat) (rwA a b 0) (rwA a b 1) (oddN a b) h o (rwA a b (1 - o)) (rwA a b o) k x y s t onesA 2 ((1 - o : Nat) : Int) q
abbrev p75 (w0 : Base) (R : AV → Store → Prop) (a b : List Int) (h o : Nat) (c d : List Int) (k x y s t : Int) : Prop :=
  myers_snake.n75 (myers_snake.X w0 0) w0 0 R (SS o c d) (intsA a) (intsA b) a.length b.length (sizeK a.length b.length : Nat) (rwA a b 0) (rwA a b 1) (oddN a b) h o (rwA a b (1 - o)) (rwA a b o) k x y s t onesA 2 ((1 - o : Nat) : Int)
variable {a b : List Int} {h o : Nat} {c d : List Int} {k : Int}
theorem eS_out {x y : Nat} (hx : a.length ≤ x ∨ b.length ≤ y) : eS o a b x y = false := by
  unfold eS
  split
  · rcases hx with h | h
    · exact eqL_out h
    · exact eqL_out2 h
  · rcases hx with h | h
    · exact eqL_out (by rw [List.length_reverse]; exact h)
    · exact eqL_out2 (by rw [List.length_reverse]; exact h)
theorem slide (hn : a.length ≤ 4194304) (hm : b.length ≤ 4194304) (ho : o = 0 ∨ o = 1) {s t : Int} : ∀ (f x y : Nat), a.length < f + x → x ≤ 16777216 → y ≤ 16777216 →
    (∀ l : Nat, (∀ i, i < l → eS o a b (x + i) (y + i) = true) → eS o a b (x + l) (y + l) = false → p75 w0 R a b h o c d k ((x + l : Nat) : Int) ((y + l : Nat) : Int) s t) →
    p64 w0 R a b h o c d k x y s t
  | f, x, y, hf, hx, hy, done => by
    have h68 : ∀ q, q = eS o a b x y → p68 w0 R a b h o c d k x y s t q := by
      intro q hq
      refine myers_snake.n68_in ?_
      rw [myers_snake.b68_eq]
      refine condB_split (fun g => ?_) (fun g => ?_)
      · have he : eS o a b x y = true := by rw [← hq]; exact g
        have hin : x < a.length ∧ y < b.length := by
          refine ⟨?_, ?_⟩
          · by_cases hc : a.length ≤ x
            · rw [eS_out (.inl hc)] at he; cases he
            · omega
          · by_cases hc : b.length ≤ y
            · rw [eS_out (.inr hc)] at he; cases he
            · omega
        cases f with
        | zero => omega
        | succ f =>
          rw [wrap_next hin.1 (by omega), wrap_next hin.2 (by omega)]
          refine slide hn hm ho f (x + 1) (y + 1) (by omega) (by omega) (by omega) fun l h1 h2 => ?_
          have := done (l + 1) (fun i hi => ?_) (by rw [show x + (l + 1) = x + 1 + l by omega, show y + (l + 1) = y + 1 + l by omega]; exact h2)
          · rw [show x + (l + 1) = x + 1 + l by omega, show y + (l + 1) = y + 1 + l by omega] at this
            exact this
          · cases i with
            | zero => exact he
            | succ i => rw [show x + (i + 1) = x + 1 + i by omega, show y + (i + 1) = y + 1 + i by omega]; exact h1 i (by omega)
      · have := done 0 (fun i hi => by omega) (by rw [Nat.add_zero, Nat.add_zero, ← hq]; exact g)
        exact this
    refine myers_snake.n64_in ?_
    rw [myers_snake.b65_eq, condB_decide]
    refine ite_split (fun g1 => ?_) (fun g1 => h68 false (eS_out (.inl (by omega))).symm)
    rw [condB_decide]
    refine ite_split (fun g2 => ?_) (fun g2 => h68 false (eS_out (.inr (by omega))).symm)
    have hx1 : x < a.length := by omega
    have hy1 : y < b.length := by omega
    have ga : a[x]? = some a[x] := List.getElem?_eq_getElem hx1
    have gb : b[y]? = some b[y] := List.getElem?_eq_getElem hy1
    rcases ho with rfl | rfl
    · have ga' : a[a.length - 1 - x]? = some (a[a.length - 1 - x]'(by omega)) := List.getElem?_eq_getElem (by omega)
      have gb' : b[b.length - 1 - y]? = some (b[b.length - 1 - y]'(by omega)) := List.getElem?_eq_getElem (by omega)
      have ex : IntKind.wrap .i64 (IntKind.wrap .i64 ((a.length : Int) - 1) - x) = ((a.length - 1 - x : Nat) : Int) := by
        rw [wrap_i64 (n := (a.length : Int) - 1) (by omega) (by omega), wrap_i64 (by omega) (by omega)]; omega
      have ey : IntKind.wrap .i64 (IntKind.wrap .i64 ((b.length : Int) - 1) - y) = ((b.length - 1 - y : Nat) : Int) := by
        rw [wrap_i64 (n := (b.length : Int) - 1) (by omega) (by omega), wrap_i64 (by omega) (by omega)]; omega
      rw [condB_ibeq, if_neg (by decide), condB_ibeq, if_pos (show ((0 : Nat) : Int) = 0 from rfl), ex, ey]
      refine opt_in (idx_ro tab3 (int_get ga') rfl) ?_
      repeat ((with_reducible first | apply opt_in | apply wI | apply wT | apply wP | apply wS | apply wB); exact rfl)
      refine opt_in (idx_ro tab3 (int_get gb') rfl) ?_
      repeat ((with_reducible first | apply opt_in | apply wI | apply wT | apply wP | apply wS | apply wB); exact rfl)
      refine h68 _ ?_
      unfold eS eB eqL
      rw [if_neg (by decide), List.getElem?_reverse hx1, List.getElem?_reverse hy1, ga', gb']
    · rw [condB_ibeq, if_pos (show ((1 : Nat) : Int) = 1 from rfl)]
      refine opt_in (idx_ro tab3 (int_get ga) rfl) ?_
      repeat ((with_reducible first | apply opt_in | apply wI | apply wT | apply wP | apply wS | apply wB); exact rfl)
      refine opt_in (idx_ro tab3 (int_get gb) rfl) ?_
      repeat ((with_reducible first | apply opt_in | apply wI | apply wT | apply wP | apply wS | apply wB); exact rfl)
      have hq : eS 1 a b x y = (a[x] == b[y]) := by
        unfold eS eF eqL
        rw [if_pos rfl, ga, gb]
      rw [condB_ibeq]
      refine ite_split (fun g => h68 true (by rw [hq]; simpa using g)) (fun g => ?_)
      rw [condB_ibeq, if_neg (by decide)]
      exact h68 false (by rw [hq]; simpa using g)
end
end Go.Sv
end
section
namespace Go.Sv
def atF (s : Ln) : List Ln → Nat
  | [] => 0
  | k :: r => if k = s then 0 else atF s r + 1
def addK (kn : List Ln) (s : Ln) : List Ln := if atF s kn = kn.length then kn ++ [s] else kn
def knF (kn : List Ln) (l : List Ln) : List Ln := l.foldl addK kn
def xsF (kn : List Ln) : List Ln → List Int
  | [] => []
  | s :: r => (atF s kn : Int) :: xsF (addK kn s) r
theorem atF_le (s : Ln) : ∀ kn : List Ln, atF s kn ≤ kn.length
  | [] => Nat.le_refl _
  | k :: r => by
    have := atF_le s r
    unfold atF
    split
    · exact Nat.zero_le _
    · simp only [List.length_cons]; omega
theorem atF_get (s : Ln) : ∀ kn : List Ln, atF s kn < kn.length → kn[atF s kn]? = some s
  | [], h => by cases h
  | k :: r, h => by
    unfold atF at h ⊢
    split
    · rename_i e; subst e; rfl
    · rename_i e
      rw [if_neg e] at h
      have := atF_get s r (by simpa using h)
      simpa using this
theorem atF_not (s : Ln) : ∀ (kn : List Ln) (j : Nat), j < atF s kn → kn[j]? ≠ some s
  | [], j, h => by cases h
  | k :: r, j, h => by
    unfold atF at h
    split at h
    · cases h
    · rename_i e
      cases j with
      | zero => exact fun he => e (by simpa using he)
      | succ j => have := atF_not s r j (by omega); simpa using this
theorem addK_len (kn : List Ln) (s : Ln) : (addK kn s).length ≤ kn.length + 1 := by
  unfold addK
  split
  · simp
  · omega
def mpF : List Ln → Nat → List (PV × Go.Sv.AV)
  | [], _ => []
  | s :: r, i => (.str s, .pv (.int .i64 (i : Nat))) :: mpF r (i + 1)
theorem mFind_mpF (s : Ln) : ∀ (kn : List Ln) (i j : Nat), mFind .str (.str s) (mpF kn i) j = some (if atF s kn = kn.length then none else some (j + atF s kn, .pv (.int .i64 ((i + atF s kn : Nat) : Int))))
  | [], i, j => rfl
  | c :: r, i, j => by
    unfold mpF mFind atF
    by_cases h : c = s
    · subst h
      simp [keyEq]
    · have h' : s ≠ c := fun e => h e.symm
      have : keyEq .str (.str s) (.str c) = some false := by simp [keyEq, h']
      rw [this, if_neg h]
      simp only
      rw [mFind_mpF s r (i + 1) (j + 1)]
      simp only [List.length_cons, Nat.add_right_cancel_iff]
      split
      · rfl
      · simp [Nat.add_assoc, Nat.add_comm 1]
theorem mpF_append : ∀ (kn : List Ln) (s : Ln) (i : Nat), mpF (kn ++ [s]) i = mpF kn i ++ [(.str s, .pv (.int .i64 ((i + kn.length : Nat) : Int)))]
  | [], s, i => rfl
  | b :: r, s, i => by
    simp only [List.cons_append, mpF]
    rw [mpF_append r s (i + 1)]
    simp only [List.length_cons, Nat.add_assoc, Nat.add_comm 1]
theorem mpF_len : ∀ (kn : List Ln) (i : Nat), (mpF kn i).length = kn.length
  | [], i => rfl
  | b :: r, i => by simp only [mpF, List.length_cons, mpF_len r]
theorem mpF_unders (k : Nat) : ∀ (kn : List Ln) (i : Nat), AV.unders k ((mpF kn i).map (·.2)) = true
  | [], i => rfl
  | c :: r, i => by
    have := mpF_unders k r (i + 1)
    simp only [mpF, List.map_cons, AV.unders, AV.under, this, Bool.and_true]
open Go Go.RowKit Go.Proofs
section
variable {w0 : Base} {σ : Store}
theorem look_mp {σ : Store} {kn : List Ln} {s : Ln} {i : Nat} (ho : σ[i]? = some (.mp (mpF kn 0))) : aLookup σ tabS ti59.td (.mref i) (.pv (.str s)) true = some (if atF s kn = kn.length then .tup [.pv (.int .i64 0), .pv (.bool false)] else .tup [.pv (.int .i64 (atF s kn : Nat)), .pv (.bool true)]) := by
  have h := mFind_mpF s kn 0 0
  by_cases hn : atF s kn = kn.length
  · rw [if_pos hn] at h
    simp only [aLookup, ti59_td, tab9, tab3, ho, ti9_td, isKeyP, h]
    rw [if_pos hn]; rfl
  · rw [if_neg hn] at h
    simp only [aLookup, ti59_td, tab9, tab3, ho, ti9_td, isKeyP, h]
    rw [if_neg hn]; simp
theorem upd_mp {σ : Store} {kn : List Ln} {s : Ln} {i : Nat} (ho : σ[i]? = some (.mp (mpF kn 0))) (hn : atF s kn = kn.length) : aMapUpd σ tabS ti59.td (.mref i) (.pv (.str s)) (.pv (.int .i64 (kn.length : Nat))) = some (σ.set i (.mp (mpF (kn ++ [s]) 0))) := by
  have h := mFind_mpF s kn 0 0
  rw [if_pos hn] at h
  simp only [aMapUpd, ti59_td, tab9, ho, ti9_td, isKeyP, h, Option.map_none, mpF_append, Nat.zero_add]
abbrev idS (kn : List Ln) : Store := [.cells 3 [.pv (.int .i64 0)], .mp (mpF kn 0), .cells 59 [.mref 1]]
abbrev idO (kn : List Ln) (xs : List Int) : Store := idS kn ++ [.arr 1 (iP xs) false]
theorem idS_wf (kn : List Ln) : wfS (idS kn) := by
  show (true && (AV.unders 3 ((mpF kn 0).map (·.2)) && true)) = true
  rw [mpF_unders]; rfl
theorem in_append {σ : Store} {xs : List Int} {x : Int} {id : Nat} {fz : Bool} (ho : σ[id]? = some (.arr 1 (iP xs) fz)) (h : xs.length ≤ 1099511627776) : aAppend σ ti3 (.arr id xs.length 0 xs.length) (.pv (.sl [intP x])) = some (.arr id (xs ++ [x]).length 0 (xs ++ [x]).length, σ.set id (.arr 1 (iP (xs ++ [x])) fz)) := by
  rw [append_pv (id := id) (es := 1) (ver := xs.length) (xs := iP xs) (ys := [intP x]) rfl ho (List.length_map _).symm rfl rfl ⟨by rw [List.length_map]; show xs.length + 1 ≤ _; omega, by rw [List.length_map]; show (xs.length + 1) * 8 ≤ _; omega⟩]
  simp
theorem in_seal {k : Nat} {S : Store} {xs : List Int} {id : Nat} {fz : Bool} (hid : k ≤ id) (ho : S[id]? = some (.arr 1 (iP xs) fz)) : sealV k S (.arr id xs.length 0 xs.length) = some (intsA xs) := by
  have hb : Nat.ble k id = true := by rw [Nat.ble_eq]; exact hid
  simp only [sealV, hb, ho]
  rw [if_pos ⟨List.length_map _, by omega⟩]
  simp [List.take_of_length_le]
theorem ids_loop {R : AV → Store → Prop} {a : List Ln} (hb : ∀ s ∈ a, s.length ≤ 4194304) (ha : a.length ≤ 8388608) {kn0 : List Ln} (hR : R (intsA (xsF kn0 a)) (idS (knF kn0 a))) : ∀ (r : List Ln) (k : Nat) (xs : List Int) (kn : List Ln), k + r.length = a.length → a.drop k = r → xs.length = k → kn.length ≤ 8388608 + k → xs ++ xsF kn r = xsF kn0 a → knF kn r = knF kn0 a →
    intern_Ids_1.n8 (intern_Ids_1.X w0 3) w0 3 R (idO kn xs) (.ptr 0 0) (.ptr 2 0) (.arr 3 xs.length 0 xs.length) (.pv (lnsP a)) (a.length : Nat) (k : Nat)
  | [], k, xs, kn, hk, hd, hx, hl, h1, h2 => by
    rw [List.length_nil] at hk
    refine intern_Ids_1.n8_in ?_
    rw [intern_Ids_1.b9_eq, condB_decide, if_neg (by omega)]
    refine intern_Ids_1.n33_in ?_
    rw [intern_Ids_1.b33_eq]
    simp only [xsF, List.append_nil] at h1
    subst h1
    have h3 : kn = knF kn0 a := h2
    subst h3
    refine fin_seal (σ := idS (knF kn0 a)) (L := [.arr 1 (iP (xsF kn0 a)) false]) glob0 (idS_wf _) ?_ hR
    exact in_seal (k := 3) (S := idO (knF kn0 a) (xsF kn0 a)) (id := 3) (fz := false) (Nat.le_refl _) rfl
  | s :: r, k, xs, kn, hk, hd, hx, hl, h1, h2 => by
    obtain ⟨g1, g2, g3⟩ := drop_facts hd
    have hin : s ∈ a := List.mem_of_getElem? g1
    rw [List.length_cons] at hk
    have hle := atF_le s kn
    have ih := ids_loop hb ha hR r (k + 1) (xs ++ [(atF s kn : Int)]) (addK kn s) (by omega) g2 (by rw [List.length_append, List.length_singleton, hx]) (by have := addK_len kn s; omega) (by rw [List.append_assoc]; exact h1) h2
    have h31 : ∀ kn', kn' = addK kn s → intern_Ids_1.n31 (intern_Ids_1.X w0 3) w0 3 R (idO kn' xs) (.ptr 0 0) (.ptr 2 0) (.arr 3 xs.length 0 xs.length) (atF s kn : Nat) (.pv (lnsP a)) (a.length : Nat) (k : Nat) := by
      rintro kn' rfl
      refine intern_Ids_1.n31_in ?_
      rw [intern_Ids_1.b31_eq]
      refine opt2_in (v := .pv (.sl [intP (atF s kn : Nat)])) rfl ?_
      refine opt2_in (in_append (σ := idO (addK kn s) xs) (id := 3) rfl (by omega)) ?_
      rw [wrap_next (n := a.length) (by omega) (by omega)]
      exact ih
    refine intern_Ids_1.n8_in ?_
    rw [intern_Ids_1.b9_eq, condB_decide, if_pos (by omega)]
    refine opt_in (idx_ro tab9 (show (a.map PV.str)[k]? = some (PV.str s) by rw [List.getElem?_map, g1]; rfl) rfl) ?_
    repeat ((with_reducible first | apply opt_in | apply wI | apply wT | apply wP | apply wS | apply wB); exact rfl)
    refine Key_spec (by have := hb s hin; omega) (isS_in ?_)
    repeat ((with_reducible first | apply opt_in | apply wI | apply wT | apply wP | apply wS | apply wB); exact rfl)
    refine opt_in (look_mp (σ := idO kn xs) (i := 1) rfl) ?_
    by_cases hn : atF s kn = kn.length
    · rw [if_pos hn]
      repeat ((with_reducible first | apply opt_in | apply wI | apply wT | apply wP | apply wS | apply wB); exact rfl)
      rw [show (!false) = true from rfl, condB_true']
      repeat ((with_reducible first | apply opt_in | apply wI | apply wT | apply wP | apply wS | apply wB); exact rfl)
      rw [mpF_len]
      repeat ((with_reducible first | apply opt_in | apply wI | apply wT | apply wP | apply wS | apply wB); exact rfl)
      refine opt_in (upd_mp (σ := idO kn xs) (i := 1) rfl hn) ?_
      have := h31 (kn ++ [s]) (by unfold addK; rw [if_pos hn])
      rw [hn] at this
      exact this
    · rw [if_neg hn]
      repeat ((with_reducible first | apply opt_in | apply wI | apply wT | apply wP | apply wS | apply wB); exact rfl)
      rw [show (!true) = false from rfl, condB_false']
      exact h31 kn (by unfold addK; rw [if_neg hn])
theorem number_spec {R : AV → Store → Prop} {a kn : List Ln} (hb : ∀ s ∈ a, s.length ≤ 4194304) (ha : a.length ≤ 4194304) (hk : kn.length ≤ 4194304) (hR : R (intsA (xsF kn a)) (idS (knF kn a))) : SCalls (cx w0) intern_Ids_1.id [.pv (lnsP a), .ptr 0 0, .ptr 2 0] (idS kn) R := by
  refine intern_Ids_1.calls ?_
  show intern_Ids_1.b0 (intern_Ids_1.X w0 3) w0 3 R (idS kn) _ _ _
  rw [intern_Ids_1.b0_eq]
  repeat ((with_reducible first | apply opt_in | apply wI | apply wT | apply wP | apply wS | apply wB); exact rfl)
  rw [List.length_map]
  refine intern_Ids_1.n8_weak (out' := .arr 3 0 0 0) (t1' := .ptr 0 0) (t2' := .ptr 2 0) (t11' := .pv (lnsP a)) (t12' := (a.length : Nat)) (t13' := (0 : Nat)) (τ := idO kn []) (EWeak.nil (t := 5) (es := 1) rfl rfl) ?_
  exact ids_loop hb (by omega) hR a 0 [] kn (Nat.zero_add _) rfl rfl (by omega) rfl rfl
theorem knF_len (l : List Ln) : ∀ kn : List Ln, (knF kn l).length ≤ kn.length + l.length := by
  induction l with
  | nil => exact fun kn => Nat.le_refl _
  | cons s r ih =>
    intro kn
    have := ih (addK kn s)
    have := addK_len kn s
    show (knF (addK kn s) r).length ≤ _
    simp only [List.length_cons]
    omega
theorem Ids_spec {R : AV → Store → Prop} (L : Laid w0.w) {a b : List Ln} (ha : a.length ≤ 4194304) (hb : b.length ≤ 4194304) (ca : ∀ s ∈ a, s.length ≤ 4194304) (cb : ∀ s ∈ b, s.length ≤ 4194304) (hR : R (.tup [intsA (xsF [] a), intsA (xsF (knF [] a) b), .pv (.raw .nilIface)]) σ) : SCalls (cx w0) intern_Ids.id [.pv (lnsP a), .pv (lnsP b), .pv (.int .i64 0)] σ R := by
  refine SCalls.alone L rfl (fun w1 L1 => ?_) rfl hR
  refine intern_Ids.calls ?_
  rw [intern_Ids.b0_eq]
  refine ⟨rfl, ?_⟩
  repeat ((with_reducible first | apply opt_in | apply wI | apply wT | apply wP | apply wS | apply wB); exact rfl)
  rw [condB_decide, if_neg (by decide)]
  repeat ((with_reducible first | apply opt_in | apply wI | apply wT | apply wP | apply wS | apply wB); exact rfl)
  refine intern_Ids.n5_in ?_
  rw [intern_Ids.b5_eq, condB_decide, if_neg (by decide)]
  repeat ((with_reducible first | apply opt_in | apply wI | apply wT | apply wP | apply wS | apply wB); exact rfl)
  refine number_spec (kn := []) ca ha (Nat.zero_le _) ?_
  refine opt_in rfl ?_
  have := knF_len a []
  simp only [List.length_nil] at this
  refine number_spec (kn := knF [] a) cb hb (by omega) ?_
  exact fin_keep (Nat.zero_le _) rfl
end
end Go.Sv
end
section
namespace Go.Sv
open Go Go.RowKit Go.Proofs
section
variable {w0 : Base} {σ : Store}
abbrev riS (ks : List Ln) (x y : List Int) : Store := [.cells 64 [.arr 2 x.length 0 x.length, .arr 3 y.length 0 y.length], .arr 1 (ks.map PV.str) false, .arr 1 (iP x) false, .arr 1 (iP y) false]
def riT (c : Bool) (ks : List Ln) (u v : List Int) : Store := match c with
  | false => riS ks u v
  | true => riS ks v u
abbrev sideI (c : Bool) : Int := if c = true then 1 else 0
theorem riT_keys (c : Bool) (ks : List Ln) (u v : List Int) : (riT c ks u v)[1]? = some (.arr 1 (ks.map PV.str) false) := by cases c <;> rfl
theorem ln_idx {σ : Store} {i : Nat} {ks : List Ln} {fz : Bool} (ho : σ[i]? = some (.arr 1 (ks.map PV.str) fz)) {j : Nat} (hj : j < ks.length) : aIndexAddr σ tabS ti46.td (.arr i ks.length 0 ks.length) (j : Int) = some (.eptr i ks.length j 0) := by
  have := idx_arr (σ := σ) (tab := tabS) (e := 9) (ei := ti9) (id := i) (es := 1) (ver := ks.length) (off := 0) (len := ks.length) (k := j) (xs := ks.map PV.str) (fz := fz) tab9 ho hj rfl (List.length_map _)
  rw [Nat.zero_add] at this
  exact this
theorem ln_load {σ : Store} {i : Nat} {ks : List Ln} {fz : Bool} (ho : σ[i]? = some (.arr 1 (ks.map PV.str) fz)) {j : Nat} {s : Ln} (hj : ks[j]? = some s) : aLoad σ ti9 (.eptr i ks.length j 0) = some (.pv (.str s)) := by
  have hg : (ks.map PV.str)[j]? = some (.str s) := by rw [List.getElem?_map, hj]; rfl
  have hv : (ks.map PV.str).length = ks.length := List.length_map _
  simp only [aLoad, ho, if_pos hv, hg]
  rfl
theorem riT_step (c : Bool) (ks : List Ln) (u v : List Int) (x : Int) (hu : u.length ≤ 1099511627776) {K : Store → Prop} (hK : K (riT c ks (u ++ [x]) v)) :
    opt (aIndexAddr (riT c ks u v) tabS ti64.td (.ptr 0 0) (sideI c)) fun t66 => opt (aLoad (riT c ks u v) ti43 t66) fun t67 => opt2 (aBuildSlice (riT c ks u v) ti3 false 1 [(0, (.pv (.int .i64 x)))]) fun t69 σ' => opt2 (aAppend σ' ti3 t67 t69) fun t70 σ'_1 => opt (aIndexAddr σ'_1 tabS ti64.td (.ptr 0 0) (sideI c)) fun t71 => opt (aStore σ'_1 ti43 t71 t70) K := by
  cases c with
  | false =>
    refine opt_in rfl (opt_in (v := .arr 2 u.length 0 u.length) rfl ?_)
    refine opt2_in (v := .pv (.sl [intP x])) rfl ?_
    refine opt2_in (in_append (σ := riS ks u v) (id := 2) rfl hu) ?_
    refine opt_in rfl (opt_in rfl ?_)
    exact hK
  | true =>
    refine opt_in rfl (opt_in (v := .arr 3 u.length 0 u.length) rfl ?_)
    refine opt2_in (v := .pv (.sl [intP x])) rfl ?_
    refine opt2_in (in_append (σ := riS ks v u) (id := 3) rfl hu) ?_
    refine opt_in rfl (opt_in rfl ?_)
    exact hK
abbrev r38 (w0 : Base) (P : AV → Prop) (a b : List Ln) (c : Bool) (ks : List Ln) (u v : List Int) (l : List Ln) (i : Nat) : Prop := selvageref05_Ids.n38 (selvageref05_Ids.X w0 0) w0 0 (fun r _ => P r) (riT c ks u v) (.pv (lnsP a)) (.pv (lnsP b)) 0 (.arr 1 ks.length 0 ks.length) (.ptr 0 0) (sideI c) (.pv (lnsP l)) i
abbrev r18 (w0 : Base) (P : AV → Prop) (a b : List Ln) (ks : List Ln) (x y : List Int) (sd : Int) : Prop := selvageref05_Ids.n18 (selvageref05_Ids.X w0 0) w0 0 (fun r _ => P r) (riS ks x y) (.pv (lnsP a)) (.pv (lnsP b)) 0 (.arr 1 ks.length 0 ks.length) (.ptr 0 0) sd
variable {P : AV → Prop}
theorem rfind {a b : List Ln} {c : Bool} {ks : List Ln} {u v : List Int} {l : List Ln} {i : Nat} {s : Ln} (hks : ks.length ≤ 16777216) (next : selvageref05_Ids.n62 (selvageref05_Ids.X w0 0) w0 0 (fun r _ => P r) (riT c ks u v) (.pv (lnsP a)) (.pv (lnsP b)) 0 (.arr 1 ks.length 0 ks.length) (.ptr 0 0) (sideI c) (.pv (lnsP l)) i s (atF s ks : Nat)) : ∀ (f j : Nat), j + f = atF s ks →
    selvageref05_Ids.n53 (selvageref05_Ids.X w0 0) w0 0 (fun r _ => P r) (riT c ks u v) (.pv (lnsP a)) (.pv (lnsP b)) 0 (.arr 1 ks.length 0 ks.length) (.ptr 0 0) (sideI c) (.pv (lnsP l)) i s (j : Nat)
  | f, j, hj => by
    have hle := atF_le s ks
    have h57 : ∀ q : Bool, (q = true ↔ j < atF s ks) → selvageref05_Ids.n57 (selvageref05_Ids.X w0 0) w0 0 (fun r _ => P r) (riT c ks u v) (.pv (lnsP a)) (.pv (lnsP b)) 0 (.arr 1 ks.length 0 ks.length) (.ptr 0 0) (sideI c) (.pv (lnsP l)) i s (j : Nat) q := by
      intro q hq
      refine selvageref05_Ids.n57_in ?_
      rw [selvageref05_Ids.b57_eq]
      refine condB_split (fun g => ?_) (fun g => ?_)
      · have hlt := hq.1 g
        cases f with
        | zero => omega
        | succ f =>
          rw [wrap_next (n := ks.length) (by omega) (by omega)]
          exact rfind hks next f (j + 1) (by omega)
      · have hn : ¬ j < atF s ks := fun h => by rw [hq.2 h] at g; cases g
        rw [show j = atF s ks by omega]
        exact next
    refine selvageref05_Ids.n53_in ?_
    rw [selvageref05_Ids.b54_eq]
    refine opt_in (v := .pv (.int .i64 (ks.length : Nat))) rfl (isI_in ?_)
    rw [condB_decide]
    refine ite_split (fun g => ?_) (fun g => ?_)
    · have hlt : j < ks.length := by omega
      have hg : ks[j]? = some ks[j] := List.getElem?_eq_getElem hlt
      refine opt_in (ln_idx (riT_keys c ks u v) hlt) ?_
      refine opt_in (ln_load (riT_keys c ks u v) hg) (isS_in ?_)
      refine h57 _ ?_
      constructor
      · intro e
        by_cases h : j < atF s ks
        · exact h
        · exfalso
          have hj2 : j = atF s ks := by omega
          have h3 := atF_get s ks (by omega)
          rw [← hj2, hg] at h3
          have h4 : ks[j] = s := by simpa using h3
          rw [h4] at e
          simp at e
      · intro h
        have h3 := atF_not s ks j h
        rw [hg] at h3
        simpa using h3
    · exact h57 false ⟨fun e => Bool.noConfusion e, fun h => absurd h (by omega)⟩
theorem ri_loop {a b l : List Ln} (c : Bool) (hb : ∀ s ∈ l, s.length ≤ 4194304) (hl : l.length ≤ 4194304) {ks0 : List Ln} {v : List Int} (next : selvageref05_Ids.n70 (selvageref05_Ids.X w0 0) w0 0 (fun r _ => P r) (riT c (knF ks0 l) (xsF ks0 l) v) (.pv (lnsP a)) (.pv (lnsP b)) 0 (.arr 1 (knF ks0 l).length 0 (knF ks0 l).length) (.ptr 0 0) (sideI c)) :
    ∀ (r : List Ln) (k : Nat) (xs : List Int) (ks : List Ln), k + r.length = l.length → l.drop k = r → xs.length = k → ks.length ≤ 4194304 + k → xs ++ xsF ks r = xsF ks0 l → knF ks r = knF ks0 l → r38 w0 P a b c ks xs v l k
  | [], k, xs, ks, hk, hd, hx, hkl, h1, h2 => by
    rw [List.length_nil] at hk
    refine selvageref05_Ids.n38_in ?_
    rw [selvageref05_Ids.b39_eq]
    repeat ((with_reducible first | apply opt_in | apply wI | apply wT | apply wP | apply wS | apply wB); exact rfl)
    rw [List.length_map, condB_decide, if_neg (by omega)]
    simp only [xsF, List.append_nil] at h1
    subst h1
    have h3 : ks = knF ks0 l := h2
    subst h3
    exact next
  | s :: r, k, xs, ks, hk, hd, hx, hkl, h1, h2 => by
    obtain ⟨g1, g2, g3⟩ := drop_facts hd
    have hin : s ∈ l := List.mem_of_getElem? g1
    rw [List.length_cons] at hk
    have hle := atF_le s ks
    have ih := ri_loop c hb hl next r (k + 1) (xs ++ [(atF s ks : Int)]) (addK ks s) (by omega) g2 (by rw [List.length_append, List.length_singleton, hx]) (by have := addK_len ks s; omega) (by rw [List.append_assoc]; exact h1) h2
    have h68 : ∀ ks', ks' = addK ks s → selvageref05_Ids.n68 (selvageref05_Ids.X w0 0) w0 0 (fun r _ => P r) (riT c ks' xs v) (.pv (lnsP a)) (.pv (lnsP b)) 0 (.arr 1 ks'.length 0 ks'.length) (.ptr 0 0) (sideI c) (.pv (lnsP l)) k (atF s ks : Nat) := by
      rintro ks' rfl
      refine selvageref05_Ids.n68_in ?_
      rw [selvageref05_Ids.b68_eq]
      refine riT_step c (addK ks s) xs v _ (by omega) ?_
      refine selvageref05_Ids.n69_in ?_
      rw [selvageref05_Ids.b69_eq, wrap_next (n := l.length) (by omega) (by omega)]
      exact ih
    refine selvageref05_Ids.n38_in ?_
    rw [selvageref05_Ids.b39_eq]
    repeat ((with_reducible first | apply opt_in | apply wI | apply wT | apply wP | apply wS | apply wB); exact rfl)
    rw [List.length_map, condB_decide, if_pos (by omega)]
    refine opt_in (idx_ro tab9 (show (l.map PV.str)[k]? = some (PV.str s) by rw [List.getElem?_map, g1]; rfl) rfl) ?_
    repeat ((with_reducible first | apply opt_in | apply wI | apply wT | apply wP | apply wS | apply wB); exact rfl)
    refine rKey_spec (by have := hb s hin; omega) (isS_in ?_)
    refine rfind (by omega) ?_ (atF s ks) 0 (Nat.zero_add _)
    refine selvageref05_Ids.n62_in ?_
    rw [selvageref05_Ids.b62_eq]
    refine opt_in (v := .pv (.int .i64 (ks.length : Nat))) rfl (isI_in ?_)
    rw [condB_ibeq]
    refine ite_split (fun g => ?_) (fun g => ?_)
    · have hn : atF s ks = ks.length := by omega
      refine opt2_in one_str ?_
      refine opt2_in (ln_append (riT_keys c ks xs v) (by omega)) ?_
      have := h68 (ks ++ [s]) (by unfold addK; rw [if_pos hn])
      cases c <;> exact this
    · exact h68 ks (by unfold addK; rw [if_neg (by omega)])
theorem rIds_spec {R : AV → Store → Prop} (L : Laid w0.w) {a b : List Ln} (ha : a.length ≤ 4194304) (hb : b.length ≤ 4194304) (ca : ∀ s ∈ a, s.length ≤ 4194304) (cb : ∀ s ∈ b, s.length ≤ 4194304) (hR : R (.tup [intsA (xsF [] a), intsA (xsF (knF [] a) b), .pv (.int .i64 0)]) σ) : SCalls (cx w0) selvageref05_Ids.id [.pv (lnsP a), .pv (lnsP b), .pv (.int .i64 0)] σ R := by
  refine SCalls.alone L rfl (fun w1 L1 => ?_) rfl hR
  refine selvageref05_Ids.calls ?_
  rw [selvageref05_Ids.b0_eq, condB_decide, if_neg (by decide)]
  refine selvageref05_Ids.n5_in ?_
  rw [selvageref05_Ids.b5_eq, condB_decide, if_neg (by decide)]
  have kl := knF_len a []
  simp only [List.length_nil, Nat.zero_add] at kl
  refine selvageref05_Ids.n18_weak (a' := .pv (lnsP a)) (b' := .pv (lnsP b)) (equal' := 0) (keys' := .arr 1 0 0 0) (out' := .ptr 0 0) (side' := 0) (τ := [.cells 64 [.nilsl, .nilsl], .arr 1 [] false]) (EWeak.nil (t := 9) (es := 1) rfl rfl) ?_
  refine selvageref05_Ids.n18_weak (a' := .pv (lnsP a)) (b' := .pv (lnsP b)) (equal' := 0) (keys' := .arr 1 0 0 0) (out' := .ptr 0 0) (side' := 0) (EWeak.cellNil (id := 0) (es := 1) (ty := 64) (pre := []) (post := [.nilsl]) rfl) ?_
  refine selvageref05_Ids.n18_weak (a' := .pv (lnsP a)) (b' := .pv (lnsP b)) (equal' := 0) (keys' := .arr 1 0 0 0) (out' := .ptr 0 0) (side' := 0) (EWeak.cellNil (id := 0) (es := 1) (ty := 64) (pre := [.arr 2 0 0 0]) (post := []) rfl) ?_
  show r18 w1 (fun r' => r' = .tup [intsA (xsF [] a), intsA (xsF (knF [] a) b), .pv (.int .i64 0)]) a b [] [] [] 0
  refine selvageref05_Ids.n18_in ?_
  rw [selvageref05_Ids.b19_eq, condB_decide, if_pos (by decide), show ((0 : Int) == 1) = false from rfl, condB_false']
  refine selvageref05_Ids.n35_in ?_
  rw [selvageref05_Ids.b35_eq]
  refine ri_loop (a := a) (b := b) (l := a) (v := []) (ks0 := []) false ca ha ?_ a 0 [] [] (Nat.zero_add _) rfl rfl (Nat.zero_le _) rfl rfl
  refine selvageref05_Ids.n70_in ?_
  rw [selvageref05_Ids.b70_eq]
  show r18 w1 (fun r' => r' = .tup [intsA (xsF [] a), intsA (xsF (knF [] a) b), .pv (.int .i64 0)]) a b (knF [] a) (xsF [] a) [] 1
  refine selvageref05_Ids.n18_in ?_
  rw [selvageref05_Ids.b19_eq, condB_decide, if_pos (by decide), show ((1 : Int) == 1) = true from rfl, condB_true']
  refine selvageref05_Ids.n35_in ?_
  rw [selvageref05_Ids.b35_eq]
  refine ri_loop (a := a) (b := b) (l := b) (v := xsF [] a) (ks0 := knF [] a) true cb hb ?_ b 0 [] (knF [] a) (Nat.zero_add _) rfl rfl (by omega) rfl rfl
  refine selvageref05_Ids.n70_in ?_
  rw [selvageref05_Ids.b70_eq]
  show r18 w1 (fun r' => r' = .tup [intsA (xsF [] a), intsA (xsF (knF [] a) b), .pv (.int .i64 0)]) a b (knF (knF [] a) b) (xsF [] a) (xsF (knF [] a) b) 2
  refine selvageref05_Ids.n18_in ?_
  rw [selvageref05_Ids.b19_eq, condB_decide, if_neg (by decide)]
  refine selvageref05_Ids.n71_in ?_
  rw [selvageref05_Ids.b71_eq]
  refine opt_in rfl (opt_in rfl (opt_in rfl (opt_in rfl ⟨opt_in rfl rfl, opt_in rfl rfl, ?_⟩)))
  refine fin_seal (σ := []) (L := riS (knF (knF [] a) b) (xsF [] a) (xsF (knF [] a) b)) glob0 rfl (r' := .tup [intsA (xsF [] a), intsA (xsF (knF [] a) b), .pv (.int .i64 0)]) ?_ rfl
  have e1 := in_seal (k := 0) (S := riS (knF (knF [] a) b) (xsF [] a) (xsF (knF [] a) b)) (id := 2) (xs := xsF [] a) (fz := false) (Nat.zero_le _) rfl
  have e2 := in_seal (k := 0) (S := riS (knF (knF [] a) b) (xsF [] a) (xsF (knF [] a) b)) (id := 3) (xs := xsF (knF [] a) b) (fz := false) (Nat.zero_le _) rfl
  have e3 : ∀ S : Store, sealV 0 S (.arr 2 (xsF [] a).length 0 (xsF [] a).length) = some (intsA (xsF [] a)) → sealV 0 S (.arr 3 (xsF (knF [] a) b).length 0 (xsF (knF [] a) b).length) = some (intsA (xsF (knF [] a) b)) → sealR 0 S (.tup [.arr 2 (xsF [] a).length 0 (xsF [] a).length, .arr 3 (xsF (knF [] a) b).length 0 (xsF (knF [] a) b).length, .pv (.int .i64 0)]) = some (.tup [intsA (xsF [] a), intsA (xsF (knF [] a) b), .pv (.int .i64 0)]) := by
    intro S e1 e2
    show (match sealV 0 S (.arr 2 (xsF [] a).length 0 (xsF [] a).length), sealEs 0 S [.arr 3 (xsF (knF [] a) b).length 0 (xsF (knF [] a) b).length, .pv (.int .i64 0)] with
      | some b, some s => some (b :: s)
      | _, _ => none).map AV.tup = _
    have e4 : sealEs 0 S [.arr 3 (xsF (knF [] a) b).length 0 (xsF (knF [] a) b).length, .pv (.int .i64 0)] = some [intsA (xsF (knF [] a) b), .pv (.int .i64 0)] := by
      show (match sealV 0 S (.arr 3 (xsF (knF [] a) b).length 0 (xsF (knF [] a) b).length), sealEs 0 S [.pv (.int .i64 0)] with
        | some b, some s => some (b :: s)
        | _, _ => none) = _
      rw [e2]
      rfl
    rw [e1, e4]
    rfl
  exact e3 _ e1 e2
end
end Go.Sv
end
