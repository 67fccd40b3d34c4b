/- strings.IndexAny and ContainsAny at any text, the chars ASCII (the shelf's own contracts ask for an ASCII text). -/
import Derived.Shelf.Strings.IndexAnyAll
import Derived.Lib.OthersKept
import Derived.Shelf.Small.Utf8
import Derived.Deep.LoopGhost
import Derived.Laws.Runes
import Derived.Handy
import Derived.WalkMore
import Derived.Laws.Strings3
import Derived.Lib.IndexBytes
set_option linter.unusedVariables false
namespace Go.Proofs
open Go.Shelf Go.RowKit Go.Lib
variable {P : Program} {ρ : Ren}
set_option maxHeartbeats 2000000 in
set_option maxRecDepth 1000000 in
theorem Ix.IndexRune_inv (L : Lays.n152 P ρ) (s : ByteArray) (r : Int) (w : World) (h0 : 128 ≤ r) (h1 : r ≠ 65533) (h2 : Lib.validRune r = false) :
    Calls P (ρ.f 152) #[.string s, .int .i32 r] w fun e w' => e = .returned (.int .i64 (-1)) ∧ w' = w := by
  have h128 : ¬ (r < 128) := by omega
  have t3 := L.t3; have a3 := L.a3; have z3 := L.z3; have v3 := L.v3
  have t4 := L.t4; have a4 := L.a4; have z4 := L.z4; have v4 := L.v4
  have t5 := L.t5; have a5 := L.a5; have z5 := L.z5; have v5 := L.v5
  have t9 := L.t9; have a9 := L.a9; have z9 := L.z9; have v9 := L.v9
  have t21 := L.t21; have a21 := L.a21; have z21 := L.z21; have v21 := L.v21
  have e119 : ∀ args w, (callFunc (ρ.f 119) args).run P w = .ok (.enter (ρ.f 119) args) w := enters_of L.f119 (by kernel_rfl) rfl
  go_enter L.f152, Body.n152_ntmps ρ
  go_wp2_with (go_at_fn (ρ.f 119); refine (Any.utf8_ValidRune { L with } _ _).mono ?_; rintro e w' ⟨rfl, hw⟩; simp only [h2] at hw ⊢; rw [hw])
  go_ret
  exact ⟨rfl, rfl⟩
set_option maxHeartbeats 2000000 in
set_option maxRecDepth 1000000 in
theorem Ix.IndexRune_bad (L : Lays.n152 P ρ) (s : ByteArray) (w : World) (hascii : ∀ (j : Nat) b, s.data.toList[j]? = some b → b.toNat < 128) :
    Calls P (ρ.f 152) #[.string s, .int .i32 65533] w fun e w' => e = .returned (.int .i64 (-1)) ∧ ∃ pos, w' = w.iter s pos := by
  have HA : Aside (∀ (j : Nat) b, s.data.toList[j]? = some b → b.toNat < 128) := hascii
  clear hascii
  have t3 := L.t3; have a3 := L.a3; have z3 := L.z3; have v3 := L.v3
  have t4 := L.t4; have a4 := L.a4; have z4 := L.z4; have v4 := L.v4
  have t5 := L.t5; have a5 := L.a5; have z5 := L.z5; have v5 := L.v5
  have t9 := L.t9; have a9 := L.a9; have z9 := L.z9; have v9 := L.v9
  have t21 := L.t21; have a21 := L.a21; have z21 := L.z21; have v21 := L.v21
  go_enter L.f152, Body.n152_ntmps ρ
  go_wp2
  go_loopg [5, 6] s.size (fun g _ _ wx => ∃ i : Nat, i + g = s.size ∧ wx = w.iter s i)
  case atStart => exact ⟨0, by omega, rfl⟩
  case round =>
    obtain ⟨i, hig, rfl⟩ := hrel
    cases gk with
    | zero =>
      obtain rfl : i = s.size := by omega
      have hnx := run_next_end (P := P) w s s.size
      go_wp2
      go_ret
      exact ⟨rfl, _, rfl⟩
    | succ g =>
      have hi : i < s.size := by omega
      obtain ⟨x, hx⟩ : ∃ x : UInt8, s[i]'hi = x := ⟨_, rfl⟩
      have hxl : s.data.toList[i]? = some x := by rw [← hx]; exact Lib.data_getElem? s i hi
      have hx128 : x.toNat < 128 := HA.out i x hxl
      have hnx := fun ty => run_next_ascii (P := P) w s i ty hi (by rw [hx]; exact hx128)
      rw [hx] at hnx
      have hne : ((x.toNat : Int) == 65533) = false := beq_eq_false_iff_ne.2 (by omega)
      clear hxl hx
      go_wp2
      go_roundg g
      case measure => omega
      case rel => exact ⟨i + 1, by omega, rfl⟩
theorem Ix.indexByte_none : ∀ {l : List UInt8} {x : UInt8}, 128 ≤ x.toNat → (∀ (j : Nat) b, l[j]? = some b → b.toNat < 128) → Lib.indexByte l x = -1
  | [], _, _, _ => rfl
  | b :: l, x, hx, h => by
    have hb := h 0 b rfl
    have ih := Ix.indexByte_none (l := l) hx (fun j b hj => h (j + 1) b (by simpa using hj))
    have hne : (b == x) = false := beq_eq_false_iff_ne.2 (fun e => by subst e; omega)
    rw [Lib.indexByte, hne, ih]
    rfl
set_option maxHeartbeats 2000000 in
set_option maxRecDepth 1000000 in
theorem Ix.IndexRune_ok (L : Lays.n152 P ρ) (s : ByteArray) (r : Int) (w : World) (h0 : 128 ≤ r) (h1 : (r == 65533) = false) (h2 : Lib.validRune r = true) (hv : Utf8.valid r = true) (hascii : ∀ (j : Nat) b, s.data.toList[j]? = some b → b.toNat < 128) (hs : s.size < 4294967281) :
    Calls P (ρ.f 152) #[.string s, .int .i32 r] w fun e w' => e = .returned (.int .i64 (-1)) ∧ Below w.heap.size w w' := by
  have h128 : ¬ (r < 128) := by omega
  obtain ⟨f1, f2, f3⟩ := encode_facts r hv h0
  obtain ⟨t, ht⟩ : ∃ t, Utf8.encode r = t := ⟨_, rfl⟩
  rw [ht] at f1 f2 f3
  obtain ⟨n, hn⟩ : ∃ n, t.size = n + 1 := ⟨t.size - 1, by omega⟩
  obtain ⟨x, hx⟩ : ∃ x : UInt8, t[n]'(by omega) = x := ⟨_, rfl⟩
  have hx1 : 128 ≤ x.toNat := by have := f3 (by omega); simp only [hn, Nat.add_sub_cancel] at this; rw [hx] at this; exact this
  have hidx : ∀ l : List UInt8, (∀ (j : Nat) b, l[j]? = some b → b.toNat < 128) → Lib.indexByte l x = -1 := fun l h => Ix.indexByte_none hx1 h
  have HA : Aside (∀ (j : Nat) b, s.data.toList[j]? = some b → b.toNat < 128) := hascii
  have HI : Aside (∀ l : List UInt8, (∀ (j : Nat) b, l[j]? = some b → b.toNat < 128) → Lib.indexByte l x = -1) := hidx
  clear hascii f3 hidx
  have t3 := L.t3; have a3 := L.a3; have z3 := L.z3; have v3 := L.v3
  have t4 := L.t4; have a4 := L.a4; have z4 := L.z4; have v4 := L.v4
  have t5 := L.t5; have a5 := L.a5; have z5 := L.z5; have v5 := L.v5
  have t9 := L.t9; have a9 := L.a9; have z9 := L.z9; have v9 := L.v9
  have t21 := L.t21; have a21 := L.a21; have z21 := L.z21; have v21 := L.v21
  have s21 : (P.underlying (ρ.t 21)).isSome = true := by rw [t21]; rfl
  have hcv := fun w => run_convert_int_string (P := P) w (ρ.t 21) (ρ.t 9) .i32 r s21 t9
  rw [ht] at hcv
  have e119 : ∀ args w, (callFunc (ρ.f 119) args).run P w = .ok (.enter (ρ.f 119) args) w := enters_of L.f119 (by kernel_rfl) rfl
  have e137 : ∀ args w, (callFunc (ρ.f 137) args).run P w = .ok (.enter (ρ.f 137) args) w := enters_of L.f137 (by kernel_rfl) rfl
  have hw1 : IntKind.i64.wrap ((t.size : Int) - 1) = (n : Int) := by rw [hn]; exact (wrap_small _ (by omega) (by omega)).trans (by omega)
  go_enter L.f152, Body.n152_ntmps ρ
  go_wp2_with (go_at_fn (ρ.f 119); refine (Any.utf8_ValidRune { L with } _ _).mono ?_; rintro e w' ⟨rfl, hw⟩; simp only [h2] at hw ⊢; rw [hw])
  go_step3
  go_wp2
  refine wp_loop_rounds 1 ?_
  rw [rounds_succ]
  by_cases hi : n < s.size
  · obtain ⟨y, hy⟩ : ∃ y : UInt8, s[n]'hi = y := ⟨_, rfl⟩
    have hyl : s.data.toList[n]? = some y := by rw [← hy]; exact Lib.data_getElem? s n hi
    have hy128 : y.toNat < 128 := HA.out n y hyl
    have hne : (((y.toNat : Int)) == ((x.toNat : Int))) = false := beq_eq_false_iff_ne.2 (by omega)
    have hn' : n < t.size := by omega
    have hii : (n : Int) < (s.size : Int) := by omega
    have hwn : IntKind.i64.wrap ((n : Int) + 1) = ((n : Int) + 1) := wrap_small _ (by omega) (by omega)
    clear hyl
    go_wp2
    go_step3
    have mixed := L.mixed
    have hnl : (n : Int) < (n : Int) + 1 := by omega
    go_wp2
    go_region_o
    go_wp2
    have hext : ∀ (j : Nat) b, (List.take (s.size - (n + 1)) (List.drop (n + 1) s.data.toList))[j]? = some b → b.toNat < 128 := fun j b hj => by
      rw [List.getElem?_take] at hj
      split at hj
      · rw [List.getElem?_drop] at hj
        exact HA.out (n + 1 + j) b hj
      · cases hj
    have hcl := HI.out _ hext
    clear hext
    go_region_with_o (refine (Any.strings_IndexByte { L with } _ _ _).mono ?_; rintro e w' ⟨rfl, hw⟩; rw [hw])
    all_goals (try rw [hcl])
    all_goals go_wp2
    all_goals simp only [Exit.noGoto, Exit.inBlock, Exit.then]
    all_goals go_ret
    all_goals exact ⟨rfl, ((Below.refl _ _).drew).drew⟩
  · have hii : ¬ ((n : Int) < (s.size : Int)) := by omega
    go_wp2
    go_ret
    exact ⟨rfl, Below.refl _ _⟩
theorem Ix.IndexRune_high (L : Lays.n152 P ρ) (s : ByteArray) (r : Int) (w : World) (h0 : 128 ≤ r) (hascii : ∀ (j : Nat) b, s.data.toList[j]? = some b → b.toNat < 128) (hs : s.size < 4294967281) :
    Calls P (ρ.f 152) #[.string s, .int .i32 r] w fun e w' => e = .returned (.int .i64 (-1)) ∧ Below w.heap.size w w' := by
  by_cases h1 : r = 65533
  · subst h1
    exact (Ix.IndexRune_bad L s w hascii).mono fun e w' ⟨h, pos, h2⟩ => ⟨h, by rw [h2]; exact (Below.refl _ _).alloc (Nat.le_refl _) _⟩
  cases hv : Lib.validRune r with
  | false => exact (Ix.IndexRune_inv L s r w h0 h1 hv).mono fun e w' ⟨h, h2⟩ => ⟨h, by rw [h2]; exact Below.refl _ _⟩
  | true => exact Ix.IndexRune_ok L s r w h0 (beq_eq_false_iff_ne.2 h1) hv (by simp [Lib.validRune, Utf8.valid] at hv ⊢; omega) hascii hs
theorem Ix.skip (s : ByteArray) (pos : Nat) (h : pos < s.size) (ha : 128 ≤ (s[pos]'h).toNat) : pos + (Utf8.decode s pos).2 ≤ s.size ∧ ∀ j, pos ≤ j → j < pos + (Utf8.decode s pos).2 → ∀ hj : j < s.size, 128 ≤ (s[j]'hj).toNat := by
  have hn : ¬ (s[pos]'h).toNat < 128 := by omega
  have key : ∀ k, (decide (pos + k < s.size) && (s.get! (pos + k)).toNat / 64 == 2) = true → pos + k < s.size ∧ ∀ hj : pos + k < s.size, 128 ≤ (s[pos + k]'hj).toNat := by
    intro k hk
    simp only [Bool.and_eq_true, decide_eq_true_eq, beq_iff_eq] at hk
    refine ⟨hk.1, fun hj => ?_⟩
    have := get_at s (pos + k) hj
    rw [Nat.add_zero] at this
    rw [this] at hk
    omega
  have k1 := key 1
  have k2 := key 2
  have k3 := key 3
  have one : pos + 1 ≤ s.size ∧ ∀ j, pos ≤ j → j < pos + 1 → ∀ hj : j < s.size, 128 ≤ (s[j]'hj).toNat := ⟨by omega, fun j h1 h2 hj => by
    obtain rfl : pos = j := by omega
    exact ha⟩
  simp only [Utf8.decode, get_at s pos h, hn, if_false]
  split
  · rename_i h2
    rw [Bool.and_eq_true] at h2
    obtain ⟨a1, b1⟩ := k1 h2.2
    split
    · refine ⟨by show pos + 2 ≤ _; omega, fun j hj1 hj2 hj => ?_⟩
      have : j < pos + 2 := hj2
      rcases (show j = pos ∨ j = pos + 1 by omega) with e | e <;> subst e
      · exact ha
      · exact b1 hj
    · exact one
  · split
    · rename_i h2
      rw [Bool.and_eq_true, Bool.and_eq_true] at h2
      obtain ⟨a1, b1⟩ := k1 h2.1.2
      obtain ⟨a2, b2⟩ := k2 h2.2
      split
      · refine ⟨by show pos + 3 ≤ _; omega, fun j hj1 hj2 hj => ?_⟩
        have : j < pos + 3 := hj2
        rcases (show j = pos ∨ j = pos + 1 ∨ j = pos + 2 by omega) with e | e | e <;> subst e
        · exact ha
        · exact b1 hj
        · exact b2 hj
      · exact one
    · split
      · rename_i h2
        rw [Bool.and_eq_true, Bool.and_eq_true, Bool.and_eq_true] at h2
        obtain ⟨a1, b1⟩ := k1 h2.1.1.2
        obtain ⟨a2, b2⟩ := k2 h2.1.2
        obtain ⟨a3, b3⟩ := k3 h2.2
        split
        · refine ⟨by show pos + 4 ≤ _; omega, fun j hj1 hj2 hj => ?_⟩
          have : j < pos + 4 := hj2
          rcases (show j = pos ∨ j = pos + 1 ∨ j = pos + 2 ∨ j = pos + 3 by omega) with e | e | e | e <;> subst e
          · exact ha
          · exact b1 hj
          · exact b2 hj
          · exact b3 hj
        · exact one
      · exact one
set_option maxHeartbeats 8000000 in
set_option maxRecDepth 1000000 in
theorem Ix.IndexAny_short (L : Lays.n153 P ρ) (s chars : ByteArray) (w : World) (h2 : 2 ≤ chars.size) (h8 : s.size ≤ 8) (hcs : chars.size < 4294967281) (hascii : ∀ (j : Nat) b, chars.data.toList[j]? = some b → b.toNat < 128) :
    Calls P (ρ.f 153) #[.string s, .string chars] w fun e w' => e = .returned (.int .i64 (Lib.indexAny s.data.toList chars.data.toList)) ∧ Below w.heap.size w w' := by
  have hno : ∀ b : UInt8, 128 ≤ b.toNat → chars.data.toList.contains b = false := fun b hb => by
    cases hc : chars.data.toList.contains b with
    | false => rfl
    | true =>
      rw [List.contains_iff_mem] at hc
      obtain ⟨j, hj, e⟩ := List.getElem_of_mem hc
      have := hascii j b (by rw [List.getElem?_eq_getElem hj, e])
      omega
  have HA : Aside (∀ (j : Nat) b, chars.data.toList[j]? = some b → b.toNat < 128) := hascii
  have HO : Aside (∀ b : UInt8, 128 ≤ b.toNat → chars.data.toList.contains b = false) := hno
  clear hascii hno
  have hemp : chars.toList.isEmpty = false := by
    rw [Lib.toList_data]
    cases h : chars.data.toList with
    | nil => have := Lib.size_eq chars; rw [h, List.length_nil] at this; omega
    | cons _ _ => rfl
  have hn1 : ((chars.size : Int) == 1) = false := beq_eq_false_iff_ne.2 (by omega)
  have h8z : decide ((8 : Int) < (s.size : Int)) = false := decide_eq_false (by omega)
  have t3 := L.t3; have a3 := L.a3; have z3 := L.z3; have v3 := L.v3
  have t4 := L.t4; have a4 := L.a4; have z4 := L.z4; have v4 := L.v4
  have t5 := L.t5; have a5 := L.a5; have z5 := L.z5; have v5 := L.v5
  have t9 := L.t9; have a9 := L.a9; have z9 := L.z9; have v9 := L.v9
  have t21 := L.t21; have a21 := L.a21; have z21 := L.z21; have v21 := L.v21
  have e152 : ∀ args w, (callFunc (ρ.f 152) args).run P w = .ok (.enter (ρ.f 152) args) w := enters_of L.f152 (by kernel_rfl) rfl
  have e226 : ∀ args w, (callFunc (ρ.f 226) args).run P w = .ok (.enter (ρ.f 226) args) w := enters_of L.f226 (by kernel_rfl) rfl
  go_enter L.f153, Body.n153_ntmps ρ
  go_wp2_with (go_at_fn (ρ.f 226); refine (Any.strings_shouldUseASCIISet { L with } _ _).mono ?_; rintro e w' ⟨rfl, hw⟩; rw [hw, h8z])
  go_loopg [9, 10] s.size (fun g _ _ wx => ∃ i : Nat, s.size ≤ i + g ∧ i ≤ s.size ∧ wx.heap[w.heap.size]? = some (.stringIter s i) ∧ Below w.heap.size w wx ∧ Lib.NoAny s.data.toList chars.data.toList i)
  case atStart => exact ⟨0, by omega, by omega, World.iter_heap w s 0, (Below.refl _ _).alloc (Nat.le_refl _) _, Lib.NoAny.zero _ _⟩
  case round =>
    obtain ⟨i, hig, his, hit, hbl, hno⟩ := hrel
    have HB := hbl
    have HN : Aside (Lib.NoAny s.data.toList chars.data.toList i) := hno
    clear hno
    by_cases hi : i < s.size
    · cases gk with
      | zero => exact absurd hig (by omega)
      | succ g =>
        obtain ⟨x, hx⟩ : ∃ x : UInt8, s[i]'hi = x := ⟨_, rfl⟩
        have hxl : s.data.toList[i]? = some x := by rw [← hx]; exact Lib.data_getElem? s i hi
        by_cases hx128 : x.toNat < 128
        · have hnx := fun ty => run_next_ascii_at (P := P) wr w.heap.size s i ty hit hi (by rw [hx]; exact hx128)
          rw [hx] at hnx
          have Hx : Aside (s.data.toList[i]? = some x) := hxl
          clear hxl hx
          have hcon := Lib.contains_iff_indexByte chars.data.toList x
          have hback : ((x.toNat : Int)).toNat.toUInt8 = x := by simp
          have hb2 := below_iterAt hbl (Nat.le_refl w.heap.size) s (i + 1)
          have hh2 := iterAt_heap wr w.heap.size s i (i + 1) hit
          cases hin : chars.data.toList.contains x
          · rw [hin] at hcon
            have hlt : ¬ ((0 : Int) ≤ Lib.indexByte chars.data.toList x) := of_decide_eq_false hcon.symm
            clear hcon
            go_wp2_with (go_at_fn (ρ.f 152); refine (Any.strings_IndexRune_ascii { L with } _ _ _ (by omega) (by omega)).mono ?_; rintro e w' ⟨rfl, hw⟩; rw [hw, hback])
            go_roundg g
            case measure => omega
            case rel => exact ⟨i + 1, by omega, by omega, hh2, hb2, HN.out.succ Hx.out hin⟩
          · rw [hin] at hcon
            have hge : (0 : Int) ≤ Lib.indexByte chars.data.toList x := of_decide_eq_true hcon.symm
            clear hcon
            go_wp2_with (go_at_fn (ρ.f 152); refine (Any.strings_IndexRune_ascii { L with } _ _ _ (by omega) (by omega)).mono ?_; rintro e w' ⟨rfl, hw⟩; rw [hw, hback])
            go_ret
            exact ⟨by rw [Lib.indexAny_hit HN.out Hx.out hin]; rfl, hb2⟩
        · have hhi := decode_high s i hi (by rw [hx]; omega)
          have hsk := Ix.skip s i hi (by rw [hx]; omega)
          have hnx := fun ty => run_next_any_at (P := P) wr w.heap.size s i ty hit hi
          obtain ⟨r, hr⟩ : ∃ r, (Utf8.decode s i).1 = r := ⟨_, rfl⟩
          obtain ⟨n, hn⟩ : ∃ n, (Utf8.decode s i).2 = n := ⟨_, rfl⟩
          rw [hr] at hnx hhi
          rw [hn] at hnx hhi hsk
          obtain ⟨wi, hwi⟩ : ∃ wi, wr.iterAt w.heap.size s (i + n) = wi := ⟨_, rfl⟩
          rw [hwi] at hnx
          have hb2 := below_iterAt hbl (Nat.le_refl w.heap.size) s (i + n)
          have hh2 := iterAt_heap wr w.heap.size s i (i + n) hit
          rw [hwi] at hb2 hh2
          have hsz2 : w.heap.size < wi.heap.size := (Array.getElem?_eq_some_iff.1 hh2).1
          have hno2 : Lib.NoAny s.data.toList chars.data.toList (i + n) := by
            intro j b hj hb
            by_cases hji : j < i
            · exact HN.out j b hji hb
            · have hjs : j < s.size := by omega
              have := hsk.2 j (by omega) hj hjs
              rw [Lib.data_getElem? s j hjs] at hb
              cases hb
              exact HO.out _ this
          have HN2 : Aside (Lib.NoAny s.data.toList chars.data.toList (i + n)) := hno2
          have hsk1 := hsk.1
          clear hxl hx hno2 hsk hwi hr hn
          have hfar : ∀ w', Below wi.heap.size wi w' → w'.heap[w.heap.size]? = some (.stringIter s (i + n)) ∧ Below w.heap.size w w' := fun w' hb => ⟨(hb.block _ hsz2).trans hh2, hb2.trans ⟨hb.os, hb.tape, hb.output, hb.size, fun k hk => hb.block k (by omega)⟩⟩
          have HF : Aside (∀ w', Below wi.heap.size wi w' → w'.heap[w.heap.size]? = some (.stringIter s (i + n)) ∧ Below w.heap.size w w') := hfar
          clear hfar
          have hcall := Ix.IndexRune_high { L with } chars r wi (by omega) HA.out hcs
          go_wp2_with (go_at_fn (ρ.f 152); refine hcall.mono ?_; rintro e w' ⟨rfl, hw⟩)
          go_roundg g
          case measure => omega
          case rel => exact ⟨i + n, by omega, by omega, (HF.out _ hw).1, (HF.out _ hw).2, HN2.out⟩
    · obtain rfl : i = s.size := by omega
      have hnx := fun ty => run_next_end_at (P := P) wr w.heap.size s s.size ty hit (by omega)
      go_wp2
      go_ret
      exact ⟨by rw [Lib.indexAny_none (by rw [← Lib.size_eq]; exact HN.out)]; rfl, hbl⟩
theorem Ix.IndexAny (L : Lays.n153 P ρ) (hv116 : ∀ w, (zeroValue (ρ.t 116)).run P w = .ok (.agg (Array.replicate 256 (.bool false))) w) (hi116 : (P.info? (ρ.t 116)).map (·.size) = some 256) (s chars : ByteArray) (w : World) (hs : s.size < 4294967281) (hcs : chars.size < 4294967281)
    (hac : ∀ (j : Nat) b, chars.data.toList[j]? = some b → b.toNat < 128) :
    Calls P (ρ.f 153) #[.string s, .string chars] w fun e w' => e = .returned (.int .i64 (Lib.indexAny s.data.toList chars.data.toList)) ∧ Below w.heap.size w w' := by
  by_cases h0 : chars.size = 0
  · exact (Any.strings_IndexAny_none L s chars w h0).mono fun e w' ⟨h1, h2⟩ => ⟨h1, h2 ▸ Below.refl _ _⟩
  by_cases h1 : chars.size = 1
  · exact (Any.strings_IndexAny_one L s chars w h1 hac).mono fun e w' ⟨h1, h2⟩ => ⟨h1, h2 ▸ Below.refl _ _⟩
  by_cases h8 : s.size ≤ 8
  · exact Ix.IndexAny_short L s chars w (by omega) h8 hcs hac
  · refine (Any.strings_IndexAny_long L hv116 hi116 s chars w (by omega) (by omega) hs hcs hac).mono fun e w' ⟨h1, h2⟩ => ⟨h1, ?_⟩
    rw [h2]
    exact ((Below.refl _ _).alloc (Nat.le_refl _) _).alloc (by simp) _
end Go.Proofs
