/- What the code of reading answers: a prefix cut off. Functions of the library that package context calls, as calls over stores: Cut and CutSuffix, Trim and TrimLeft at digits, Atoi of few digits. A context diff, read: as plain lists. -/
import Derived.Test.YtebgkjjbbnbnlaaGreatDoorUnP
import Derived.Test.YtebgkjjbbnbnlaaGreatDoorCxT
import Derived.Lib.AtoiErrMem
import Derived.Test.YtebgkjjbbnbnlaaGreatDoorSvBk
set_option linter.unusedVariables false
set_option linter.unusedSimpArgs false
set_option maxRecDepth 100000
section
namespace Go.Sv
open Go Go.RowKit Go.Proofs
section
variable {w0 : Base} {σ : Store} {R : AV → Store → Prop}
theorem hasPre_le {s p : Ln} (h : Lib.hasPrefix s p = true) : p.length ≤ s.length := (List.isPrefixOf_iff_prefix.1 h).length_le
theorem slHas_spec {s p : Ln} (hs : s.length ≤ 140737488355328) (hR : R (.pv (.bool (Lib.hasPrefix s p))) σ) : A1 (cx w0) D7.id [.pv (.str s), .pv (.str p)] σ R := by
  have fin : ∀ t, t = Lib.hasPrefix s p → D7.n4 (D7.X w0 σ.length) w0 σ.length R σ t := by
    rintro t rfl
    refine D7.n4_in ?_
    rw [D7.b4_eq]
    exact O0 hR
  have e := Lib.hasPrefix_of_take s p
  refine D7.calls ?_
  rw [D7.b0_eq, A7]
  refine B8 (fun g => ?_) (fun g => fin _ ?_)
  · refine A0 (V0 (by omega)) (I0 (fin _ ?_))
    rw [← e, decide_eq_true (by omega), Bool.true_and]
  · rw [← e, decide_eq_false (by omega), Bool.false_and]
theorem slCut_spec {s p : Ln} (hs : s.length ≤ 140737488355328) (hR : R (.tup [.pv (.str (cutF s p).1), .pv (.bool (cutF s p).2)]) σ) : A1 (cx w0) F8.id [.pv (.str s), .pv (.str p)] σ R := by
  refine F8.calls ?_
  rw [F8.b0_eq]
  refine slHas_spec hs (F5 ?_)
  rw [E3]
  unfold cutF at hR
  refine A5 (fun g => ?_) (fun g => ?_)
  · rw [if_pos g] at hR
    have hle := hasPre_le g
    exact A0 (J9 hle) (I0 (O0 hR))
  · rw [if_neg (by rw [g]; decide)] at hR
    exact O0 hR
theorem Cut_spec {s p : Ln} (hs : s.length ≤ 140737488355328) (hR : R (.tup [.pv (.str (cutF s p).1), .pv (.bool (cutF s p).2)]) σ) : A1 (cx w0) G1.id [.pv (.str s), .pv (.str p)] σ R := by
  refine G1.calls ?_
  rw [G1.b0_eq]
  refine slCut_spec hs ?_
  repeat ((with_reducible first | apply A0 | apply wI | apply wT | apply wP | apply wS | apply wB); exact rfl)
  exact O0 hR
end
end Go.Sv
end
section
namespace Go.Sv
section
open Go Go.RowKit Go.Proofs
variable {w0 : Base} {σ : Store} {R : AV → Store → Prop}
theorem slHasSuf_spec (L : Laid w0.w) {s p : Ln} (hs : s.length ≤ 140737488355328) (hR : R (.pv (.bool (Lib.hasSuffix s p))) σ) : A1 (cx w0) D8.id [.pv (.str s), .pv (.str p)] σ R := by
  refine A1.alone L rfl (fun w1 L1 => ?_) rfl hR
  have fin : ∀ t, t = Lib.hasSuffix s p → D8.n4 (D8.X w1 0) w1 0 (fun r _ => r = .pv (.bool (Lib.hasSuffix s p))) [] t := by
    rintro t rfl
    refine D8.n4_in ?_
    rw [D8.b4_eq]
    exact C5 (Nat.zero_le _) rfl
  refine D8.calls ?_
  rw [D8.b0_eq, A7]
  refine B8 (fun g => ?_) (fun g => ?_)
  · rw [G3 (by omega) (by omega), show (s.length : Int) - (p.length : Int) = ((s.length - p.length : Nat) : Int) by omega]
    refine A0 (J9 (by omega)) (I0 (fin _ ?_))
    rw [Bool.eq_iff_iff, beq_iff_eq]
    unfold Lib.hasSuffix
    rw [List.isSuffixOf_iff_suffix]
    constructor
    · intro e
      have h3 := List.take_append_drop (s.length - p.length) s
      rw [e] at h3
      exact ⟨_, h3⟩
    · rintro ⟨q, rfl⟩
      simp
  · generalize hb : false = b
    refine fin b ?_
    rw [← hb]
    cases h : Lib.hasSuffix s p with
    | false => rfl
    | true =>
      unfold Lib.hasSuffix at h
      obtain ⟨q, rfl⟩ := List.isSuffixOf_iff_suffix.1 h
      simp at g
      omega
def V9 (s p : Ln) : Ln × Bool := if Lib.hasSuffix s p = true then (s.take (s.length - p.length), true) else (s, false)
theorem CutSuffix_spec (L : Laid w0.w) {s p : Ln} (hs : s.length ≤ 140737488355328) (hR : R (.tup [.pv (.str (V9 s p).1), .pv (.bool (V9 s p).2)]) σ) : A1 (cx w0) I4.id [.pv (.str s), .pv (.str p)] σ R := by
  refine A1.alone L rfl (fun w1 L1 => ?_) rfl hR
  have in1 : A1 (cx w1) F7.id [.pv (.str s), .pv (.str p)] [] fun r _ => r = .tup [.pv (.str (V9 s p).1), .pv (.bool (V9 s p).2)] := by
    refine F7.calls ?_
    rw [F7.b0_eq]
    refine slHasSuf_spec L1 hs (F5 ?_)
    rw [E3]
    refine A5 (fun g => ?_) (fun g => ?_)
    · have hle : p.length ≤ s.length := by
        unfold Lib.hasSuffix at g
        exact (List.isSuffixOf_iff_suffix.1 g).length_le
      rw [G3 (by omega) (by omega), show (s.length : Int) - (p.length : Int) = ((s.length - p.length : Nat) : Int) by omega]
      refine A0 (V0 (by omega)) (I0 (C5 (Nat.zero_le _) ?_))
      rw [V9, if_pos g]
    · refine C5 (Nat.zero_le _) ?_
      rw [V9, if_neg (by rw [g]; decide)]
  refine I4.calls ?_
  rw [I4.b0_eq]
  refine in1.mono fun r σ' e => ?_
  subst e
  repeat ((with_reducible first | apply A0 | apply wI | apply wT | apply wP | apply wS | apply wB); exact rfl)
  exact C5 (Nat.zero_le _) rfl
def cut1F (s : Ln) (c : UInt8) : Ln × Ln × Bool := if 0 ≤ Lib.indexByte s c then (s.take (Lib.indexByte s c).toNat, s.drop ((Lib.indexByte s c).toNat + 1), true) else (s, [], false)
theorem slIndex1_spec {s : Ln} {c : UInt8} (hR : R (.pv (.int .i64 (Lib.indexByte s c))) σ) : A1 (cx w0) M6.id [.pv (.str s), .pv (.str [c])] σ R :=
  A1.same (S4 Tryz.func139 (by kernel_rfl) (by kernel_rfl)) hR fun m K w vs hB hv => by
    obtain ⟨x, y, rfl, hx, hy⟩ := hv.two
    obtain rfl := hx.str_inv
    obtain rfl := hy.str_inv
    exact ⟨_, .pv _ _ (.int _ _), Tryz.stringslite_Index_one ⟨s.toArray⟩ c w⟩
theorem Cut1_spec (L : Laid w0.w) {s : Ln} {c : UInt8} (hs : s.length ≤ 140737488355328) (hR : R (.tup [.pv (.str (cut1F s c).1), .pv (.str (cut1F s c).2.1), .pv (.bool (cut1F s c).2.2)]) σ) : A1 (cx w0) O7.id [.pv (.str s), .pv (.str [c])] σ R := by
  refine A1.alone L rfl (fun w1 L1 => ?_) rfl hR
  have hlt : 0 ≤ Lib.indexByte s c → Lib.indexByte s c < s.length := fun h => by
    obtain ⟨k, hk⟩ : ∃ k : Nat, Lib.indexByte s c = (k : Int) := ⟨(Lib.indexByte s c).toNat, by omega⟩
    have := (List.getElem?_eq_some_iff.1 (Lib.indexByte_some hk).1).1
    omega
  have in1 : A1 (cx w1) J8.id [.pv (.str s), .pv (.str [c])] [] fun r _ => r = .tup [.pv (.str (cut1F s c).1), .pv (.str (cut1F s c).2.1), .pv (.bool (cut1F s c).2.2)] := by
    refine J8.calls ?_
    rw [J8.b0_eq]
    refine slIndex1_spec (K2 ?_)
    rw [A7]
    refine B8 (fun g => ?_) (fun g => ?_)
    · have h1 := hlt g
      obtain ⟨k, hk⟩ : ∃ k : Nat, Lib.indexByte s c = (k : Int) := ⟨(Lib.indexByte s c).toNat, by omega⟩
      have h0 : 0 ≤ Lib.indexByte s c := g
      unfold cut1F
      rw [if_pos h0]
      rw [hk] at h1 ⊢
      have hl : List.length ([c] : List UInt8) = 1 := rfl
      rw [hl, G3 (by omega) (by omega), show (k : Int) + ((1 : Nat) : Int) = ((k + 1 : Nat) : Int) by omega]
      refine A0 (V0 (by omega)) (I0 (A0 (J9 (by omega)) (I0 ⟨A0 (J9 (by omega)) rfl, C5 (Nat.zero_le _) ?_⟩)))
      rw [Int.toNat_natCast]
    · refine C5 (Nat.zero_le _) ?_
      rw [cut1F, if_neg g]
  refine O7.calls ?_
  rw [O7.b0_eq]
  refine in1.mono fun r σ' e => ?_
  subst e
  repeat ((with_reducible first | apply A0 | apply wI | apply wT | apply wP | apply wS | apply wB); exact rfl)
  exact C5 (Nat.zero_le _) rfl
theorem TrimLeft1_spec {s : Ln} {c : UInt8} (hc : c.toNat < 128) (hR : R (.pv (.str (s.dropWhile (· == c)))) σ) : A1 (cx w0) N5.id [.pv (.str s), .pv (.str [c])] σ R :=
  A1.same (S4 Tryz.func149 (by kernel_rfl) (by kernel_rfl)) hR fun m K w vs hB hv => by
    obtain ⟨x, y, rfl, hx, hy⟩ := hv.two
    obtain rfl := hx.str_inv
    obtain rfl := hy.str_inv
    exact ⟨_, .pv _ _ (.str _), Tryz.strings_TrimLeft_one ⟨s.toArray⟩ c hc w⟩
theorem Atoi_spec {s : Ln} {n : Int} (hl : s.length ≤ 18) (h : Lib.atoi s = some n) (hR : R (.tup [.pv (.int .i64 n), .pv (.raw .nilIface)]) σ) : A1 (cx w0) Q4.id [.pv (.str s)] σ R :=
  A1.below (S4 Tryz.func150 (by kernel_rfl) (by kernel_rfl)) fun m K w vs hB hv => by
    obtain ⟨x, rfl, hx⟩ := hv.one
    obtain rfl := hx.str_inv
    refine (Tryz.strconv_Atoi ⟨s.toArray⟩ n (by simpa [ByteArray.size] using hl) h w).mono fun e w' ⟨he, t, hw⟩ => ⟨_, _, he, by rw [hw]; exact Lib.bytesWorld_below _ _ _, ?_, hR⟩
    refine .tup _ _ rfl (fun j p v hp hv => ?_)
    match j with
    | 0 => simp at hp hv; subst hp; subst hv; exact .pv _ _ (.int _ _)
    | 1 => simp at hp hv; subst hp; subst hv; exact .pv _ _ (.raw _ rfl)
    | j + 2 => simp at hp
def isDig (c : UInt8) : Bool := decide (48 ≤ c.toNat) && decide (c.toNat ≤ 57)
def asP : List PV := (List.range 256).map fun k => .bool (Nat.ble 48 k && Nat.ble k 57)
def asS : Store := [.cells 207 (asP.map .pv)]
theorem asS_len : List.length asS = 1 := rfl
noncomputable def feA : List (FuncId × FE) := [(H3.id, H3.fe), (D9.id, D9.fe)]
theorem feA_ok (w0 : Base) : FEsOK (cx w0) feA := ⟨H3.ok w0, D9.ok w0, trivial⟩
theorem make_run (w0 : Base) : rcall (cx w0) (feTab feA) (primOf primsX) 1000 60 H3.id [.pv (.str [48, 49, 50, 51, 52, 53, 54, 55, 56, 57])] [] = some (.tup [.pv (.agg asP), .pv (.bool true)], []) := by kernel_rfl
theorem con_run (w0 : Base) : (List.range 256).map (fun k => rcall (cx w0) (feTab feA) (primOf primsX) 1000 40 D9.id [.ptr 0 0, .pv (.int .u8 (Int.ofNat k))] asS) = (List.range 256).map (fun k => some (.pv (.bool (Nat.ble 48 k && Nat.ble k 57)), asS)) := by kernel_rfl
theorem con_spec (L : Laid w0.w) {c : UInt8} (hR : R (.pv (.bool (isDig c))) asS) : A1 (cx w0) D9.id [.ptr 0 0, .pv (.int .u8 c.toNat)] asS R := by
  have e : isDig c = (Nat.ble 48 c.toNat && Nat.ble c.toNat 57) := by
    unfold isDig
    have h : ∀ a b : Nat, decide (a ≤ b) = Nat.ble a b := fun a b => by
      rw [Bool.eq_iff_iff, decide_eq_true_eq, Nat.ble_eq]
    rw [h, h]
  rw [e] at hR
  exact run_callsX L (feA_ok w0) (range_get (con_run w0) c.toNat_lt) hR
def W5 : Ln → Ln := fun s => (s.reverse.dropWhile isDig).reverse
theorem trimR_loop (L : Laid w0.w) : ∀ (n : Nat) (s : Ln), s.length ≤ n → s.length ≤ 140737488355328 → R (.pv (.str (W5 s))) asS → C1.n4 (C1.X w0 1) w0 1 R asS s (.ptr 0 0) := by
  have stop : ∀ s : Ln, W5 s = s → R (.pv (.str (W5 s))) asS → C1.n19 (C1.X w0 1) w0 1 R asS s := by
    intro s hs hR
    refine C1.n19_in ?_
    rw [C1.b19_eq]
    refine C5 (Nat.le_of_eq asS_len.symm) ?_
    rw [← hs]; exact hR
  intro n
  induction n with
  | zero =>
    intro s hn hs hR
    have : s = [] := List.length_eq_zero_iff.1 (by omega)
    subst this
    refine C1.n4_in ?_
    rw [C1.b5_eq, A7, if_neg (by simp)]
    exact stop [] rfl hR
  | succ n ih =>
    intro s hn hs hR
    refine C1.n4_in ?_
    rw [C1.b5_eq, A7]
    rcases List.eq_nil_or_concat s with rfl | ⟨q, c, rfl⟩
    · rw [if_neg (by simp)]
      exact stop [] rfl hR
    · rw [List.concat_eq_append] at *
      have hl : (q ++ [c]).length = q.length + 1 := by simp
      have wl : IntKind.wrap .i64 ((((q ++ [c]).length : Nat) : Int) - 1) = (q.length : Int) := by rw [hl, G3 (by omega) (by omega)]; omega
      rw [if_pos (by omega), wl]
      refine A0 (R0 (k := q.length) (c := c) (by simp)) (K2 ?_)
      refine con_spec L (F5 ?_)
      rw [E3]
      have et : W5 (q ++ [c]) = if isDig c = true then W5 q else q ++ [c] := by
        unfold W5
        rw [List.reverse_append, List.reverse_singleton, List.singleton_append, List.dropWhile_cons]
        split
        · rfl
        · simp
      refine A5 (fun g => ?_) (fun g => ?_)
      · rw [et, if_pos g] at hR
        refine A0 (V0 (by omega)) (I0 ?_)
        have e2 : (q ++ [c]).take q.length = q := by simp
        rw [e2]
        exact ih q (by omega) (by omega) hR
      · exact stop _ (by rw [et, if_neg (by rw [g]; decide)]) hR
theorem trimL_loop (L : Laid w0.w) : ∀ (s : Ln), s.length ≤ 140737488355328 → R (.pv (.str (s.dropWhile isDig))) asS → C3.n4 (C3.X w0 1) w0 1 R asS s (.ptr 0 0)
  | [], hs, hR => by
    refine C3.n4_in ?_
    rw [C3.b5_eq, A7, if_neg (by simp)]
    refine C3.n19_in ?_
    rw [C3.b19_eq]
    exact C5 (Nat.le_of_eq asS_len.symm) hR
  | c :: s, hs, hR => by
    simp only [List.length_cons] at hs
    refine C3.n4_in ?_
    rw [C3.b5_eq, A7, if_pos (by simp only [List.length_cons]; omega)]
    refine A0 (R0 (k := 0) (c := c) rfl) (K2 ?_)
    refine con_spec L (F5 ?_)
    rw [E3]
    rw [List.dropWhile_cons] at hR
    refine A5 (fun g => ?_) (fun g => ?_)
    · rw [if_pos g] at hR
      refine A0 (J9 (k := 1) (by simp)) (I0 ?_)
      exact trimL_loop L s (by omega) hR
    · rw [if_neg (by rw [g]; decide)] at hR
      refine C3.n19_in ?_
      rw [C3.b19_eq]
      exact C5 (Nat.le_of_eq asS_len.symm) hR
def trimDF (s : Ln) : Ln := (W5 s).dropWhile isDig
theorem trimRD_len (s : Ln) : (W5 s).length ≤ s.length := by
  unfold W5
  rw [List.length_reverse]
  have := (List.dropWhile_sublist (p := isDig) (l := s.reverse)).length_le
  rw [List.length_reverse] at this
  exact this
theorem TrimD_spec (L : Laid w0.w) {s : Ln} (hs : s.length ≤ 140737488355328) (hR : R (.pv (.str (trimDF s))) σ) : A1 (cx w0) H6.id [.pv (.str s), .pv (.str [48, 49, 50, 51, 52, 53, 54, 55, 56, 57])] σ R := by
  refine A1.alone L rfl (fun w1 L1 => ?_) rfl hR
  have h13 : ∀ t, t = false → H6.n13 (H6.X w1 0) w1 0 (fun r _ => r = .pv (.str (trimDF s))) [] s [48, 49, 50, 51, 52, 53, 54, 55, 56, 57] t := by
    rintro t rfl
    refine H6.n13_in ?_
    rw [H6.b13_eq, I5]
    refine run_callsX L1 (feA_ok w1) (make_run w1) ?_
    refine isTup_in (A0 rfl (isTup_in (A0 rfl (F5 ?_))))
    refine A0 (v := asS) (by kernel_rfl) ?_
    rw [M5]
    refine C1.calls ?_
    rw [C1.b0_eq, asS_len]
    refine trimR_loop L1 s.length s (Nat.le_refl _) hs (I0 ?_)
    refine C3.calls ?_
    rw [C3.b0_eq, asS_len]
    refine trimL_loop L1 (W5 s) (Nat.le_trans (trimRD_len s) hs) (I0 (C5 (Nat.zero_le _) rfl))
  have h5 : ∀ t, (t = true → s = []) → H6.n5 (H6.X w1 0) w1 0 (fun r _ => r = .pv (.str (trimDF s))) [] s [48, 49, 50, 51, 52, 53, 54, 55, 56, 57] t := by
    intro t ht
    refine H6.n5_in ?_
    rw [H6.b5_eq]
    refine A5 (fun g => ?_) (fun g => ?_)
    · rw [ht g]
      exact C5 (Nat.zero_le _) rfl
    · rw [G4, if_neg (by decide)]
      exact h13 _ rfl
  refine H6.calls ?_
  rw [H6.b0_eq, P0]
  refine B8 (fun g => h5 _ (fun _ => g)) (fun g => h5 _ (fun e => by cases e))
theorem trimDF_nil (s : Ln) : trimDF s = [] ↔ s.all isDig = true := by
  have h1 : ∀ l : Ln, l.dropWhile isDig = [] ↔ l.all isDig = true := by
    intro l
    induction l with
    | nil => simp
    | cons c l ih =>
      rw [List.dropWhile_cons, List.all_cons, Bool.and_eq_true]
      split
      · rename_i h; rw [ih]; simp [h]
      · rename_i h; simp [h]
  constructor
  · intro h
    unfold trimDF at h
    rw [h1] at h
    unfold W5 at h
    rw [List.all_reverse] at h
    rw [← List.all_reverse, ← h1]
    cases e : s.reverse.dropWhile isDig with
    | nil => rfl
    | cons c r =>
      have hc : isDig c = false := by
        have := List.head?_dropWhile_not isDig s.reverse
        rw [e] at this
        simpa using this
      rw [e] at h
      simp [hc] at h
  · intro h
    have : W5 s = [] := by
      unfold W5
      rw [(h1 s.reverse).2 (by rw [List.all_reverse]; exact h)]
      rfl
    unfold trimDF
    rw [this]; rfl
end
end Go.Sv
end
section
namespace Go.Sv
def nowF : List Ln → Ln × Bool
  | [] => ([], false)
  | l :: _ => (bareB l, true)
def nameC (mark : Ln) (r : List Ln) : Option (Ln × Ln) :=
  if (cutF (nowF r).1 mark).2 = false then none else match unqF (cutF (nowF r).1 mark).1 with
  | none => none
  | some (p, rest) => if rest ≠ [] ∧ (cutF rest [9]).2 = false then none else some (p, (cutF rest [9]).1)
def decV (s : Ln) : Nat := s.foldl (fun a c => a * 10 + (c.toNat - 48)) 0
def numC (s : Ln) : Int × Bool :=
  if s = [] ∨ s.all isDig = false then (0, false)
  else if 10 < (s.dropWhile (· == 48)).length then (0, false)
  else ((decV (s.dropWhile (· == 48)) : Int), decide ((decV (s.dropWhile (· == 48)) : Int) ≤ 2147483647))
structure Rng where
  at_ : Int
  count : Int
  two : Bool
def S3 (r : Rng) (n : Int) : Bool := decide (n = r.count) || (!r.two && decide (n = 0))
def spanS (before behind : Ln) (r : List Ln) : Ln × Bool := if (cutF (nowF r).1 before).2 = true then V9 (cutF (nowF r).1 before).1 behind else cutF (nowF r).1 before
def spanL (s : Ln) : Ln := if (cut1F s 44).2.2 = true then (cut1F s 44).2.1 else (cut1F s 44).1
def spanR (before behind : Ln) (r : List Ln) : Option Rng :=
  if (spanS before behind r).2 = true ∧ (numC (cut1F (spanS before behind r).1 44).1).2 = true ∧ (numC (spanL (spanS before behind r).1)).2 = true ∧ ¬ (numC (spanL (spanS before behind r).1)).1 < (numC (cut1F (spanS before behind r).1 44).1).1 then
    some ⟨(numC (cut1F (spanS before behind r).1 44).1).1, (numC (spanL (spanS before behind r).1)).1 - (numC (cut1F (spanS before behind r).1 44).1).1 + 1, (cut1F (spanS before behind r).1 44).2.2⟩
  else none
structure Mkd where
  m : UInt8
  t : Ln
def T6 (l : List Mkd) : List Mkd := match l.getLast? with
  | none => l
  | some x => l.dropLast ++ [⟨x.m, bareB x.t⟩]
def rowC (kind : UInt8) (l : Ln) : Option Mkd := match bareB l with
  | a :: b :: _ => if b = 32 ∧ (a = 32 ∨ a = kind ∨ a = 33) then some ⟨a, l.drop 2⟩ else none
  | _ => none
def partC (kind : UInt8) (most : Int) : List Ln → List Mkd → Bool → List Mkd × List Ln
  | [], out, _ => (out, [])
  | l :: r, out, bare =>
    if Lib.hasPrefix (bareB l) [92] = true then (if out = [] ∨ bare = true then (out, l :: r) else partC kind most r (T6 out) true)
    else if (out.length : Int) < most then match rowC kind l with
      | some x => partC kind most r (out ++ [x]) false
      | none => (out, l :: r)
    else (out, l :: r)
def ctxM (l : List Mkd) : List Mkd := l.filter (fun x => x.m == 32)
def onlyM (l : List Mkd) (m : UInt8) : Bool := l.all (fun x => x.m == m) && !l.isEmpty
def tkM (l : List Mkd) : List Mkd := l.takeWhile (fun x => !(x.m == 32))
def tdM (l : List Mkd) : List Mkd := l.dropWhile (fun x => !(x.m == 32))
def runOK (g c : List Mkd) : Bool := (g.isEmpty && c.isEmpty) || (c.isEmpty && onlyM g 45) || (g.isEmpty && onlyM c 43) || (onlyM g 33 && onlyM c 33)
def U0 (g c : List Mkd) : List Row := g.map (fun x => ⟨2, x.t⟩) ++ c.map (fun x => ⟨3, x.t⟩)
def togL : Nat → List Mkd → List Mkd → List Row → Option (List Row)
  | 0, _, _, _ => none
  | n + 1, old, fresh, out =>
    if runOK (tkM old) (tkM fresh) = true then
      match tdM old, tdM fresh with
      | [], [] => some (out ++ U0 (tkM old) (tkM fresh))
      | a :: o, b :: f => if a.t = b.t then togL n o f ((out ++ U0 (tkM old) (tkM fresh)) ++ [⟨1, a.t⟩]) else none
      | _, _ => none
    else none
def togF (old fresh : List Mkd) : Option (List Row) :=
  if old = [] ∧ fresh = [] then none
  else if old = [] then togL (fresh.length + 1) (ctxM fresh) fresh []
  else if fresh = [] then togL (old.length + 1) old (ctxM old) []
  else togL (old.length + 1) old fresh []
end Go.Sv
end
