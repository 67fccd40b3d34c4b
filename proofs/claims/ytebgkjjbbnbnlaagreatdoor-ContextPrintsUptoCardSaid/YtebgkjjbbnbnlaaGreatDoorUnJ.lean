/- Names in quotes, read: as plain lists; what is quoted is read as it was. -/
import Derived.Test.YtebgkjjbbnbnlaaGreatDoorUnI
set_option linter.unusedVariables false
set_option linter.unusedSimpArgs false
set_option maxRecDepth 100000
namespace Go.Sv
def meantT (k : Nat) : Option Nat := match k with
  | 97 => some 7 | 98 => some 8 | 116 => some 9 | 110 => some 10 | 118 => some 11 | 102 => some 12 | 114 => some 13 | 34 => some 34 | 92 => some 92 | _ => none
def octV (a b c : Nat) : Option Nat := if 48 ≤ a ∧ a ≤ 51 ∧ 48 ≤ b ∧ b ≤ 55 ∧ 48 ≤ c ∧ c ≤ 55 then some ((a - 48) * 64 + (b - 48) * 8 + (c - 48)) else none
def octF : List UInt8 → Option Nat
  | a :: b :: c :: _ => octV a.toNat b.toNat c.toNat
  | _ => none
def uqL : Nat → List UInt8 → List UInt8 → Option (List UInt8 × List UInt8)
  | 0, _, _ => none
  | _ + 1, [], _ => none
  | n + 1, c :: r, acc =>
    if c = 34 then some (acc, r) else if c = 10 then none else if c ≠ 92 then uqL n r (acc ++ [c]) else
    match r with
    | [] => none
    | d :: r1 => match meantT d.toNat with
      | some m => uqL n r1 (acc ++ [UInt8.ofNat m])
      | none => match octF (d :: r1) with
        | some v => uqL n ((d :: r1).drop 3) (acc ++ [UInt8.ofNat v])
        | none => none
def nameEnd : List UInt8 → Nat
  | [] => 0
  | c :: r => if c = 9 ∨ c = 10 then 0 else nameEnd r + 1
def unqF (s : List UInt8) : Option (List UInt8 × List UInt8) := match s with
  | 34 :: r => uqL (r.length + 1) r []
  | s => some (s.take (nameEnd s), s.drop (nameEnd s))
theorem nameEnd_le : ∀ s : List UInt8, nameEnd s ≤ s.length
  | [] => Nat.le_refl _
  | c :: r => by
    have := nameEnd_le r
    unfold nameEnd
    split
    · omega
    · simp only [List.length_cons]; omega
def escOK (k : Nat) : Bool :=
  if letN k ≠ 0 then meantT (letN k) == some k
  else if k < 32 ∨ 127 ≤ k then meantT (48 + k / 64) == none && octV (48 + k / 64) (48 + k / 8 % 8) (48 + k % 8) == some k
  else k != 34 && k != 10 && k != 92
theorem escOK_all : (List.range 256).all escOK = true := by decide +kernel
theorem escOK_at {k : Nat} (h : k < 256) : escOK k = true := List.all_eq_true.1 escOK_all k (List.mem_range.2 h)
theorem letN_lt (k : Nat) : letN k < 256 := by unfold letN; split <;> omega
theorem uq_esc (c : UInt8) (n : Nat) (X acc : List UInt8) : uqL (n + 1) (esc c ++ X) acc = uqL n X (acc ++ [c]) := by
  have hc := c.toNat_lt
  have hok := escOK_at hc
  unfold escOK at hok
  have hto : UInt8.ofNat c.toNat = c := by simp
  have key : ∀ m : Nat, m < 256 → (UInt8.ofNat m).toNat = m := fun m h => UInt8.toNat_ofNat_of_lt' h
  show uqL (n + 1) (escN c.toNat ++ X) acc = _
  unfold escN
  split at hok
  · rename_i h
    rw [if_pos h]
    have hm : meantT (letN c.toNat) = some c.toNat := by simpa using hok
    simp only [List.cons_append, List.nil_append]
    rw [uqL, if_neg (by decide), if_neg (by decide), if_neg (by decide)]
    simp only [key _ (letN_lt _), hm, hto]
  · rename_i h
    rw [if_neg h]
    split at hok
    · rename_i h2
      rw [if_pos h2]
      simp only [Bool.and_eq_true, beq_iff_eq] at hok
      unfold octN
      simp only [List.cons_append, List.nil_append]
      rw [uqL, if_neg (by decide), if_neg (by decide), if_neg (by decide)]
      simp only [key (48 + c.toNat / 64) (by omega), hok.1, octF, key (48 + c.toNat / 8 % 8) (by omega), key (48 + c.toNat % 8) (by omega), hok.2, hto]
      rfl
    · rename_i h2
      rw [if_neg h2]
      simp only [Bool.and_eq_true, bne_iff_ne, ne_eq] at hok
      have e1 : c ≠ 34 := fun e => hok.1.1 (by subst e; rfl)
      have e2 : c ≠ 10 := fun e => hok.1.2 (by subst e; rfl)
      have e3 : c ≠ 92 := fun e => hok.2 (by subst e; rfl)
      simp only [List.cons_append, List.nil_append, hto]
      conv => lhs; rw [uqL.eq_def]
      simp only [e1, e2, e3, if_false, if_true, ne_eq, not_false_eq_true]
theorem esc_pos (c : UInt8) : 1 ≤ (esc c).length := by
  show 1 ≤ (escN c.toNat).length
  unfold escN octN
  repeat' split
  all_goals simp
theorem uq_all : ∀ (p : List UInt8) (n : Nat) (rest acc : List UInt8), p.length < n → uqL n (p.flatMap esc ++ 34 :: rest) acc = some (acc ++ p, rest)
  | [], n, rest, acc, h => by
    cases n with
    | zero => simp at h
    | succ n => simp [uqL]
  | c :: p, n, rest, acc, h => by
    cases n with
    | zero => simp at h
    | succ n =>
      rw [List.flatMap_cons, List.append_assoc, uq_esc, uq_all p n rest _ (by simpa using h)]
      simp
theorem flatMap_esc_len : ∀ p : List UInt8, p.length ≤ (p.flatMap esc).length
  | [] => by simp
  | c :: p => by
    have := flatMap_esc_len p
    have := esc_pos c
    simp only [List.flatMap_cons, List.length_append, List.length_cons]
    omega
theorem badB_false {c : UInt8} (h : badB c = false) : 33 ≤ c.toNat ∧ c.toNat < 127 ∧ c ≠ 34 ∧ c ≠ 92 := by
  simp only [badB, Bool.or_eq_false_iff, decide_eq_false_iff_not, beq_eq_false_iff_ne, ne_eq] at h
  obtain ⟨h1, h2, h3, h4⟩ := h
  refine ⟨by omega, by omega, fun e => h3 (by subst e; rfl), fun e => h4 (by subst e; rfl)⟩
theorem nameEnd_plain : ∀ (p rest : List UInt8), (∀ c ∈ p, badB c = false) → (rest = [] ∨ ∃ r, rest = 9 :: r) → nameEnd (p ++ rest) = p.length
  | [], rest, _, h => by
    rcases h with rfl | ⟨r, rfl⟩
    · rfl
    · simp [nameEnd]
  | c :: p, rest, hp, h => by
    obtain ⟨h1, h2, _⟩ := badB_false (hp c (by simp))
    have : ¬ (c = 9 ∨ c = 10) := by
      rintro (e | e) <;> subst e <;> simp at h1
    rw [List.cons_append, nameEnd, if_neg this, nameEnd_plain p rest (fun x hx => hp x (List.mem_cons_of_mem _ hx)) h]
    rfl
theorem unq_quote {p rest : List UInt8} (h : rest = [] ∨ ∃ r, rest = 9 :: r) : unqF (quoteF p ++ rest) = some (p, rest) := by
  unfold quoteF
  split
  · have e : [34] ++ p.flatMap esc ++ [34] ++ rest = 34 :: (p.flatMap esc ++ 34 :: rest) := by simp
    rw [e]
    show uqL _ _ [] = _
    rw [uq_all p _ rest [] (by have := flatMap_esc_len p; simp only [List.length_append, List.length_cons]; omega)]
    rfl
  · rename_i hn
    simp only [needsF, Bool.or_eq_true, not_or, Bool.not_eq_true, List.any_eq_false] at hn
    have hp : ∀ c ∈ p, badB c = false := fun c hc => by simpa using hn.2 c hc
    have hne : p ≠ [] := fun e => by subst e; simp at hn
    cases p with
    | nil => exact absurd rfl hne
    | cons c r =>
      have hc := (badB_false (hp c (by simp))).2.2.1
      have e := nameEnd_plain (c :: r) rest hp h
      have hu : unqF (c :: r ++ rest) = some ((c :: r ++ rest).take (nameEnd (c :: r ++ rest)), (c :: r ++ rest).drop (nameEnd (c :: r ++ rest))) := by
        unfold unqF
        split
        · rename_i r' he
          simp only [List.cons_append, List.cons.injEq] at he
          exact absurd he.1 hc
        · rfl
      rw [hu, e]
      simp
theorem quote_no10 {p : List UInt8} : ∀ c ∈ quoteF p, c ≠ 10 := by
  intro c hc
  unfold quoteF at hc
  split at hc
  · simp only [List.mem_append, List.mem_singleton, List.mem_flatMap] at hc
    rcases hc with (rfl | ⟨d, _, hd⟩) | rfl
    · decide
    · have hlt := d.toNat_lt
      have hok := escOK_at hlt
      unfold escOK at hok
      have : c ∈ escN d.toNat := hd
      unfold escN octN at this
      split at hok
      · rename_i h
        rw [if_pos h] at this
        simp only [List.mem_cons, List.not_mem_nil, or_false] at this
        rcases this with rfl | rfl
        · decide
        · intro e
          have e2 : letN d.toNat = 10 := by
            have := congrArg UInt8.toNat e
            rwa [UInt8.toNat_ofNat_of_lt' (letN_lt _)] at this
          rw [e2] at hok
          simp [meantT] at hok
      · rename_i h
        rw [if_neg h] at this
        split at hok
        · rename_i h2
          rw [if_pos h2] at this
          have key : ∀ m : Nat, 48 ≤ m → m < 256 → UInt8.ofNat m ≠ 10 := fun m h1 h2 e => by
            have := congrArg UInt8.toNat e
            rw [UInt8.toNat_ofNat_of_lt' h2] at this
            have h10 : UInt8.toNat 10 = 10 := rfl
            omega
          simp only [List.mem_cons, List.not_mem_nil, or_false] at this
          rcases this with rfl | rfl | rfl | rfl
          · decide
          · exact key _ (by omega) (by omega)
          · exact key _ (by omega) (by omega)
          · exact key _ (by omega) (by omega)
        · rename_i h2
          rw [if_neg h2] at this
          simp only [List.mem_cons, List.not_mem_nil, or_false] at this
          simp only [Bool.and_eq_true, bne_iff_ne, ne_eq] at hok
          rw [this]
          intro e
          have := congrArg UInt8.toNat e
          rw [UInt8.toNat_ofNat_of_lt' hlt] at this
          exact hok.1.2 this
    · decide
  · rename_i hn
    simp only [needsF, Bool.or_eq_true, not_or, Bool.not_eq_true, List.any_eq_false] at hn
    have := (badB_false (by simpa using hn.2 c hc)).1
    intro e; subst e; simp at this
end Go.Sv
