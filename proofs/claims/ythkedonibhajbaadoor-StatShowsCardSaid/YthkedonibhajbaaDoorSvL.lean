/- Operations one behind the other, calls and pieces of code over stores: what the executor says is true of the model (regions that draw aside). No program stands in this text. -/
import Derived.Test.YthkedonibhajbaaDoorSvK
set_option linter.unusedVariables false
set_option linter.unusedSimpArgs false
namespace Go.Sv
open Go Go.RowKit

/-! ### Stores do not shrink -/
theorem set_len {α : Type} (l : List α) (i : Nat) (x : α) : l.length ≤ (l.set i x).length := by simp
theorem aAppend_len {σ : Store} {ei : TI} {s x r : AV} {σ' : Store} (h : aAppend σ ei s x = some (r, σ')) : σ.length ≤ σ'.length := by
  unfold aAppend at h
  split at h
  · cases h
  · split at h
    · split at h
      · split at h
        · cases h; exact Nat.le_refl _
        · split at h
          · cases h; simp
          · cases h
      · split at h
        · split at h
          · cases h; simp
          · cases h
        · cases h
      · cases h
    · cases h
theorem aCopy_len {σ : Store} {ei : TI} {s x r : AV} {σ' : Store} (h : aCopy σ ei s x = some (r, σ')) : σ.length ≤ σ'.length := by
  unfold aCopy at h
  split at h
  · cases h
  · split at h
    · split at h
      · split at h
        · cases h; simp
        · cases h
      · cases h
    · cases h
theorem aMakeSlice_len {σ : Store} {ei : TI} {n c : Int} {r : AV} {σ' : Store} (h : aMakeSlice σ ei n c = some (r, σ')) : σ.length ≤ σ'.length := by
  unfold aMakeSlice at h
  split at h
  · split at h
    · cases h; simp
    · cases h
  · cases h
theorem aBuildSlice_len {σ : Store} {ei : TI} {own : Bool} {len : Nat} {l : List (Nat × AV)} {r : AV} {σ' : Store} (h : aBuildSlice σ ei own len l = some (r, σ')) : σ.length ≤ σ'.length := by
  unfold aBuildSlice at h
  split at h
  · cases h
  · split at h
    · cases h
    · split at h
      · split at h
        · cases h; simp
        · cases h; exact Nat.le_refl _
      · cases h
theorem aConvert_len {σ : Store} {tab : TypeId → Option TI} {s d : TD} {x r : AV} {σ' : Store} (h : aConvert σ tab s d x = some (r, σ')) : σ.length ≤ σ'.length := by
  unfold aConvert at h
  split at h
  · cases h; exact Nat.le_refl _
  · cases h; exact Nat.le_refl _
  · split at h
    · split at h
      · split at h
        · cases h; simp
        · cases h
      · cases h
    · cases h
  · split at h
    · split at h
      · obtain ⟨s, _, e⟩ := Option.map_eq_some_iff.1 h
        cases e; exact Nat.le_refl _
      · cases h; exact Nat.le_refl _
      · split at h
        · obtain ⟨s, _, e⟩ := Option.map_eq_some_iff.1 h
          cases e; exact Nat.le_refl _
        · cases h
      · cases h
    · cases h
  · cases h
theorem aStore_len {σ : Store} {ti : TI} {a v : AV} {σ' : Store} (h : aStore σ ti a v = some σ') : σ.length ≤ σ'.length := by
  unfold aStore at h
  simp only at h
  split at h
  · split at h
    · split at h
      · split at h
        · cases h; simp
        · cases h
      · cases h
    · split at h
      · split at h
        · split at h
          · split at h
            · cases h; simp
            · cases h
          · split at h
            · split at h
              · cases h; simp
              · cases h
            · cases h
          · cases h
        · cases h
      · cases h
    · cases h
  · cases h
theorem opt_mono {α : Type} {x : Option α} {k k' : α → Prop} (h : opt x k) (hk : ∀ v, x = some v → k v → k' v) : opt x k' := by
  cases x with
  | none => exact h.elim
  | some v => exact hk v rfl h
theorem opt2_mono {x : Option (AV × Store)} {k k' : AV → Store → Prop} (h : opt2 x k) (hk : ∀ v σ, x = some (v, σ) → k v σ → k' v σ) : opt2 x k' := by
  cases x with
  | none => exact h.elim
  | some p => exact hk p.1 p.2 rfl h
theorem isB_mono {a : AV} {k k' : Bool → Prop} (h : isB a k) (hk : ∀ b, k b → k' b) : isB a k' := by
  unfold isB at *
  split at h
  · exact hk _ h
  · exact h.elim
theorem isI_mono {kd : IntKind} {a : AV} {k k' : Int → Prop} (h : isI kd a k) (hk : ∀ b, k b → k' b) : isI kd a k' := by
  unfold isI at *
  split at h
  · split at h
    · rename_i e; rw [if_pos e]; exact hk _ h
    · exact h.elim
  · exact h.elim
theorem isTup_mono {a : AV} {k k' : List AV → Prop} (h : isTup a k) (hk : ∀ b, k b → k' b) : isTup a k' := by
  unfold isTup at *
  split at h
  · exact hk _ h
  · exact h.elim
theorem aBinK_mono {tab : TypeId → Option TI} {t : TypeId} {lit : Bool} {op : BinOp} {x y : AV} {k k' : AV → Prop} (h : aBinK tab t lit op x y k) (hk : ∀ v, k v → k' v) : aBinK tab t lit op x y k' := by
  unfold aBinK at *
  split at h
  · cases op
    case shl => exact ⟨h.1, hk _ h.2⟩
    case shr => exact ⟨h.1, hk _ h.2⟩
    all_goals
      simp only at h ⊢
      split at h
      · rename_i e
        rw [if_pos e]
        first
          | exact h.elim
          | exact hk _ h
          | exact ⟨h.1, hk _ h.2⟩
      · exact h.elim
  · cases op
    case add => exact ⟨h.1, hk _ h.2⟩
    all_goals first | exact h.elim | exact hk _ h
  · unfold aEqK at *
    cases op <;> first | exact h.elim | exact opt_mono h fun _ _ h => opt_mono h fun _ _ h => hk _ h
/-- Under what an operation answers, more may be told of it: its store does not shrink. -/
theorem aopK_mono {C : Ctx} {o : Oper} {e : Operand → AV} {σ : Store} {k k' : AV → Store → Prop} (h : aopK C o e σ k) (hk : ∀ v σ', k v σ' → σ.length ≤ σ'.length → k' v σ') : aopK C o e σ k' := by
  have hk0 : ∀ v, k v σ → k' v σ := fun v h => hk v σ h (Nat.le_refl _)
  unfold aopK at *
  split at h
  case h_1 => exact hk0 _ h
  case h_2 => exact hk0 _ h
  case h_3 => exact isB_mono h fun b h => by cases b <;> exact hk0 _ h
  case h_4 => exact opt_mono h fun ti _ h => hk _ _ h (by simp)
  case h_5 => exact ⟨h.1, hk _ _ h.2 (by simp)⟩
  case h_6 => exact opt_mono h fun ti _ h => opt_mono h fun v _ h => hk0 _ h
  case h_7 =>
    refine opt_mono h fun ti _ h => ?_
    split at h
    · exact opt_mono h fun ei _ h => opt2_mono h fun v σ' e h => hk _ _ h (aBuildSlice_len e)
    · exact h.elim
  case h_8 => exact opt_mono h fun ti _ h => opt_mono h fun v _ h => hk0 _ h
  case h_9 => exact opt_mono h fun ti _ h => opt_mono h fun σ' e h => hk _ _ h (aStore_len e)
  case h_10 => exact opt_mono h fun v _ h => hk0 _ h
  case h_11 => exact aBinK_mono h fun v h => hk0 _ h
  case h_12 => exact opt_mono h fun v _ h => hk0 _ h
  case h_13 => exact opt_mono h fun s _ h => opt_mono h fun d _ h => opt2_mono h fun v σ' e h => hk _ _ h (aConvert_len e)
  case h_14 =>
    refine opt_mono h fun ti _ h => ?_
    split at h
    · exact h.elim
    · exact opt_mono h fun v _ h => hk0 _ h
  case h_15 => exact hk0 _ h
  case h_16 =>
    refine opt_mono h fun ti _ h => ?_
    split at h
    · exact opt_mono h fun ei _ h => isI_mono h fun n h => isI_mono h fun c h => opt2_mono h fun v σ' e h => hk _ _ h (aMakeSlice_len e)
    · exact h.elim
  case h_17 => exact opt_mono h fun ti _ h => opt_mono h fun v _ h => hk0 _ h
  case h_18 => exact opt_mono h fun ti _ h => opt_mono h fun v _ h => hk0 _ h
  case h_19 => exact opt_mono h fun ti _ h => opt_mono h fun v _ h => hk0 _ h
  case h_20 =>
    refine opt_mono h fun ti _ h => ?_
    split at h
    · exact opt_mono h fun v _ h => hk0 _ h
    · exact h.elim
  case h_21 =>
    refine opt_mono h fun ti _ h => ?_
    split at h
    · exact opt_mono h fun v _ h => hk0 _ h
    · exact h.elim
  case h_22 => exact opt_mono h fun v _ h => hk0 _ h
  case h_23 => exact isTup_mono h fun vs h => opt_mono h fun v _ h => hk0 _ h
  case h_24 => exact opt_mono h fun _ _ h => opt_mono h fun _ _ h => opt_mono h fun _ _ h => opt_mono h fun v _ h => hk0 _ h
  case h_25 =>
    split at h
    · refine opt_mono h fun _ _ h => opt_mono h fun _ _ h => ?_
      split at h
      · exact h.elim
      · split at h
        · exact opt_mono h fun _ _ h => opt2_mono h fun v σ' e h => hk _ _ h (aAppend_len e)
        · exact h.elim
    · exact h.elim
  case h_26 =>
    split at h
    · refine opt_mono h fun _ _ h => ?_
      split at h
      · exact opt_mono h fun _ _ h => opt2_mono h fun v σ' e h => hk _ _ h (aCopy_len e)
      · exact h.elim
    · exact h.elim
  case h_27 =>
    split at h
    · exact opt_mono h fun v _ h => hk0 _ h
    · exact h.elim
  case h_28 =>
    split at h
    · exact opt_mono h fun v _ h => hk0 _ h
    · exact h.elim
  case h_29 => exact h.elim

end Go.Sv
