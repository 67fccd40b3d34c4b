/- A row from which the last parts are taken: what is left is a row of its own (the variable alone speaks of it). -/
import Derived.Test.YtimmjplgogpglaaDoorSvQ
set_option linter.unusedVariables false
set_option maxRecDepth 100000
namespace Go.Sv
open Go Go.RowKit
theorem EWeak.pop {C : Ctx} {n : Nat} {env env' : Env} {σ : Store} {t id es ver k : Nat} {xs : List PV} (ho : σ[id]? = some (.arr es xs false)) (hv : xs.length = ver) (hne : xs ≠ []) (ht : getE env t = .arr id ver 0 k) (he : env' = putE env t (.arr σ.length k 0 k)) :
    EWeak C n env σ env' (σ.set id .gone ++ [.arr es (xs.take k) false]) := by
  intro hn m K w vs hB hE
  have hlt := (List.getElem?_eq_some_iff.1 ho).1
  obtain ⟨hver, hoo⟩ := hB.obj id _ ho
  rcases hoo with ⟨e0, _⟩ | ⟨b, cap, arr, ty, fr, hm, hh, h1, h2, h3, h4, h5, h6, h7⟩
  · exact absurd e0 hne
  have hE0 := hE t
  rw [ht] at hE0
  revert hE0
  generalize hg : vs.getD t undef = x0
  intro hE0
  have hpos : 0 < xs.length := List.length_pos_iff.2 hne
  have hk : k ≤ ver ∧ ∃ c a, x0 = .slice a k c ∧ c = cap ∧ (c = 0 ∨ a = some ⟨b, 0, none⟩) := by
    cases hE0 with
    | arr _ _ _ _ b' cap' es' c a h hc hl hv' ha =>
      rw [← hv, hm] at h
      cases h
      exact ⟨by omega, c, a, rfl, by omega, by simpa using ha⟩
    | arrNil _ _ => omega
  obtain ⟨hk, c0, a0, hx0, hc0, ha0⟩ := hk
  rw [← hv] at hk
  have hnone : ∀ v, m σ.length v = none := fun v => by
    cases h : m σ.length v with
    | none => rfl
    | some l => exact absurd (hB.dom _ _ _ h) (Nat.lt_irrefl _)
  have hB1 := hB.away hlt
  have hl1 : (σ.set id SObj.gone).length = σ.length := List.length_set ..
  have hx : ∀ i v l, m i v = some l → setMp m σ.length k (.at b cap es) i v = some l := setMp_new (hnone k)
  have hlk : (xs.take k).length = k := by rw [List.length_take, Nat.min_eq_left hk]
  refine ⟨setMp m σ.length k (.at b cap es), K, hB1.step σ.length (.arr es (xs.take k) false) (fun i x h => ?_) (by simp) (by simp) hx (fun i h => setMp_other _ _ _ _ _ h) hB.below (fun _ _ _ _ => rfl) (fun _ _ _ _ _ _ => rfl) ?_ ?_ ?_, fun u => ?_, Ext.le ⟨hx, fun _ _ _ h => h⟩ n, by simp; omega⟩
  · have := get_append_new h
    rwa [hl1] at this
  · refine ⟨fun ver l h => ?_, .inr ⟨b, cap, arr, ty, fr, by rw [hlk]; exact setMp_same _ _ _ _, hh, by omega, h2, h3, fun x hx => h4 x (List.mem_of_mem_take hx), fun j p v hp hv => h5 j p v (flat_take_get hp) hv, fun j g1 g2 => h6 j (by simp) g2, fun j v hK => ?_⟩⟩
    · unfold setMp at h
      split at h
      · rename_i e; rw [hlk]; exact Nat.le_of_eq e.2
      · rw [hnone] at h; cases h
    · exact absurd (h7 j v hK).1 (by decide)
  · intro c hc
    simp only [blk, hlk, setMp_same, Loc.blk, List.mem_singleton] at hc
    subst hc
    exact hB.base id _ c ho (by simp [blk, hm, Loc.blk])
  · intro c hc i x hne' hi hcx
    simp only [blk, hlk, setMp_same, Loc.blk, List.mem_singleton] at hc
    subst hc
    by_cases e : i = id
    · subst e
      rw [List.getElem?_set_self hlt] at hi
      cases hi
      simp [blk] at hcx
    · rw [List.getElem?_set_ne (Ne.symm e)] at hi
      exact e (hB.apart i x id _ c hi ho hcx (by simp [blk, hm, Loc.blk]))
  · subst he
    rw [getE_putE]
    have hext : Ext m K (setMp m σ.length k (.at b cap es)) K := ⟨hx, fun _ _ _ h => h⟩
    split
    · rename_i e; subst e
      rw [hg, hx0]
      exact .arr σ.length k 0 k b cap es c0 a0 (setMp_same _ _ _ _) (by omega) (by omega) (by omega) (by simpa using ha0)
    · exact (hE u).mono hext
theorem EWeak.shift {C : Ctx} (hC : ∀ g a, C.glob g = some a → AV.under 0 a = true) {n : Nat} {env env' : Env} {σ τ : Store} {t id k es ver len : Nat} {xs : List PV} (hn : n ≤ k) (hk : k ≤ id) (ho : σ[id]? = some (.arr es xs false)) (hv : xs.length = ver) (hpos : 0 < ver) (ht : getE env t = .arr id ver 0 len) (hτ : τ = σ.take k) (hu : storeUnder k τ = true) (he : envUnder k (putE env t .dead) = true) (he' : env' = putE env t (.arr k ver 0 len)) :
    EWeak C n env σ env' (τ ++ [.arr es xs false]) := by
  intro _ m K w vs hB hE
  have hlt := (List.getElem?_eq_some_iff.1 ho).1
  have hc := hB.cut hτ (by omega) hu (fun g a hga => under_mono (Nat.zero_le _) a (hC g a hga))
  have hlen : τ.length = k := by rw [hτ, List.length_take]; omega
  obtain ⟨hver, hoo⟩ := hB.obj id _ ho
  rcases hoo with ⟨e0, _⟩ | ⟨b, cap, arr, ty, fr, hm, hh, h1, h2, h3, h4, h5, h6, h7⟩
  · rw [e0] at hv; simp at hv; omega
  have hnone : ∀ v, cutMp m k k v = none := fun v => by simp [cutMp]
  have hx : ∀ i v l, cutMp m k i v = some l → setMp (cutMp m k) k ver (.at b cap es) i v = some l := setMp_new (hnone ver)
  have hext : Ext (cutMp m k) K (setMp (cutMp m k) k ver (.at b cap es)) K := ⟨hx, fun _ _ _ h => h⟩
  refine ⟨setMp (cutMp m k) k ver (.at b cap es), K, hc.step k (.arr es xs false) (fun i x h => ?_) (by simp) (by simp; omega) hx (fun i h => setMp_other _ _ _ _ _ h) hB.below (fun _ _ _ _ => rfl) (fun _ _ _ _ _ _ => rfl) ?_ ?_ ?_, fun u => ?_, ((cut_le m K k).less hn).trans (hext.le n), by simp; omega⟩
  · have := get_append_new h
    rwa [hlen] at this
  · refine ⟨fun v l h => ?_, .inr ⟨b, cap, arr, ty, fr, by rw [hv]; exact setMp_same _ _ _ _, hh, h1, h2, h3, h4, h5, h6, h7⟩⟩
    unfold setMp at h
    split at h
    · rename_i e; rw [hv]; exact Nat.le_of_eq e.2
    · rw [hnone] at h; cases h
  · intro c hcb
    simp only [blk, hv, setMp_same, Loc.blk, List.mem_singleton] at hcb
    subst hcb
    exact hB.base id _ c ho (by simp [blk, hm, Loc.blk])
  · intro c hcb i x hne hi hcx
    simp only [blk, hv, setMp_same, Loc.blk, List.mem_singleton] at hcb
    subst hcb
    have hik : i < k := by
      have := (List.getElem?_eq_some_iff.1 hi).1
      omega
    have hsi : σ[i]? = some x := by
      rw [hτ, List.getElem?_take, if_pos hik] at hi
      exact hi
    have hmi : cutMp m k i = m i := by funext v; simp [cutMp, hik]
    have hbx : blk (cutMp m k) i x = blk m i x := by
      cases x <;> simp [blk, hmi]
    rw [hbx] at hcx
    have := hB.apart i x id _ c hsi ho hcx (by simp [blk, hm, Loc.blk])
    omega
  · subst he'
    rw [getE_putE]
    split
    · rename_i e; subst e
      have hE0 := hE t
      rw [ht] at hE0
      revert hE0
      generalize vs.getD t undef = x0
      intro hE0
      cases hE0 with
      | arr _ _ _ _ b' cap' es' c a h hc' hl hv' ha =>
        rw [← hv, hm] at h
        cases h
        exact .arr k ver 0 len b cap es c a (setMp_same _ _ _ _) hc' hl hv' ha
      | arrNil _ _ => omega
    · rename_i hne
      have hun := envUnder_get he u
      rw [getE_putE, if_neg hne] at hun
      exact ((hE u).cut hun).mono hext
end Go.Sv
