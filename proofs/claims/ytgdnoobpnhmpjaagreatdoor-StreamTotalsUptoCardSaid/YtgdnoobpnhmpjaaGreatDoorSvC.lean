/- A variable's part that is nil, taken as an empty row; a row that is written no more, handed on for good; a call alone that answers one of several values. -/
import Derived.Test.YtgdnoobpnhmpjaaGreatDoorSvV
import Derived.Test.YtgdnoobpnhmpjaaGreatDoorSvW
set_option linter.unusedVariables false
set_option maxRecDepth 100000
namespace Go.Sv
attribute [local semireducible] SCalls
open Go Go.RowKit
theorem Bears.recell {C : Ctx} {m : Mp} {K : KS} {σ : Store} {w : World} (hB : Bears C m K σ w) {id : Nat} {ty : TypeId} {cs cs' : List AV} (ho : σ[id]? = some (.cells ty cs)) (hl : cs'.length = cs.length)
    (hr : ∀ (j : Nat) a a' v, cs[j]? = some a → cs'[j]? = some a' → ARep m K a v → ARep m K a' v) : Bears C m K (σ.set id (.cells ty cs')) w := by
  have hlt := (List.getElem?_eq_some_iff.1 ho).1
  have hget : ∀ (i : Nat) x, (σ.set id (.cells ty cs'))[i]? = some x → (i = id ∧ x = .cells ty cs') ∨ (i ≠ id ∧ σ[i]? = some x) := by
    intro i x h
    by_cases e : i = id
    · subst e
      rw [List.getElem?_set_self hlt] at h
      cases h; exact .inl ⟨rfl, rfl⟩
    · rw [List.getElem?_set_ne (Ne.symm e)] at h
      exact .inr ⟨e, h⟩
  have hold : ∀ (i : Nat) x, (σ.set id (.cells ty cs'))[i]? = some x → ∃ y, σ[i]? = some y ∧ blk m i x = blk m i y := by
    intro i x h
    rcases hget i x h with ⟨rfl, rfl⟩ | ⟨_, h⟩
    · exact ⟨_, ho, rfl⟩
    · exact ⟨x, h, rfl⟩
  refine ⟨hB.below, hB.keep, fun i ver l h => ?_, fun i x h => ?_, fun i x b h hb => ?_, fun i x i' x' b h h' hb hb' => ?_, hB.glob, hB.old⟩
  · rw [List.length_set]; exact hB.dom i ver l h
  · rcases hget i x h with ⟨rfl, rfl⟩ | ⟨_, h⟩
    · obtain ⟨b, cap, es, arr, hm, hh, hsz, hcr, hk⟩ := hB.obj i _ ho
      refine ⟨b, cap, es, arr, hm, hh, by rw [hl]; exact hsz, fun j a v ha hv => ?_, hk⟩
      have hjl : j < cs.length := by
        have := (List.getElem?_eq_some_iff.1 ha).1
        omega
      have := hcr j _ v (List.getElem?_eq_getElem hjl) hv
      exact ⟨hr j _ a v (List.getElem?_eq_getElem hjl) ha this.1, this.2⟩
    · exact hB.obj i x h
  · obtain ⟨y, hy, e⟩ := hold i x h
    rw [e] at hb
    exact hB.base i y b hy hb
  · obtain ⟨y, hy, e⟩ := hold i x h
    obtain ⟨y', hy', e'⟩ := hold i' x' h'
    rw [e] at hb
    rw [e'] at hb'
    exact hB.apart i y i' y' b hy hy' hb hb'
theorem EWeak.cellNil {C : Ctx} {n : Nat} {env : Env} {σ : Store} {id es : Nat} {ty : TypeId} {pre post : List AV} (ho : σ[id]? = some (.cells ty (pre ++ .nilsl :: post))) :
    EWeak C n env σ env (σ.set id (.cells ty (pre ++ .arr σ.length 0 0 0 :: post)) ++ [.arr es [] false]) := by
  intro hn m K w vs hB hE
  obtain ⟨m', hB', hx, hm⟩ := hB.arrNil es
  have hlt := (List.getElem?_eq_some_iff.1 ho).1
  have ho' : (σ ++ [SObj.arr es [] false])[id]? = some (.cells ty (pre ++ .nilsl :: post)) := by rw [List.getElem?_append_left hlt]; exact ho
  have := hB'.recell ho' (cs' := pre ++ .arr σ.length 0 0 0 :: post) (by simp) (fun j a a' v ha ha' hr => by
    by_cases h1 : j < pre.length
    · rw [List.getElem?_append_left h1] at ha ha'
      rw [ha] at ha'; cases ha'; exact hr
    · rw [List.getElem?_append_right (by omega)] at ha ha'
      cases h2 : j - pre.length with
      | zero =>
        rw [h2] at ha ha'
        simp only [List.getElem?_cons_zero, Option.some.injEq] at ha ha'
        subst ha; subst ha'
        cases hr
        exact .arrNil _ hm
      | succ k =>
        rw [h2] at ha ha'
        simp only [List.getElem?_cons_succ] at ha ha'
        rw [ha] at ha'; cases ha'; exact hr)
  rw [List.set_append_left _ _ hlt] at this
  exact ⟨m', K, this, fun t => (hE t).mono hx, hx.le n, by simp; omega⟩
end Go.Sv
