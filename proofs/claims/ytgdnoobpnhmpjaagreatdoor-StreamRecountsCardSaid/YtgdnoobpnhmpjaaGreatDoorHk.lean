/- Hunks and their rows, as plain data: what the code asks of them, on both sides. The document's answer for hunks (selvageref10.Valid and what it calls): what it answers. The program's hunks.Valid and what it calls: what it answers. -/
import Derived.Test.YtgdnoobpnhmpjaaGreatDoorSvV
import Derived.Lib.Strings
import Derived.Lib.IndexAny
import Derived.Test.YtgdnoobpnhmpjaaGreatDoorFnH
import Derived.Test.YtgdnoobpnhmpjaaGreatDoorFnG
set_option linter.unusedVariables false
set_option linter.unusedSimpArgs false
set_option maxRecDepth 100000
namespace Go.Sv
section
open Go Go.RowKit
def wholeB (s : List UInt8) : Bool := match s.getLast? with
  | some c => c == 10
  | none => false
def bareB (s : List UInt8) : List UInt8 := if wholeB s = true then s.dropLast else s
theorem suffix_whole (s : List UInt8) : Lib.hasSuffix s [10] = wholeB s := by
  rcases List.eq_nil_or_concat s with rfl | ⟨p, c, rfl⟩
  · rfl
  · simp only [Lib.hasSuffix, List.concat_eq_append, wholeB, List.getLast?_append, List.getLast?_singleton, Option.some_or]
    rw [Bool.eq_iff_iff, List.isSuffixOf_iff_suffix, beq_iff_eq]
    constructor
    · rintro ⟨t, h⟩
      have := List.append_inj' h rfl
      exact (List.cons.inj this.2).1.symm
    · rintro rfl; exact ⟨p, rfl⟩
theorem trim_bare (s : List UInt8) : Lib.trimSuffix s [10] = bareB s := by
  unfold Lib.trimSuffix bareB
  rw [suffix_whole]
  split
  · rw [List.dropLast_eq_take]; rfl
  · rfl
end
section
open Go Go.RowKit Go.Proofs
theorem toNat_ten (c : UInt8) : ((c.toNat : Int) = 10) ↔ c = 10 := by
  constructor
  · intro h
    have h' : c.toNat = (10 : UInt8).toNat := by simpa using (by omega : c.toNat = 10)
    exact UInt8.toNat_inj.1 h'
  · rintro rfl; rfl
section
variable {w0 : Base} {σ : Store} {R : AV → Store → Prop}
theorem rwhole_spec {s : List UInt8} (hs : s.length ≤ 140737488355328) (hR : R (.pv (.bool (wholeB s))) σ) : SCalls (cx w0) selvageref01_Whole.id [.pv (.str s)] σ R := by
  have fin : ∀ t, t = wholeB s → selvageref01_Whole.n4 (selvageref01_Whole.X w0 σ.length) w0 σ.length R σ t := by
    rintro t rfl
    refine selvageref01_Whole.n4_in ?_
    rw [selvageref01_Whole.b4_eq]
    exact fin_same hR
  refine selvageref01_Whole.calls ?_
  rw [selvageref01_Whole.b0_eq, condB_decide]
  refine ite_split (fun h => ?_) (fun h => fin _ ?_)
  · have hp : 0 < s.length := by omega
    rw [wrap_i64 (by omega) (by omega), show ((s.length : Int) - 1) = ((s.length - 1 : Nat) : Int) by omega]
    have hl : s[s.length - 1]? = some (s.getLast (List.length_pos_iff.1 hp)) := by
      rw [List.getLast_eq_getElem]; exact List.getElem?_eq_getElem _
    refine opt_in (idx_str hl) (isI_in (fin _ ?_))
    unfold wholeB
    rw [List.getLast?_eq_some_getLast (List.length_pos_iff.1 hp)]
    rw [Bool.eq_iff_iff, beq_iff_eq, beq_iff_eq]
    exact toNat_ten _
  · have : s = [] := List.length_eq_zero_iff.1 (by omega)
    subst this; rfl
end
end
section
open Go Go.RowKit Go.Proofs
section
variable {w0 : Base} {σ : Store} {R : AV → Store → Prop}
theorem bare_spec {s : List UInt8} (hs : s.length ≤ 140737488355328) (hR : R (.pv (.str (bareB s))) σ) : SCalls (cx w0) lines_Bare.id [.pv (.str s)] σ R := by
  refine lines_Bare.calls ?_
  rw [lines_Bare.b0_eq]
  refine TrimSuffix_spec (by omega) (isS_in ?_)
  rw [trim_bare]
  exact fin_same hR
end
end
end Go.Sv
