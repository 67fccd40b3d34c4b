/- Names in quotes: what both sides answer. -/
import Derived.Test.YtebgkjjbbnbnlaaGreatDoorFnE
import Derived.Test.YtebgkjjbbnbnlaaGreatDoorSvV
import Derived.KernelRfl
set_option linter.unusedVariables false
set_option linter.unusedSimpArgs false
set_option maxRecDepth 100000
namespace Go.Sv
open Go Go.RowKit Go.Proofs
def letN (k : Nat) : Nat := match k with
  | 7 => 97 | 8 => 98 | 9 => 116 | 10 => 110 | 11 => 118 | 12 => 102 | 13 => 114 | 34 => 34 | 92 => 92 | _ => 0
def octN (k : Nat) : List UInt8 := [92, UInt8.ofNat (48 + k / 64), UInt8.ofNat (48 + k / 8 % 8), UInt8.ofNat (48 + k % 8)]
def escN (k : Nat) : List UInt8 := if letN k ≠ 0 then [92, UInt8.ofNat (letN k)] else if k < 32 ∨ 127 ≤ k then octN k else [UInt8.ofNat k]
def esc (c : UInt8) : List UInt8 := escN c.toNat
def badB (c : UInt8) : Bool := decide ((c.toNat : Int) < 33) || (decide ((c.toNat : Int) ≥ 127) || (((c.toNat : Int) == 34) || ((c.toNat : Int) == 92)))
def needsF (s : List UInt8) : Bool := s == [] || s.any badB
def quoteF (s : List UInt8) : List UInt8 := if needsF s = true then [34] ++ s.flatMap esc ++ [34] else s
noncomputable def feE : List (FuncId × FE) := [(quote_letter.id, quote_letter.fe), (selvageref02_escape.id, selvageref02_escape.fe)]
theorem feE_ok (w0 : Base) : FEsOK (cx w0) feE := ⟨quote_letter.ok w0, selvageref02_escape.ok w0, trivial⟩
theorem letter_run (w0 : Base) : (List.range 256).map (fun k => rcall (cx w0) (feTab feE) (primOf prims) 1000 20 quote_letter.id [.pv (.int .u8 (Int.ofNat k))] []) = (List.range 256).map (fun k => some (.tup [.pv (.int .u8 (Int.ofNat (letN k))), .pv (.bool (!Nat.beq (letN k) 0))], [])) := by kernel_rfl
theorem escape_run (w0 : Base) : (List.range 256).map (fun k => rcall (cx w0) (feTab feE) (primOf prims) 1000 20 selvageref02_escape.id [.pv (.int .u8 (Int.ofNat k))] []) = (List.range 256).map (fun k => some (.pv (.str (escN k)), [])) := by kernel_rfl
theorem range_get {β : Type} {f g : Nat → β} {n : Nat} (h : (List.range n).map f = (List.range n).map g) {k : Nat} (hk : k < n) : f k = g k := by
  have := congrArg (fun l => l[k]?) h
  simpa [hk] using this
theorem oct_run : (List.range 256).map (fun k => [IntKind.wrap .u8 (48 + (Int.fdiv (Int.ofNat k) (2 ^ (min (6 : Int).toNat (IntKind.bits .u8))))), IntKind.wrap .u8 (48 + (IntKind.wrap .u8 (BitVec.ofInt (IntKind.bits .u8) (Int.fdiv (Int.ofNat k) (2 ^ (min (3 : Int).toNat (IntKind.bits .u8)))) &&& BitVec.ofInt (IntKind.bits .u8) 7).toNat)), IntKind.wrap .u8 (48 + (IntKind.wrap .u8 (BitVec.ofInt (IntKind.bits .u8) (Int.ofNat k) &&& BitVec.ofInt (IntKind.bits .u8) 7).toNat))]) =
    (List.range 256).map (fun k => [Int.ofNat (48 + k / 64), Int.ofNat (48 + k / 8 % 8), Int.ofNat (48 + k % 8)]) := by decide +kernel
end Go.Sv
