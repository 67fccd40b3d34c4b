/- The computed run, where the answers of some functions are handed out for good. -/
import Derived.Test.YtimmjplgogpglaaDoorSvW
set_option linter.unusedVariables false
set_option linter.unusedSimpArgs false
set_option maxRecDepth 100000
namespace Go.Sv
open Go Go.RowKit
def rEndS (b : Bool) (n : Nat) (r : AV) (σ : Store) : AV × Store := match b with
  | false => rEnd n r σ
  | true => match storeUnder n (σ.take n) with
    | true => match sealR n σ r with
      | some r' => (r', σ.take n)
      | none => rEnd n r σ
    | false => rEnd n r σ
theorem rEndS_in {C : Ctx} (hC : ∀ g a, C.glob g = some a → AV.under 0 a = true) {b : Bool} {n : Nat} {r : AV} {σ : Store} {R : AV → Store → Prop} (hn : n ≤ σ.length) (h : R (rEndS b n r σ).1 (rEndS b n r σ).2) : FinK C n r σ R := by
  unfold rEndS at h
  split at h
  · exact rEnd_in hC hn h
  · split at h
    · rename_i h2
      split at h
      · rename_i r' hr
        exact FinK.sealed hC rfl hn h2 hr h
      · exact rEnd_in hC hn h
    · exact rEnd_in hC hn h
def rcallS (S : FuncId → Bool) (C : Ctx) (T : FuncId → Option FE) (prim : Caller) (depth : Nat) : Nat → Caller
  | 0, _, _, _ => none
  | fuel + 1, f, args, σ => match prim f args σ with
    | some r => some r
    | none => match T f with
      | none => none
      | some x => match Nat.ble args.length x.fn.ntmps with
        | false => none
        | true => match rcode C (rcallS S C T prim depth fuel) x.fn.ntmps x.L depth x.c 0 (argsE 0 args) σ with
          | some (e, env, σ') => match e with
            | .ret | .normal => match rRes C env σ' x.fn.results.toList, Nat.ble σ.length σ'.length with
              | some vs, true => some (rEndS (S f) σ.length (one vs) σ')
              | _, _ => none
            | _ => none
          | none => none
theorem rcallS_in {S : FuncId → Bool} {C : Ctx} (hC : CtxOK C) (hG : ∀ g a, C.glob g = some a → AV.under 0 a = true) {T : FuncId → Option FE} (hT : ∀ f x, T f = some x → FOK C f x) {prim : Caller} (hp : CallerOK C prim) {depth : Nat} : ∀ fuel : Nat, CallerOK C (rcallS S C T prim depth fuel)
  | 0 => fun f args σ r σ' h => by cases h
  | fuel + 1 => fun f args σ r σ' h R hR => by
    unfold rcallS at h
    split at h
    · rename_i q hq
      cases h
      exact hp _ _ _ _ _ hq R hR
    · split at h
      · cases h
      · rename_i x hx
        split at h
        · cases h
        · rename_i hn
          obtain ⟨h1, h2, h3⟩ := hT f x hx
          split at h
          · rename_i e env σ1 hrun
            refine SCalls.enter hC h1 h2 h3 hn (L := x.L) (rcode_in hC (rcallS_in hC hG hT hp fuel) depth x.c 0 _ _ _ _ _ _ hrun ?_)
            have fin : (match rRes C env σ1 x.fn.results.toList, Nat.ble σ.length σ1.length with
              | some vs, true => some (rEndS (S f) σ.length (one vs) σ1)
              | _, _ => none) = some (r, σ') → aRes C env σ1 x.fn.results.toList fun vs => FinK C σ.length (one vs) σ1 R := by
              intro h
              split at h
              · rename_i vs hvs hle
                simp only [Option.some.injEq] at h
                refine rRes_in _ vs _ hvs (rEndS_in hG (b := S f) (Nat.le_of_ble_eq_true hle) ?_)
                rw [h]
                exact hR
              · cases h
            cases e with
            | ret => exact fin h
            | normal => exact fin h
            | exit _ => cases h
            | _ => cases h
          · cases h
theorem run_callsS {S : FuncId → Bool} {w0 : Base} (L : Laid w0.w) {T : List (FuncId × FE)} (hT : FEsOK (cx w0) T) {depth fuel : Nat} {f : FuncId} {args : List AV} {σ : Store} {r : AV} {σ' : Store} (h : rcallS S (cx w0) (feTab T) (primOf prims) depth fuel f args σ = some (r, σ')) {R : AV → Store → Prop} (hR : R r σ') : SCalls (cx w0) f args σ R :=
  rcallS_in (cxOK w0) (cxG w0) (feTab_ok T hT) (primOf_ok prims (prims_ok L)) fuel f args σ r σ' h R hR
end Go.Sv
