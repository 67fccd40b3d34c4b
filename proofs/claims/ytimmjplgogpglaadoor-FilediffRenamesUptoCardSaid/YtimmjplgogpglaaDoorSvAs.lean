/- errors.As at an error that is an api.Errno, into a variable of that type (after the guide's worked example ToyasAs). DERIVED: THE SHELF's CONTRACTS AT THIS DUMP, IN PLAIN WORDS (tools/lay-plain.mjs out of 'TrydShelf.lean', which tools/lay-shelf.mjs wrote): THE SAME DECLARATIONS UNDER THE SAME NAMES: 'import', 'namespace', 'open', 'def', 'theorem' AND NOTHING ELSE: no command of the shelf's: FOR A HAND-IN. Each laying: the table of numbers ('.._ren') and one theorem, a field a fact of the dump's own or the kernel's comparison; each contract: ONE APPLICATION. The library's functions as calls over stores, at this seat's numbers; and what a computed run does at them. -/
import Derived.Test.YtimmjplgogpglaaDoorSvQ
import Derived.Test.YtimmjplgogpglaaDoorProg
import Derived.WalkKit
import Derived.LaidEql
import Derived.Stop.Asserts
import Derived.RowKitTokens
import Derived.Shelf.Small.Utf8
import Derived.Shelf.Small.Strs
import Derived.Shelf.Strings.Search1
import Derived.Shelf.Strings.Prefix
import Derived.Test.YtimmjplgogpglaaDoorSvT
import Derived.Lib.AppendIntMem
import Derived.Shelf.SlSorted.Search
set_option linter.unusedVariables false
set_option linter.unusedSimpArgs false
set_option maxRecDepth 100000
section
namespace Go.Sv
open Go Go.RowKit Go.Extern.Stop Go.Stop Go.Extern Go.Proofs
theorem as_vP (t : Addr) (w : World) : (ReflectliteValue.unpack (.iface 52 (.pointer (some t)))).run Tryd.prog w
    = .ok (.agg #[.pointer (some ⟨4, 52, none⟩), .pointer (some ⟨w.heap.size, 0, none⟩), .int .u64 150]) (w.alloc (.cells #[.pointer (some t)] 52)) := by kernel_rfl
theorem as_tP (a : Addr) (w : World) : (ReflectliteValue.methodAny (ReflectliteValue.valueError "reflectlite.Value.Type" 0) (fun t _ _ _ => ReflectliteType.toType t) #[.agg #[.pointer (some ⟨4, 52, none⟩), .pointer (some a), .int .u64 150]]).run Tryd.prog w
    = .ok (.iface 86 (.agg #[.pointer (some ⟨4, 52, none⟩)])) w := by kernel_rfl
theorem as_mKind (h : Value) (w : World) : (Go.method 260 86 (.agg #[h]) "Kind").run Tryd.prog w = .ok (80, h) w := by kernel_rfl
theorem as_kP (w : World) : ((ReflectliteType.abiMethod fun t => (fun a : Nat => Value.int IntKind.u8 (a : Int)) <$> Rtype.kind t) #[.pointer (some ⟨4, 52, none⟩)]).run Tryd.prog w = .ok (.int .u8 22) w := by kernel_rfl
theorem as_kE (w : World) : ((ReflectliteType.abiMethod fun t => (fun a : Nat => Value.int IntKind.u8 (a : Int)) <$> Rtype.kind t) #[.pointer (some ⟨4, 42, none⟩)]).run Tryd.prog w = .ok (.int .u8 2) w := by kernel_rfl
theorem as_rlm (z : Sem Value) (f : TypeId → Addr → Nat → Nat → Sem Value) (v : Value) :
    ReflectliteValue.method z f #[v] = (do match ← ReflectliteValue.parts v with | none => z | some (t, a, fl) => f t a fl (fl % 32)) := rfl
theorem as_pP (a : Addr) (w : World) : (ReflectliteValue.parts (.agg #[.pointer (some ⟨4, 52, none⟩), .pointer (some a), .int .u64 150])).run Tryd.prog w = .ok (some (52, a, 150)) w := by kernel_rfl
theorem as_nP (a p : Addr) (W : World) (ha : W.cell? a = some (.pointer (some p))) :
    (ReflectliteValue.method (ReflectliteValue.valueError "reflectlite.Value.IsNil" 0) ReflectliteValue.isNil #[.agg #[.pointer (some ⟨4, 52, none⟩), .pointer (some a), .int .u64 150]]).run Tryd.prog W = .ok (.bool false) W := by
  rw [as_rlm]
  simp only [Sem.run_bind, as_pP, Result.andThen]
  simp [ReflectliteValue.isNil, loadVar, isAgg, underlying, Tryd.underlying52, ha, Result.andThen]
theorem as_mElem (h : Value) (w : World) : (Go.method 260 86 (.agg #[h]) "Elem").run Tryd.prog w = .ok (90, .agg #[h]) w := by kernel_rfl
theorem as_mImpl (h : Value) (w : World) : (Go.method 260 86 (.agg #[h]) "Implements").run Tryd.prog w = .ok (91, .agg #[h]) w := by kernel_rfl
theorem as_mAssign (h : Value) (w : World) : (Go.method 260 86 (.agg #[h]) "AssignableTo").run Tryd.prog w = .ok (88, .agg #[h]) w := by kernel_rfl
theorem as_eP (w : World) : (ReflectliteType.method ReflectliteType.elem #[.agg #[.pointer (some ⟨4, 52, none⟩)]]).run Tryd.prog w = .ok (.iface 86 (.agg #[.pointer (some ⟨4, 42, none⟩)])) w := by kernel_rfl
theorem as_iE (w : World) : (ReflectliteType.relation "Implements" ReflectliteType.implements_ #[.agg #[.pointer (some ⟨4, 42, none⟩)], .iface 86 (.agg #[.pointer (some ⟨4, 23, none⟩)])]).run Tryd.prog w = .ok (.bool true) w := by kernel_rfl
theorem as_tE (v : Value) (w : World) : (ReflectliteType.typeOf #[.iface 42 v]).run Tryd.prog w = .ok (.iface 86 (.agg #[.pointer (some ⟨4, 42, none⟩)])) w := by kernel_rfl
theorem as_aE (w : World) : (ReflectliteType.relation "AssignableTo" ReflectliteType.assignableTo #[.agg #[.pointer (some ⟨4, 42, none⟩)], .iface 86 (.agg #[.pointer (some ⟨4, 42, none⟩)])]).run Tryd.prog w = .ok (.bool true) w := by kernel_rfl
theorem as_vE (n : Int) (w : World) : (ReflectliteValue.unpack (.iface 42 (.int .i64 n))).run Tryd.prog w
    = .ok (.agg #[.pointer (some ⟨4, 42, none⟩), .pointer (some ⟨w.heap.size, 0, none⟩), .int .u64 130]) (w.alloc (.cells #[.int .i64 n] 42)) := by kernel_rfl
theorem as_elP (w : World) : (Rtype.elem? 52).run Tryd.prog w = .ok (some 42) w := by kernel_rfl
theorem as_mkE (p : Addr) (w : World) : (ReflectliteValue.mk 42 p ReflectliteValue.flagAddr).run Tryd.prog w = .ok (.agg #[.pointer (some ⟨4, 42, none⟩), .pointer (some p), .int .u64 386]) w := by kernel_rfl
theorem as_elV (a p : Addr) (W : World) (ha : W.cell? a = some (.pointer (some p))) :
    (ReflectliteValue.method (ReflectliteValue.valueError "reflectlite.Value.Elem" 0) ReflectliteValue.elem #[.agg #[.pointer (some ⟨4, 52, none⟩), .pointer (some a), .int .u64 150]]).run Tryd.prog W
      = .ok (.agg #[.pointer (some ⟨4, 42, none⟩), .pointer (some p), .int .u64 386]) W := by
  rw [as_rlm]
  simp only [Sem.run_bind, as_pP, Result.andThen]
  simp [ReflectliteValue.elem, loadVar, isAgg, underlying, Tryd.underlying52, ha, Result.andThen, as_elP, as_mkE]
theorem as_rls (v x : Value) : ReflectliteValue.set #[v, x] = (do
    let (some (dst, a, fl), some (src, b, _)) := (← ReflectliteValue.parts v, ← ReflectliteValue.parts x)
      | unsupported (.noEntry "extern/(internal/reflectlite.Value).Set.zeroValue")
    if fl / ReflectliteValue.flagAddr % 2 == 0 then unsupported (.noEntry "extern/(internal/reflectlite.Value).Set.unaddressable")
    let val ← loadVar src b
    if ← Rtype.directlyAssignable dst src then storeVar dst a val
    else if ← Rtype.implements dst src then
      if (← Rtype.kind src) == 20 then
        match val with
        | .nilIface => unsupported (.noEntry "extern/reflectlite: a nil value of one interface type handed on as a value of another")
        | _ => storeVar dst a val
      else storeVar dst a (.iface src val)
    else panicString ("reflectlite.Set: value of type " ++ (← Rtype.spelt src) ++ " is not assignable to type " ++ (← Rtype.spelt dst))
    pure (.tuple #[])) := rfl
theorem as_pEa (a : Addr) (w : World) : (ReflectliteValue.parts (.agg #[.pointer (some ⟨4, 42, none⟩), .pointer (some a), .int .u64 386])).run Tryd.prog w = .ok (some (42, a, 386)) w := by kernel_rfl
theorem as_pE (a : Addr) (w : World) : (ReflectliteValue.parts (.agg #[.pointer (some ⟨4, 42, none⟩), .pointer (some a), .int .u64 130])).run Tryd.prog w = .ok (some (42, a, 130)) w := by kernel_rfl
theorem as_dE (w : World) : (Rtype.directlyAssignable 42 42).run Tryd.prog w = .ok true w := by kernel_rfl
theorem as_set (ta b : Addr) (n : Int) (old : Value) (W : World) (hb : W.cell? b = some (.int .i64 n)) (ht : W.cell? ta = some old) (hf : W.frozen? ta = false) :
    (ReflectliteValue.set #[.agg #[.pointer (some ⟨4, 42, none⟩), .pointer (some ta), .int .u64 386], .agg #[.pointer (some ⟨4, 42, none⟩), .pointer (some b), .int .u64 130]]).run Tryd.prog W
      = .ok (.tuple #[]) (W.setCell ta (.int .i64 n)) := by
  rw [as_rls]
  simp only [Sem.run_bind, as_pEa, as_pE, Result.andThen]
  simp [ReflectliteValue.flagAddr, loadVar, isAgg, underlying, Tryd.underlying42, hb, Result.andThen, as_dE, storeVar, Value.cells, storeCells, Addr.add]
  rw [run_store Tryd.prog W ta _ _ (by rfl)]
  simp [ht, hf]
set_option maxHeartbeats 4000000 in
set_option maxRecDepth 100000 in
theorem as_hit (n : Int) (t : Addr) (old : Value) (w : World) (hg : w.cell? ⟨0, 0, none⟩ = some (.iface 86 (.agg #[.pointer (some ⟨4, 23, none⟩)]))) (ht0 : w.cell? t = some old) (hf0 : w.frozen? t = false) :
    Calls Tryd.prog 17 #[.iface 42 (.int .i64 n), .iface 52 (.pointer (some t))] w fun ev w' => ev = .returned (.bool true) ∧ w' = ((((w.alloc (.cells #[.pointer (some t)] 52)).alloc (.cells #[.pointer (some ⟨4, 52, none⟩), .pointer (some ⟨w.heap.size, 0, none⟩), .int .u64 150] 68)).alloc (.cells #[.pointer (some ⟨4, 52, none⟩), .pointer (some ⟨w.heap.size, 0, none⟩), .int .u64 150] 68)).alloc (.cells #[.int .i64 n] 42)).setCell t (.int .i64 n) := by
  have h6 := @run_callFunc_extern Tryd.prog 25 _ (fun args => ReflectliteValue.unpack (args.getD 0 (.tuple #[]))) Tryd.func25 (by kernel_rfl) (by kernel_rfl) (by kernel_rfl) (by kernel_rfl)
  have h7 := @run_callFunc_extern Tryd.prog 26 _ (ReflectliteValue.methodAny (ReflectliteValue.valueError "reflectlite.Value.Type" 0) (fun t _ _ _ => ReflectliteType.toType t)) Tryd.func26 (by kernel_rfl) (by kernel_rfl) (by kernel_rfl) (by kernel_rfl)
  have h8 := @run_callFunc_extern Tryd.prog 27 _ (ReflectliteValue.method (ReflectliteValue.valueError "reflectlite.Value.IsNil" 0) ReflectliteValue.isNil) Tryd.func27 (by kernel_rfl) (by kernel_rfl) (by kernel_rfl) (by kernel_rfl)
  have h27 := @run_callFunc_extern Tryd.prog 80 _ (ReflectliteType.abiMethod fun t => do pure (.int .u8 (← Rtype.kind t))) Tryd.func80 (by kernel_rfl) (by kernel_rfl) (by kernel_rfl) (by kernel_rfl)
  have h37 := @run_callFunc_extern Tryd.prog 90 _ (ReflectliteType.method ReflectliteType.elem) Tryd.func90 (by kernel_rfl) (by kernel_rfl) (by kernel_rfl) (by kernel_rfl)
  have h38 := @run_callFunc_extern Tryd.prog 91 _ (ReflectliteType.relation "Implements" ReflectliteType.implements_) Tryd.func91 (by kernel_rfl) (by kernel_rfl) (by kernel_rfl) (by kernel_rfl)
  have h10 := @run_callFunc_extern Tryd.prog 39 _ ReflectliteType.typeOf Tryd.func39 (by kernel_rfl) (by kernel_rfl) (by kernel_rfl) (by kernel_rfl)
  have h35 := @run_callFunc_extern Tryd.prog 88 _ (ReflectliteType.relation "AssignableTo" ReflectliteType.assignableTo) Tryd.func88 (by kernel_rfl) (by kernel_rfl) (by kernel_rfl) (by kernel_rfl)
  have h11 := @run_callFunc_extern Tryd.prog 40 _ (ReflectliteValue.method (ReflectliteValue.valueError "reflectlite.Value.Elem" 0) ReflectliteValue.elem) Tryd.func40 (by kernel_rfl) (by kernel_rfl) (by kernel_rfl) (by kernel_rfl)
  have h12 := @run_callFunc_extern Tryd.prog 41 _ ReflectliteValue.set Tryd.func41 (by kernel_rfl) (by kernel_rfl) (by kernel_rfl) (by kernel_rfl)
  have tO := as_tE
  have mA := as_mAssign
  have a25 := as_aE
  have v25 := as_vE
  have f6 := as_vP
  have f7 := as_tP
  have mK := as_mKind
  have mE := as_mElem
  have mI := as_mImpl
  have k27 := as_kP
  have k25 := as_kE
  have e27 := as_eP
  have i25 := as_iE
  have n8 := as_nP ⟨w.heap.size, 0, none⟩ t ((w.alloc (.cells #[.pointer (some t)] 52)).alloc (.cells #[.pointer (some ⟨4, 52, none⟩), .pointer (some ⟨w.heap.size, 0, none⟩), .int .u64 150] 68)) (by simp)
  have hlt : 0 < w.heap.size := by
    rcases Nat.lt_or_ge 0 w.heap.size with h | h
    · exact h
    · simp [World.cell?, Array.getElem?_eq_none h] at hg
  have hg2 : ((w.alloc (.cells #[.pointer (some t)] 52)).alloc (.cells #[.pointer (some ⟨4, 52, none⟩), .pointer (some ⟨w.heap.size, 0, none⟩), .int .u64 150] 68)).cell? ⟨0, 0, none⟩ = some (.iface 86 (.agg #[.pointer (some ⟨4, 23, none⟩)])) := by
    rw [World.cell?_alloc_lt _ _ ⟨0, 0, none⟩ (by simp <;> omega), World.cell?_alloc_lt _ _ ⟨0, 0, none⟩ hlt]; exact hg
  have htl : t.block < w.heap.size := by
    rcases Nat.lt_or_ge t.block w.heap.size with h | h
    · exact h
    · simp [World.cell?, Array.getElem?_eq_none h] at ht0
  have el := as_elV ⟨w.heap.size, 0, none⟩ t (((w.alloc (.cells #[.pointer (some t)] 52)).alloc (.cells #[.pointer (some ⟨4, 52, none⟩), .pointer (some ⟨w.heap.size, 0, none⟩), .int .u64 150] 68)).alloc (.cells #[.pointer (some ⟨4, 52, none⟩), .pointer (some ⟨w.heap.size, 0, none⟩), .int .u64 150] 68)) (by rw [World.cell?_alloc_lt _ _ ⟨w.heap.size, 0, none⟩ (by simp; omega)]; simp)
  have st := as_set t ⟨w.heap.size + 1 + 1 + 1, 0, none⟩ n old ((((w.alloc (.cells #[.pointer (some t)] 52)).alloc (.cells #[.pointer (some ⟨4, 52, none⟩), .pointer (some ⟨w.heap.size, 0, none⟩), .int .u64 150] 68)).alloc (.cells #[.pointer (some ⟨4, 52, none⟩), .pointer (some ⟨w.heap.size, 0, none⟩), .int .u64 150] 68)).alloc (.cells #[.int .i64 n] 42))
    (by rw [World.cell?_alloc_at _ _ _ _ (by simp)]; rfl)
    (by rw [World.cell?_alloc_lt _ _ t (by simp; omega), World.cell?_alloc_lt _ _ t (by simp; omega), World.cell?_alloc_lt _ _ t (by simp; omega), World.cell?_alloc_lt _ _ t htl]; exact ht0)
    (by rw [World.frozen?_alloc_old _ _ t (by simp; omega), World.frozen?_alloc_old _ _ t (by simp; omega), World.frozen?_alloc_old _ _ t (by simp; omega), World.frozen?_alloc_old _ _ t (Nat.ne_of_lt htl)]; exact hf0)
  go_enter Tryd.func17, Tryd.ntmps17
  go_wp2
  refine wp_loop_rounds 1 ?_
  rw [rounds_succ]
  go_wp2
  go_ret
  exact ⟨rfl, rfl⟩
end Go.Sv
end
section
namespace Go.Proofs
open Go.Shelf
def Tryd.lays102_ren : Go.Shelf.Ren := ⟨fun | 102 => 42 | 209 => 51 | 207 => 57 | n => n, fun | 9 => 9 | 4 => 4 | 3 => 3 | n => n, fun | n => n⟩
theorem Tryd.lays102 : Go.Proofs.Lays.n102 Tryd.prog Tryd.lays102_ren := {
  mixed := by kernel_rfl
  f102 := Tryd.func42.trans (congrArg some (by kernel_rfl))
  f207 := Tryd.func57.trans (congrArg some (by kernel_rfl))
  f209 := Tryd.func51.trans (congrArg some (by kernel_rfl))
  t3 := Tryd.underlying3
  a3 := Tryd.isAgg3
  z3 := Tryd.sizeOf3
  v3 := Tryd.zeroValue3
  t4 := Tryd.underlying4
  a4 := Tryd.isAgg4
  z4 := Tryd.sizeOf4
  v4 := Tryd.zeroValue4
  t9 := Tryd.underlying9
  a9 := Tryd.isAgg9
  z9 := Tryd.sizeOf9
  v9 := Tryd.zeroValue9 }
open Go.RowKit Go.Lib in
theorem Tryd.strings_TrimSuffix (s p : ByteArray) (w : World) (hs : s.size ≤ 9223372036854775807) :
    Calls Tryd.prog 42 #[.string s, .string p] w fun e w' => e = .returned (.string ⟨(Lib.trimSuffix s.data.toList p.data.toList).toArray⟩) ∧ w' = w := Any.strings_TrimSuffix Tryd.lays102 s p w hs
def Tryd.lays137_ren : Go.Shelf.Ren := ⟨fun | 137 => 22 | 217 => 34 | 266 => 47 | n => n, fun | 9 => 9 | 5 => 5 | 3 => 3 | n => n, fun | n => n⟩
theorem Tryd.lays137 : Go.Proofs.Lays.n137 Tryd.prog Tryd.lays137_ren := {
  mixed := by kernel_rfl
  f137 := Tryd.func22.trans (congrArg some (by kernel_rfl))
  f217 := Tryd.func34.trans (congrArg some (by kernel_rfl))
  f266 := Tryd.func47.trans (congrArg some (by kernel_rfl))
  t3 := Tryd.underlying3
  a3 := Tryd.isAgg3
  z3 := Tryd.sizeOf3
  v3 := Tryd.zeroValue3
  t5 := Tryd.underlying5
  a5 := Tryd.isAgg5
  z5 := Tryd.sizeOf5
  v5 := Tryd.zeroValue5
  t9 := Tryd.underlying9
  a9 := Tryd.isAgg9
  z9 := Tryd.sizeOf9
  v9 := Tryd.zeroValue9 }
open Go.RowKit in
theorem Tryd.strings_IndexByte (s : ByteArray) (c : Int) (w : World) :
    Calls Tryd.prog 22 #[.string s, .int .u8 c] w fun e w' => e = .returned (.int .i64 (Lib.indexByte s.data.toList c.toNat.toUInt8)) ∧ w' = w := Any.strings_IndexByte Tryd.lays137 s c w
end Go.Proofs
end
section
namespace Go.Sv
open Go Go.RowKit Go.Shelf Go.Proofs
structure Laid (w0 : World) : Prop where
  errT : w0.cell? ⟨0, 0, none⟩ = some (.iface 86 (.agg #[.pointer (some ⟨4, 23, none⟩)]))
theorem enters {f : FuncId} {fn : Func} (hf : Tryd.prog.funcs[f]? = some fn) (hn : (fn.name == "runtime.NumGoroutine") = false) (hb : fn.body = some (bodyOf fn)) : ∀ (vs : Array Value) (w : World), (callFunc f vs).run Tryd.prog w = .ok (.enter f vs) w :=
  fun vs w => callFunc_enter hf hn hb vs w
section
variable {w0 : Base} {σ : Store} {R : AV → Store → Prop} {id : Nat} {s t : List UInt8}
theorem SCalls.same {f : FuncId} {args : List AV} (hc : ∀ vs w, (callFunc f vs).run Tryd.prog w = .ok (.enter f vs) w) {r : AV} (hR : R r σ)
    (h : ∀ m K w vs, Bears (cx w0) m K σ w → Reps m K args vs → ∃ v, ARep m K r v ∧ Calls Tryd.prog f vs w fun e w' => e = .returned v ∧ w' = w) : SCalls (cx w0) f args σ R :=
  SCalls.below (C := cx w0) hc fun m K w vs hB hv => by
    obtain ⟨v, hr, hcl⟩ := h m K w vs hB hv
    exact hcl.mono fun e w' ⟨he, hw⟩ => ⟨v, r, he, by rw [hw]; exact Below.refl _ _, hr, hR⟩
theorem TrimSuffix_spec (hs : s.length ≤ 9223372036854775807) (hR : R (.pv (.str (Lib.trimSuffix s t))) σ) : SCalls (cx w0) strings_TrimSuffix.id [.pv (.str s), .pv (.str t)] σ R :=
  SCalls.same (enters Tryd.func42 (by kernel_rfl) (by kernel_rfl)) hR fun m K w vs hB hv => by
    obtain ⟨x, y, rfl, hx, hy⟩ := hv.two
    obtain rfl := hx.str_inv
    obtain rfl := hy.str_inv
    exact ⟨_, .pv _ _ (.str _), Tryd.strings_TrimSuffix ⟨s.toArray⟩ ⟨t.toArray⟩ w (by simpa [ByteArray.size] using hs)⟩
theorem IndexByte_spec {c : UInt8} (hR : R (.pv (.int .i64 (Lib.indexByte s c))) σ) : SCalls (cx w0) strings_IndexByte.id [.pv (.str s), .pv (.int .u8 c.toNat)] σ R :=
  SCalls.same (enters Tryd.func22 (by kernel_rfl) (by kernel_rfl)) hR fun m K w vs hB hv => by
    obtain ⟨x, y, rfl, hx, hy⟩ := hv.two
    obtain rfl := hx.str_inv
    obtain rfl := hy.int_inv
    have := Tryd.strings_IndexByte ⟨s.toArray⟩ (c.toNat : Int) w
    rw [show ((c.toNat : Int)).toNat.toUInt8 = c by simp] at this
    exact ⟨_, .pv _ _ (.int _ _), this⟩
theorem As_spec (L : Laid w0.w) {n : Int} {ty : TypeId} {old : AV} (ho : σ[id]? = some (.cells ty [old])) (hR : R (.pv (.bool true)) (σ.set id (.cells ty [.int n]))) :
    SCalls (cx w0) errors_As.id [.pv (.iface 42 (.int .i64 n)), .iface 52 (.ptr id 0)] σ R := by
  intro m K w vs hB hv
  obtain ⟨x, y, rfl, hx, hy⟩ := hv.two
  have hx' : x = .iface 42 (.int .i64 n) := by
    cases hx with | pv p v hp => cases hp with | iface t p v h => cases h; rfl
  subst hx'
  obtain ⟨z, rfl, hz⟩ : ∃ z, y = .iface 52 z ∧ ARep m K (.ptr id 0) z := by
    cases hy with | iface t p v h => exact ⟨v, rfl, h⟩
  obtain ⟨b, cap, es, rfl, hm⟩ := hz.ptr_inv
  obtain ⟨b', cap', es', arr, hm', hh, hl, hr, hk⟩ := hB.obj id _ ho
  rw [hm] at hm'; cases hm'
  obtain ⟨u, hu⟩ : ∃ u, arr[0]? = some u := ⟨arr[0]'(by simp at hl; omega), Array.getElem?_eq_getElem _⟩
  have h0 : w.cell? ⟨b, 0, none⟩ = some u := by rw [cell_heap w b 0 hh, hu]
  have hf : w.frozen? ⟨b, 0, none⟩ = false := by rw [frozen_heap w b 0 hh]; simp
  have hg : w.cell? ⟨0, 0, none⟩ = some (.iface 86 (.agg #[.pointer (some ⟨4, 23, none⟩)])) := by
    have hlt : 0 < w0.w.heap.size := by
      obtain ⟨cs, t, fr, hb, _⟩ := heap_of_cell L.errT
      exact (Array.getElem?_eq_some_iff.1 hb).1
    rw [hB.below.cell (p := ⟨0, 0, none⟩) hlt]
    exact L.errT
  refine CallNext.of_calls (enters Tryd.func17 (by kernel_rfl) (by kernel_rfl) _ w) ((as_hit n ⟨b, 0, none⟩ u w hg h0 hf).mono ?_)
  rintro e w' ⟨rfl, rfl⟩
  have hbig : ∀ {w1 : World} (o : Obj), Bears (cx w0) m K σ w1 → Bears (cx w0) m K σ (w1.alloc o) := fun o h => h.grown ((Below.refl _ _).alloc (Nat.le_refl _) o)
  have hB4 := hbig (.cells #[.int .i64 n] 42) (hbig (.cells #[.pointer (some ⟨4, 52, none⟩), .pointer (some ⟨w.heap.size, 0, none⟩), .int .u64 150] 68) (hbig (.cells #[.pointer (some ⟨4, 52, none⟩), .pointer (some ⟨w.heap.size, 0, none⟩), .int .u64 150] 68) (hbig (.cells #[.pointer (some ⟨b, 0, none⟩)] 52) hB)))
  have hB' := hB4.set_one ho hm (a := .int n) (.pv _ _ (.int _ n)) rfl
  exact ⟨_, rfl, _, m, K, _, hB', by simp, Le.refl _ _ _, .pv _ _ (.bool true), hR⟩
end
def POK (C : Ctx) (f : FuncId) (p : List AV → Store → Option (AV × Store)) : Prop := ∀ args σ r σ', p args σ = some (r, σ') → ∀ R : AV → Store → Prop, R r σ' → SCalls C f args σ R
def primOf : List (FuncId × (List AV → Store → Option (AV × Store))) → Caller
  | [], _, _, _ => none
  | (g, p) :: r, f, args, σ => match Nat.beq g f with
    | true => p args σ
    | false => primOf r f args σ
def PsOK (C : Ctx) : List (FuncId × (List AV → Store → Option (AV × Store))) → Prop
  | [] => True
  | (f, p) :: r => POK C f p ∧ PsOK C r
theorem primOf_ok {C : Ctx} : ∀ (l : List (FuncId × (List AV → Store → Option (AV × Store)))), PsOK C l → CallerOK C (primOf l)
  | [], _ => fun f args σ r σ' h => by cases h
  | (g, p) :: rest, hl => fun f args σ r σ' h R hR => by
    unfold primOf at h
    split at h
    · rename_i he
      rw [← Nat.eq_of_beq_eq_true he]
      exact hl.1 _ _ _ _ h R hR
    · exact primOf_ok rest hl.2 f args σ r σ' h R hR
def digF : Nat → Nat → List UInt8
  | 0, _ => []
  | f + 1, u => match Nat.ble 10 u with
    | false => [UInt8.ofNat (48 + u)]
    | true => digF f (u / 10) ++ [UInt8.ofNat (48 + u % 10)]
def itoaF (n : Int) : List UInt8 := match n with
  | .ofNat u => digF 20 u
  | .negSucc u => 45 :: digF 20 (u + 1)
def pItoa : List AV → Store → Option (AV × Store)
  | [.pv (.int .i64 n)], σ => match decide (-9223372036854775808 ≤ n) && decide (n ≤ 9223372036854775807) with
    | true => some (.pv (.str (itoaF n)), σ)
    | false => none
  | _, _ => none
def pAs : List AV → Store → Option (AV × Store)
  | [.pv (.iface t (.int .i64 n)), .iface u (.ptr id 0)], σ => match Nat.beq t 42 && Nat.beq u 52 with
    | true => match σ[id]? with
      | some (.cells ty [_]) => some (.pv (.bool true), σ.set id (.cells ty [.int n]))
      | _ => none
    | false => none
  | _, _ => none
def pStr2 (ok : List UInt8 → List UInt8 → Bool) (f : List UInt8 → List UInt8 → PV) : List AV → Store → Option (AV × Store)
  | [.pv (.str s), .pv (.str t)], σ => match ok s t with
    | true => some (.pv (f s t), σ)
    | false => none
  | _, _ => none
theorem pStr2_ok {C : Ctx} {g : FuncId} {ok : List UInt8 → List UInt8 → Bool} {f : List UInt8 → List UInt8 → PV} (h : ∀ (s t : List UInt8) (σ : Store) (R : AV → Store → Prop), ok s t = true → R (.pv (f s t)) σ → SCalls C g [.pv (.str s), .pv (.str t)] σ R) : POK C g (pStr2 ok f) := by
  intro args σ r σ' h' R hR
  unfold pStr2 at h'
  split at h'
  · split at h'
    · rename_i hc
      cases h'
      exact h _ _ _ _ hc hR
    · cases h'
  · cases h'
def okLen (s t : List UInt8) : Bool := Nat.ble s.length 140737488355328
def pIndexByte : List AV → Store → Option (AV × Store)
  | [.pv (.str s), .pv (.int .u8 n)], σ => match decide (0 ≤ n) && decide (n ≤ 255) with
    | true => some (.pv (.int .i64 (Lib.indexByte s (UInt8.ofNat n.toNat))), σ)
    | false => none
  | _, _ => none
section
variable {w0 : Base}
theorem pAs_ok (L : Laid w0.w) : POK (cx w0) errors_As.id pAs := by
  intro args σ r σ' h R hR
  unfold pAs at h
  split at h
  · split at h
    · rename_i hc
      simp only [Bool.and_eq_true] at hc
      obtain rfl := Nat.eq_of_beq_eq_true hc.1
      obtain rfl := Nat.eq_of_beq_eq_true hc.2
      split at h
      · rename_i ho
        cases h
        exact As_spec L ho hR
      · cases h
    · cases h
  · cases h
theorem pTrimSuffix_ok : POK (cx w0) strings_TrimSuffix.id (pStr2 okLen fun s t => .str (Lib.trimSuffix s t)) := pStr2_ok fun s t σ R h hR => TrimSuffix_spec (Nat.le_trans (Nat.le_of_ble_eq_true h) (by decide)) hR
theorem pIndexByte_ok : POK (cx w0) strings_IndexByte.id pIndexByte := by
  intro args σ r σ' h R hR
  unfold pIndexByte at h
  split at h
  · rename_i s n
    split at h
    · rename_i hc
      simp only [Bool.and_eq_true, decide_eq_true_eq] at hc
      cases h
      have e : ((UInt8.ofNat n.toNat).toNat : Int) = n := by rw [UInt8.toNat_ofNat']; omega
      have := IndexByte_spec (w0 := w0) (s := s) (c := UInt8.ofNat n.toNat) hR
      rw [e] at this
      exact this
    · cases h
  · cases h
end
def prims : List (FuncId × (List AV → Store → Option (AV × Store))) := [
  (strings_TrimSuffix.id, pStr2 okLen fun s t => .str (Lib.trimSuffix s t)),
  (strings_IndexByte.id, pIndexByte),
  (errors_As.id, pAs)]
theorem prims_ok {w0 : Base} (L : Laid w0.w) : PsOK (cx w0) prims := ⟨
  pTrimSuffix_ok,
  pIndexByte_ok,
  pAs_ok L, trivial⟩
def feTab : List (FuncId × FE) → FuncId → Option FE
  | [], _ => none
  | (g, x) :: r, f => match Nat.beq g f with
    | true => some x
    | false => feTab r f
def FEsOK (C : Ctx) : List (FuncId × FE) → Prop
  | [] => True
  | (f, x) :: r => FOK C f x ∧ FEsOK C r
theorem feTab_ok {C : Ctx} : ∀ (l : List (FuncId × FE)), FEsOK C l → ∀ f x, feTab l f = some x → FOK C f x
  | [], _, f, x, h => by cases h
  | (g, y) :: r, hl, f, x, h => by
    unfold feTab at h
    split at h
    · rename_i he
      cases h
      rw [← Nat.eq_of_beq_eq_true he]; exact hl.1
    · exact feTab_ok r hl.2 f x h
theorem Laid.mono {w0 w : World} (L : Laid w0) (hb : Below w0.heap.size w0 w) : Laid w := by
  refine ⟨?_⟩
  have hlt : 0 < w0.heap.size := by
    obtain ⟨cs, t, fr, h, _⟩ := heap_of_cell L.errT
    exact (Array.getElem?_eq_some_iff.1 h).1
  rw [hb.cell (p := ⟨0, 0, none⟩) hlt]
  exact L.errT
theorem SCalls.alone {w0 : Base} {f : FuncId} {args : List AV} {σ : Store} {R : AV → Store → Prop} {r : AV} (L : Laid w0.w) (ha : args.all AV.isPv = true) (h : ∀ w1 : Base, Laid w1.w → SCalls (cx w1) f args [] fun r' _ => r' = r) (hn : AV.under 0 r = true) (hR : R r σ) : SCalls (cx w0) f args σ R := by
  intro m K w vs hB hv
  have hB1 : Bears (cx ⟨w, K⟩) (fun _ _ => none) K [] w := ⟨Below.refl _ _, hB.keep, (fun _ _ _ h => nomatch h), (fun id x h => nomatch (show (none : Option SObj) = some x from h)), (fun id x b h => nomatch (show (none : Option SObj) = some x from h)), (fun id x id' x' b h => nomatch (show (none : Option SObj) = some x from h)), (fun g a h => nomatch (show (none : Option AV) = some a from h)), fun b o v h => .inl h⟩
  have hv1 : Reps (fun _ _ => none) K args vs := ⟨hv.1, fun j a v hj hjv => (hv.2 j a v hj hjv).pvs (List.all_eq_true.1 ha a (List.mem_of_getElem? hj))⟩
  refine CallNext.mono (h ⟨w, K⟩ (L.mono hB.below) _ K w vs hB1 hv1) fun v w' ⟨r', m', K', σ', hB', _, hle, hr, e⟩ => ?_
  subst e
  have hK := hle.2
  refine ⟨r', m, K', σ, hB.moreK hB'.below hK (fun b o v h => hB'.old b o v h) hB'.keep, Nat.le_refl _, ⟨fun _ _ _ _ h => h, hK⟩, (hr.cut (k := 0) hn).mono ⟨fun id ver l h => ?_, fun _ _ _ h => h⟩, hR⟩
  simp [cutMp] at h
end Go.Sv
end
