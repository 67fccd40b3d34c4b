/- The library's functions as calls over stores, at this seat's numbers; and what a computed run does at them. -/
import Derived.Test.YtgdnoobpnhmpjaaGreatDoorSvT
import Derived.Test.YtgdnoobpnhmpjaaGreatDoorSvAs
import Derived.Test.YtgdnoobpnhmpjaaGreatDoorSh
import Derived.Test.YtgdnoobpnhmpjaaGreatDoorSvIx
import Derived.Lib.AppendIntMem
import Derived.Shelf.SlSorted.Search
set_option linter.unusedVariables false
set_option linter.unusedSimpArgs false
set_option maxRecDepth 100000
namespace Go.Sv
attribute [local semireducible] SCalls
open Go Go.RowKit Go.Shelf Go.Proofs
structure Laid (w0 : World) : Prop where
  pow10 : Lib.TabIs Tryz.prog w0 "internal/strconv.uint64pow10" .u64 Lib.pow10Tab
  errT : w0.cell? ⟨0, 0, none⟩ = some (.iface 184 (.agg #[.pointer (some ⟨9, 24, none⟩)]))
theorem enters {f : FuncId} {fn : Func} (hf : Tryz.prog.funcs[f]? = some fn) (hn : (fn.name == "runtime.NumGoroutine") = false) (hb : fn.body = some (bodyOf fn)) : ∀ (vs : Array Value) (w : World), (callFunc f vs).run Tryz.prog w = .ok (.enter f vs) w :=
  fun vs w => callFunc_enter hf hn hb vs w
section
variable {w0 : Base} {σ : Store} {R : AV → Store → Prop} {id : Nat} {s t : List UInt8}
theorem Itoa_spec (L : Laid w0.w) {n : Int} (h0 : -9223372036854775808 ≤ n) (h1 : n ≤ 9223372036854775807) (hR : R (.pv (.str (Lib.itoa n))) σ) : SCalls (cx w0) strconv_Itoa.id [.pv (.int .i64 n)] σ R := by
  refine SCalls.below (C := cx w0) (enters Tryz.func82 (by kernel_rfl) (by kernel_rfl)) (fun m K w vs hB hv => ?_)
  obtain ⟨x, rfl, hx⟩ := hv.one
  obtain rfl := hx.int_inv
  refine (Tryz.strconv_Itoa n h0 h1 w (Lib.tabBelow_of_tabIs L.pow10 w hB.below)).mono ?_
  rintro e w' ⟨rfl, k, os, rfl⟩
  exact ⟨_, _, rfl, below_grown_sl _ w k os (Nat.le_refl _), .pv _ _ (.str _), hR⟩
theorem SCalls.same {f : FuncId} {args : List AV} (hc : ∀ vs w, (callFunc f vs).run Tryz.prog w = .ok (.enter f vs) w) {r : AV} (hR : R r σ)
    (h : ∀ m K w vs, Bears (cx w0) m K σ w → Reps m K args vs → ∃ v, ARep m K r v ∧ Calls Tryz.prog f vs w fun e w' => e = .returned v ∧ w' = w) : SCalls (cx w0) f args σ R :=
  SCalls.below (C := cx w0) hc fun m K w vs hB hv => by
    obtain ⟨v, hr, hcl⟩ := h m K w vs hB hv
    exact hcl.mono fun e w' ⟨he, hw⟩ => ⟨v, r, he, by rw [hw]; exact Below.refl _ _, hr, hR⟩
theorem HasPrefix_spec (hR : R (.pv (.bool (Lib.hasPrefix s t))) σ) : SCalls (cx w0) strings_HasPrefix.id [.pv (.str s), .pv (.str t)] σ R :=
  SCalls.same (enters Tryz.func79 (by kernel_rfl) (by kernel_rfl)) hR fun m K w vs hB hv => by
    obtain ⟨x, y, rfl, hx, hy⟩ := hv.two
    obtain rfl := hx.str_inv
    obtain rfl := hy.str_inv
    exact ⟨_, .pv _ _ (.bool _), Tryz.strings_HasPrefix ⟨s.toArray⟩ ⟨t.toArray⟩ w⟩
theorem HasSuffix_spec (hs : s.length ≤ 9223372036854775807) (hR : R (.pv (.bool (Lib.hasSuffix s t))) σ) : SCalls (cx w0) strings_HasSuffix.id [.pv (.str s), .pv (.str t)] σ R :=
  SCalls.same (enters Tryz.func54 (by kernel_rfl) (by kernel_rfl)) hR fun m K w vs hB hv => by
    obtain ⟨x, y, rfl, hx, hy⟩ := hv.two
    obtain rfl := hx.str_inv
    obtain rfl := hy.str_inv
    exact ⟨_, .pv _ _ (.bool _), Tryz.strings_HasSuffix ⟨s.toArray⟩ ⟨t.toArray⟩ w (by simpa [ByteArray.size] using hs)⟩
theorem TrimSuffix_spec (hs : s.length ≤ 9223372036854775807) (hR : R (.pv (.str (Lib.trimSuffix s t))) σ) : SCalls (cx w0) strings_TrimSuffix.id [.pv (.str s), .pv (.str t)] σ R :=
  SCalls.same (enters Tryz.func81 (by kernel_rfl) (by kernel_rfl)) hR fun m K w vs hB hv => by
    obtain ⟨x, y, rfl, hx, hy⟩ := hv.two
    obtain rfl := hx.str_inv
    obtain rfl := hy.str_inv
    exact ⟨_, .pv _ _ (.str _), Tryz.strings_TrimSuffix ⟨s.toArray⟩ ⟨t.toArray⟩ w (by simpa [ByteArray.size] using hs)⟩
theorem Contains1_spec {s : List UInt8} {c : UInt8} (hR : R (.pv (.bool (s.contains c))) σ) : SCalls (cx w0) strings_Contains.id [.pv (.str s), .pv (.str [c])] σ R := by
  rw [Lib.contains_iff_indexByte] at hR
  exact SCalls.same (enters Tryz.func92 (by kernel_rfl) (by kernel_rfl)) hR fun m K w vs hB hv => by
    obtain ⟨x, y, rfl, hx, hy⟩ := hv.two
    obtain rfl := hx.str_inv
    obtain rfl := hy.str_inv
    exact ⟨_, .pv _ _ (.bool _), Tryz.strings_Contains_one ⟨s.toArray⟩ c w⟩
theorem TrimPrefix_spec (hR : R (.pv (.str (Lib.trimPrefix s t))) σ) : SCalls (cx w0) strings_TrimPrefix.id [.pv (.str s), .pv (.str t)] σ R :=
  SCalls.same (enters Tryz.func97 (by kernel_rfl) (by kernel_rfl)) hR fun m K w vs hB hv => by
    obtain ⟨x, y, rfl, hx, hy⟩ := hv.two
    obtain rfl := hx.str_inv
    obtain rfl := hy.str_inv
    exact ⟨_, .pv _ _ (.str _), Tryz.strings_TrimPrefix ⟨s.toArray⟩ ⟨t.toArray⟩ w⟩
theorem IndexByte_spec {c : UInt8} (hR : R (.pv (.int .i64 (Lib.indexByte s c))) σ) : SCalls (cx w0) strings_IndexByte.id [.pv (.str s), .pv (.int .u8 c.toNat)] σ R :=
  SCalls.same (enters Tryz.func53 (by kernel_rfl) (by kernel_rfl)) hR fun m K w vs hB hv => by
    obtain ⟨x, y, rfl, hx, hy⟩ := hv.two
    obtain rfl := hx.str_inv
    obtain rfl := hy.int_inv
    have := Tryz.strings_IndexByte ⟨s.toArray⟩ (c.toNat : Int) w
    rw [show ((c.toNat : Int)).toNat.toUInt8 = c by simp] at this
    exact ⟨_, .pv _ _ (.int _ _), this⟩
def asciiB (t : List UInt8) : Bool := t.all fun b => Nat.blt b.toNat 128
theorem asciiB_get (h : asciiB t = true) : ∀ (j : Nat) b, (ByteArray.mk t.toArray).data.toList[j]? = some b → b.toNat < 128 := fun j b hj => by
  have := List.all_eq_true.1 h b (List.mem_of_getElem? hj)
  exact Nat.le_of_ble_eq_true this
theorem set116 : (Tryz.prog.info? (Tryz.lays153_ren.t 116)).map (fun i => (i.zero, i.size)) = some (some (.agg (Array.replicate 256 (.bool false))), 256) := by kernel_rfl
theorem IndexAny_spec (ha : asciiB t = true) (hs : s.length < 4294967281) (ht : t.length < 4294967281) (hR : R (.pv (.int .i64 (Lib.indexAny s t))) σ) : SCalls (cx w0) strings_IndexAny.id [.pv (.str s), .pv (.str t)] σ R :=
  SCalls.below (C := cx w0) (enters Tryz.func106 (by kernel_rfl) (by kernel_rfl)) fun m K w vs hB hv => by
    obtain ⟨x, y, rfl, hx, hy⟩ := hv.two
    obtain rfl := hx.str_inv
    obtain rfl := hy.str_inv
    refine (Ix.IndexAny Tryz.lays153 (zero_of_info set116).1 (zero_of_info set116).2 ⟨s.toArray⟩ ⟨t.toArray⟩ w (by simpa [ByteArray.size] using hs) (by simpa [ByteArray.size] using ht) (asciiB_get ha)).mono ?_
    rintro e w' ⟨rfl, hb⟩
    exact ⟨_, _, rfl, hb, .pv _ _ (.int _ _), hR⟩
theorem As_spec (L : Laid w0.w) {n : Int} {ty : TypeId} {old : AV} (ho : σ[id]? = some (.cells ty [old])) (hR : R (.pv (.bool true)) (σ.set id (.cells ty [.int n]))) :
    SCalls (cx w0) errors_As.id [.pv (.iface 61 (.int .i64 n)), .iface 75 (.ptr id 0)] σ R := by
  intro m K w vs hB hv
  obtain ⟨x, y, rfl, hx, hy⟩ := hv.two
  have hx' : x = .iface 61 (.int .i64 n) := by
    cases hx with | pv p v hp => cases hp with | iface t p v h => cases h; rfl
  subst hx'
  obtain ⟨z, rfl, hz⟩ : ∃ z, y = .iface 75 z ∧ ARep m K (.ptr id 0) z := by
    cases hy with | iface t p v h => exact ⟨v, rfl, h⟩
  obtain ⟨b, cap, es, rfl, hm⟩ := hz.ptr_inv
  obtain ⟨b', cap', es', arr, hm', hh, hl, hr, hk⟩ := hB.obj id _ ho
  rw [hm] at hm'; cases hm'
  obtain ⟨u, hu⟩ : ∃ u, arr[0]? = some u := ⟨arr[0]'(by simp at hl; omega), Array.getElem?_eq_getElem _⟩
  have h0 : w.cell? ⟨b, 0, none⟩ = some u := by rw [cell_heap w b 0 hh, hu]
  have hf : w.frozen? ⟨b, 0, none⟩ = false := by rw [frozen_heap w b 0 hh]; simp
  have hg : w.cell? ⟨0, 0, none⟩ = some (.iface 184 (.agg #[.pointer (some ⟨9, 24, none⟩)])) := by
    have hlt : 0 < w0.w.heap.size := by
      obtain ⟨cs, t, fr, hb, _⟩ := heap_of_cell L.errT
      exact (Array.getElem?_eq_some_iff.1 hb).1
    rw [hB.below.cell (p := ⟨0, 0, none⟩) hlt]
    exact L.errT
  refine CallNext.of_calls (enters Tryz.func32 (by kernel_rfl) (by kernel_rfl) _ w) ((as_hit n ⟨b, 0, none⟩ u w hg h0 hf).mono ?_)
  rintro e w' ⟨rfl, rfl⟩
  have hbig : ∀ {w1 : World} (o : Obj), Bears (cx w0) m K σ w1 → Bears (cx w0) m K σ (w1.alloc o) := fun o h => h.grown ((Below.refl _ _).alloc (Nat.le_refl _) o)
  have hB4 := hbig (.cells #[.int .i64 n] 61) (hbig (.cells #[.pointer (some ⟨9, 75, none⟩), .pointer (some ⟨w.heap.size, 0, none⟩), .int .u64 150] 133) (hbig (.cells #[.pointer (some ⟨9, 75, none⟩), .pointer (some ⟨w.heap.size, 0, none⟩), .int .u64 150] 133) (hbig (.cells #[.pointer (some ⟨b, 0, none⟩)] 75) hB)))
  have hB' := hB4.set_one ho hm (a := .int n) (.pv _ _ (.int _ n)) rfl
  exact ⟨_, rfl, _, m, K, _, hB', by simp, Le.refl _ _ _, .pv _ _ (.bool true), hR⟩
end
def POK (C : Ctx) (f : FuncId) (p : List AV → Store → Option (AV × Store)) : Prop := ∀ args σ r σ', p args σ = some (r, σ') → ∀ R : AV → Store → Prop, R r σ' → SCalls C f args σ R
def primOf : List (FuncId × (List AV → Store → Option (AV × Store))) → Caller
  | [], _, _, _ => none
  | (g, p) :: r, f, args, σ => match Nat.beq g f with
    | true => p args σ
    | false => primOf r f args σ
def PsOK (C : Ctx) : List (FuncId × (List AV → Store → Option (AV × Store))) → Prop
  | [] => True
  | (f, p) :: r => POK C f p ∧ PsOK C r
theorem primOf_ok {C : Ctx} : ∀ (l : List (FuncId × (List AV → Store → Option (AV × Store)))), PsOK C l → CallerOK C (primOf l)
  | [], _ => fun f args σ r σ' h => by cases h
  | (g, p) :: rest, hl => fun f args σ r σ' h R hR => by
    unfold primOf at h
    split at h
    · rename_i he
      rw [← Nat.eq_of_beq_eq_true he]
      exact hl.1 _ _ _ _ h R hR
    · exact primOf_ok rest hl.2 f args σ r σ' h R hR
def digF : Nat → Nat → List UInt8
  | 0, _ => []
  | f + 1, u => match Nat.ble 10 u with
    | false => [UInt8.ofNat (48 + u)]
    | true => digF f (u / 10) ++ [UInt8.ofNat (48 + u % 10)]
theorem digF_eq : ∀ (f u : Nat), u < 10 ^ f → 0 < f → digF f u = Lib.decDigits u
  | 0, u, _, h0 => absurd h0 (Nat.lt_irrefl _)
  | f + 1, u, h, _ => by
    unfold digF
    rw [Lib.decDigits]
    by_cases hu : u < 10
    · rw [dif_pos hu]
      have : Nat.ble 10 u = false := by
        cases hb : Nat.ble 10 u with
        | false => rfl
        | true => have := Nat.le_of_ble_eq_true hb; omega
      rw [this]
    · rw [dif_neg hu, Nat.ble_eq_true_of_le (show 10 ≤ u by omega)]
      have hf : 0 < f := by
        rcases Nat.eq_zero_or_pos f with h0 | h0
        · subst h0; simp at h; omega
        · exact h0
      have : u / 10 < 10 ^ f := by rw [Nat.pow_succ] at h; omega
      simp only [digF_eq f (u / 10) this hf]
def itoaF (n : Int) : List UInt8 := match n with
  | .ofNat u => digF 20 u
  | .negSucc u => 45 :: digF 20 (u + 1)
theorem itoaF_eq {n : Int} (h0 : -9223372036854775808 ≤ n) (h1 : n ≤ 9223372036854775807) : itoaF n = Lib.itoa n := by
  unfold itoaF Lib.itoa
  cases n with
  | ofNat u =>
    have : (Int.ofNat u) = (u : Int) := rfl
    rw [if_neg (by omega)]
    exact digF_eq 20 u (by omega) (by decide)
  | negSucc u =>
    rw [if_pos (by omega)]
    have : (Int.negSucc u).natAbs = u + 1 := rfl
    rw [this]
    simp only [digF_eq 20 (u + 1) (by omega) (by decide)]
def pItoa : List AV → Store → Option (AV × Store)
  | [.pv (.int .i64 n)], σ => match decide (-9223372036854775808 ≤ n) && decide (n ≤ 9223372036854775807) with
    | true => some (.pv (.str (itoaF n)), σ)
    | false => none
  | _, _ => none
def pAs : List AV → Store → Option (AV × Store)
  | [.pv (.iface t (.int .i64 n)), .iface u (.ptr id 0)], σ => match Nat.beq t 61 && Nat.beq u 75 with
    | true => match σ[id]? with
      | some (.cells ty [_]) => some (.pv (.bool true), σ.set id (.cells ty [.int n]))
      | _ => none
    | false => none
  | _, _ => none
def pStr2 (ok : List UInt8 → List UInt8 → Bool) (f : List UInt8 → List UInt8 → PV) : List AV → Store → Option (AV × Store)
  | [.pv (.str s), .pv (.str t)], σ => match ok s t with
    | true => some (.pv (f s t), σ)
    | false => none
  | _, _ => none
theorem pStr2_ok {C : Ctx} {g : FuncId} {ok : List UInt8 → List UInt8 → Bool} {f : List UInt8 → List UInt8 → PV} (h : ∀ (s t : List UInt8) (σ : Store) (R : AV → Store → Prop), ok s t = true → R (.pv (f s t)) σ → SCalls C g [.pv (.str s), .pv (.str t)] σ R) : POK C g (pStr2 ok f) := by
  intro args σ r σ' h' R hR
  unfold pStr2 at h'
  split at h'
  · split at h'
    · rename_i hc
      cases h'
      exact h _ _ _ _ hc hR
    · cases h'
  · cases h'
def okLen (s t : List UInt8) : Bool := Nat.ble s.length 140737488355328
def okOne (s : List UInt8) : List UInt8 → Bool
  | [_] => true
  | _ => false
def pIndexByte : List AV → Store → Option (AV × Store)
  | [.pv (.str s), .pv (.int .u8 n)], σ => match decide (0 ≤ n) && decide (n ≤ 255) with
    | true => some (.pv (.int .i64 (Lib.indexByte s (UInt8.ofNat n.toNat))), σ)
    | false => none
  | _, _ => none
def okAny (s t : List UInt8) : Bool := asciiB t && Nat.blt s.length 4294967281 && Nat.blt t.length 4294967281
section
variable {w0 : Base}
theorem pItoa_ok (L : Laid w0.w) : POK (cx w0) strconv_Itoa.id pItoa := by
  intro args σ r σ' h R hR
  unfold pItoa at h
  split at h
  · split at h
    · rename_i hc
      simp only [Bool.and_eq_true, decide_eq_true_eq] at hc
      cases h
      rw [itoaF_eq hc.1 hc.2] at hR
      exact Itoa_spec L hc.1 hc.2 hR
    · cases h
  · cases h
theorem pAs_ok (L : Laid w0.w) : POK (cx w0) errors_As.id pAs := by
  intro args σ r σ' h R hR
  unfold pAs at h
  split at h
  · split at h
    · rename_i hc
      simp only [Bool.and_eq_true] at hc
      obtain rfl := Nat.eq_of_beq_eq_true hc.1
      obtain rfl := Nat.eq_of_beq_eq_true hc.2
      split at h
      · rename_i ho
        cases h
        exact As_spec L ho hR
      · cases h
    · cases h
  · cases h
theorem pHasPrefix_ok : POK (cx w0) strings_HasPrefix.id (pStr2 (fun _ _ => true) fun s t => .bool (Lib.hasPrefix s t)) := pStr2_ok fun s t σ R _ hR => HasPrefix_spec hR
theorem pHasSuffix_ok : POK (cx w0) strings_HasSuffix.id (pStr2 okLen fun s t => .bool (Lib.hasSuffix s t)) := pStr2_ok fun s t σ R h hR => HasSuffix_spec (Nat.le_trans (Nat.le_of_ble_eq_true h) (by decide)) hR
theorem pTrimSuffix_ok : POK (cx w0) strings_TrimSuffix.id (pStr2 okLen fun s t => .str (Lib.trimSuffix s t)) := pStr2_ok fun s t σ R h hR => TrimSuffix_spec (Nat.le_trans (Nat.le_of_ble_eq_true h) (by decide)) hR
theorem pTrimPrefix_ok : POK (cx w0) strings_TrimPrefix.id (pStr2 (fun _ _ => true) fun s t => .str (Lib.trimPrefix s t)) := pStr2_ok fun s t σ R _ hR => TrimPrefix_spec hR
theorem pContains_ok : POK (cx w0) strings_Contains.id (pStr2 okOne fun s t => .bool (s.contains (t.headD 0))) := pStr2_ok fun s t σ R h hR => by
  cases t with
  | nil => cases h
  | cons c r =>
    cases r with
    | nil => exact Contains1_spec hR
    | cons _ _ => cases h
theorem pIndexAny_ok : POK (cx w0) strings_IndexAny.id (pStr2 okAny fun s t => .int .i64 (Lib.indexAny s t)) := pStr2_ok fun s t σ R h hR => by
  simp only [okAny, Bool.and_eq_true] at h
  exact IndexAny_spec h.1.1 (Nat.le_of_ble_eq_true h.1.2) (Nat.le_of_ble_eq_true h.2) hR
theorem pIndexByte_ok : POK (cx w0) strings_IndexByte.id pIndexByte := by
  intro args σ r σ' h R hR
  unfold pIndexByte at h
  split at h
  · rename_i s n
    split at h
    · rename_i hc
      simp only [Bool.and_eq_true, decide_eq_true_eq] at hc
      cases h
      have e : ((UInt8.ofNat n.toNat).toNat : Int) = n := by rw [UInt8.toNat_ofNat']; omega
      have := IndexByte_spec (w0 := w0) (s := s) (c := UInt8.ofNat n.toNat) hR
      rw [e] at this
      exact this
    · cases h
  · cases h
end
def prims : List (FuncId × (List AV → Store → Option (AV × Store))) := [
  (strconv_Itoa.id, pItoa),
  (strings_HasPrefix.id, pStr2 (fun _ _ => true) fun s t => .bool (Lib.hasPrefix s t)),
  (strings_HasSuffix.id, pStr2 okLen fun s t => .bool (Lib.hasSuffix s t)),
  (strings_TrimSuffix.id, pStr2 okLen fun s t => .str (Lib.trimSuffix s t)),
  (strings_TrimPrefix.id, pStr2 (fun _ _ => true) fun s t => .str (Lib.trimPrefix s t)),
  (strings_Contains.id, pStr2 okOne fun s t => .bool (s.contains (t.headD 0))),
  (strings_IndexAny.id, pStr2 okAny fun s t => .int .i64 (Lib.indexAny s t)),
  (strings_IndexByte.id, pIndexByte),
  (errors_As.id, pAs)]
theorem prims_ok {w0 : Base} (L : Laid w0.w) : PsOK (cx w0) prims := ⟨
  pItoa_ok L,
  pHasPrefix_ok,
  pHasSuffix_ok,
  pTrimSuffix_ok,
  pTrimPrefix_ok,
  pContains_ok,
  pIndexAny_ok,
  pIndexByte_ok,
  pAs_ok L, trivial⟩
def feTab : List (FuncId × FE) → FuncId → Option FE
  | [], _ => none
  | (g, x) :: r, f => match Nat.beq g f with
    | true => some x
    | false => feTab r f
def FEsOK (C : Ctx) : List (FuncId × FE) → Prop
  | [] => True
  | (f, x) :: r => FOK C f x ∧ FEsOK C r
theorem feTab_ok {C : Ctx} : ∀ (l : List (FuncId × FE)), FEsOK C l → ∀ f x, feTab l f = some x → FOK C f x
  | [], _, f, x, h => by cases h
  | (g, y) :: r, hl, f, x, h => by
    unfold feTab at h
    split at h
    · rename_i he
      cases h
      rw [← Nat.eq_of_beq_eq_true he]; exact hl.1
    · exact feTab_ok r hl.2 f x h
theorem Laid.mono {w0 w : World} (L : Laid w0) (hb : Below w0.heap.size w0 w) : Laid w := by
  refine ⟨Lib.tabBelow_of_tabIs L.pow10 w hb, ?_⟩
  have hlt : 0 < w0.heap.size := by
    obtain ⟨cs, t, fr, h, _⟩ := heap_of_cell L.errT
    exact (Array.getElem?_eq_some_iff.1 h).1
  rw [hb.cell (p := ⟨0, 0, none⟩) hlt]
  exact L.errT
theorem prims_all {w0 : Base} (L : Laid w0.w) {l : List (FuncId × (List AV → Store → Option (AV × Store)))} (h : ∀ w1 : Base, Laid w1.w → PsOK (cx w1) l) : CallersOK (cx w0) (primOf l) := fun w K hb => primOf_ok l (h ⟨w, K⟩ (L.mono hb))
theorem SCalls.alone {w0 : Base} {f : FuncId} {args : List AV} {σ : Store} {R : AV → Store → Prop} {r : AV} (L : Laid w0.w) (ha : args.all AV.isPv = true) (h : ∀ w1 : Base, Laid w1.w → SCalls (cx w1) f args [] fun r' _ => r' = r) (hn : AV.under 0 r = true) (hR : R r σ) : SCalls (cx w0) f args σ R := by
  intro m K w vs hB hv
  have hB1 : Bears (cx ⟨w, K⟩) (fun _ _ => none) K [] w := ⟨Below.refl _ _, hB.keep, (fun _ _ _ h => nomatch h), (fun id x h => nomatch (show (none : Option SObj) = some x from h)), (fun id x b h => nomatch (show (none : Option SObj) = some x from h)), (fun id x id' x' b h => nomatch (show (none : Option SObj) = some x from h)), (fun g a h => nomatch (show (none : Option AV) = some a from h)), fun b o v h => .inl h⟩
  have hv1 : Reps (fun _ _ => none) K args vs := ⟨hv.1, fun j a v hj hjv => (hv.2 j a v hj hjv).pvs (List.all_eq_true.1 ha a (List.mem_of_getElem? hj))⟩
  refine CallNext.mono (h ⟨w, K⟩ (L.mono hB.below) _ K w vs hB1 hv1) fun v w' ⟨r', m', K', σ', hB', _, hle, hr, e⟩ => ?_
  subst e
  have hK := hle.2
  refine ⟨r', m, K', σ, hB.moreK hB'.below hK (fun b o v h => hB'.old b o v h) hB'.keep, Nat.le_refl _, ⟨fun _ _ _ _ h => h, hK⟩, (hr.cut (k := 0) hn).mono ⟨fun id ver l h => ?_, fun _ _ _ h => h⟩, hR⟩
  simp [cutMp] at h
end Go.Sv
