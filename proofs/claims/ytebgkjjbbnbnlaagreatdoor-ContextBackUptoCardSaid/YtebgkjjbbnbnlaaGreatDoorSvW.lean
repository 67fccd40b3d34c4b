/- The library's functions as calls over stores, at this seat's numbers; and what a computed run does at them. -/
import Derived.Test.YtebgkjjbbnbnlaaGreatDoorSvT
import Derived.Test.YtebgkjjbbnbnlaaGreatDoorSvBf
import Derived.Test.YtebgkjjbbnbnlaaGreatDoorSvAs
import Derived.Test.YtebgkjjbbnbnlaaGreatDoorSvIx
import Derived.Lib.AppendIntMem
import Derived.Shelf.SlSorted.Search
set_option linter.unusedVariables false
set_option linter.unusedSimpArgs false
set_option maxRecDepth 100000
namespace Go.Sv
open Go Go.RowKit Go.Shelf Go.Proofs
structure Laid (w0 : World) : Prop where
  pow10 : Lib.TabIs Tryz.prog w0 "internal/strconv.uint64pow10" .u64 Lib.pow10Tab
  errT : w0.cell? ⟨0, 0, none⟩ = some (.iface 158 (.agg #[.pointer (some ⟨9, 29, none⟩)]))
theorem S4 {f : FuncId} {fn : Func} (hf : Tryz.prog.funcs[f]? = some fn) (hn : (fn.name == "runtime.NumGoroutine") = false) (hb : fn.body = some (E6 fn)) : ∀ (vs : Array Value) (w : World), (callFunc f vs).run Tryz.prog w = .ok (.enter f vs) w :=
  fun vs w => callFunc_enter hf hn hb vs w
section
variable {w0 : Base} {σ : Store} {R : AV → Store → Prop} {id : Nat} {s t : List UInt8}
theorem E8 (ho : σ[id]? = some (.bld 58 5 s)) (hlen : s.length + t.length ≤ 140737488355328) (hR : R (.tup [.int t.length, .nilI]) (σ.set id (.bld 58 5 (s ++ t)))) : A1 (cx w0) B2.id [.ptr id 0, .pv (.str t)] σ R :=
  A1.WriteString (C := cx w0) Tryz.bldn166 Tryz.bldX rfl rfl rfl (S4 Tryz.func24 (by kernel_rfl) (by kernel_rfl)) ho hlen hR
theorem Q2 {c : UInt8} (ho : σ[id]? = some (.bld 58 5 s)) (hlen : s.length + 1 ≤ 140737488355328) (hR : R .nilI (σ.set id (.bld 58 5 (s ++ [c])))) : A1 (cx w0) G5.id [.ptr id 0, .pv (.int .u8 c.toNat)] σ R :=
  A1.WriteByte (C := cx w0) Tryz.bldn167 Tryz.bldX rfl rfl rfl (S4 Tryz.func66 (by kernel_rfl) (by kernel_rfl)) ho hlen hR
theorem V2 (ho : σ[id]? = some (.bld 58 5 s)) (hR : R (.pv (.str s)) σ) : A1 (cx w0) I8.id [.ptr id 0] σ R :=
  A1.BuilderString (C := cx w0) Tryz.bldn169 Tryz.bldX rfl rfl rfl (S4 Tryz.func25 (by kernel_rfl) (by kernel_rfl)) ho hR
theorem Write_spec {id2 es : Nat} {fz : Bool} (ho : σ[id]? = some (.bld 58 5 s)) (ho2 : σ[id2]? = some (.arr 1 (E7 t) fz)) (hne : t ≠ []) (hlen : s.length + t.length ≤ 140737488355328) (hR : R (.tup [.int t.length, .nilI]) (σ.set id (.bld 58 5 (s ++ t)))) :
    A1 (cx w0) W1.id [.ptr id 0, .arr id2 t.length 0 t.length] σ R := by
  have hpos : 0 < t.length := List.length_pos_iff.2 hne
  refine A1.BuilderWrite (C := cx w0) Tryz.bld7n35 Tryz.bldn240 Tryz.bldX rfl rfl rfl rfl rfl rfl (S4 Tryz.func135 (by kernel_rfl) (by kernel_rfl)) ho hne (fun m K w v hB hv => ?_) hlen hR
  rcases hv.arr_inv with ⟨b, cap, es', c, ad, rfl, hm, hcc, hl, hv2, ha⟩ | ⟨h0, _⟩
  · have hm' : m id2 (E7 t).length = some (.at b cap es') := by rw [N0]; exact hm
    obtain ⟨rfl, arr, ty, fr, hh, hcap, hmax, hasz, hes, hcr, _, _⟩ := hB.arr_open ho2 hm'
    have had : ad = some ⟨b, 0 * 1, none⟩ := by
      rcases ha with h | h
      · omega
      · exact h
    subst had
    refine ⟨b, 0 * 1, c, rfl, fun b2 cap2 es2 hm2 e => ?_, fun j u hj => ?_⟩
    · subst e
      have hlt : id2 ≠ id := fun e => by subst e; rw [ho] at ho2; cases ho2
      exact hlt (hB.apart id2 _ id _ b ho2 ho (by simp [blk, Loc.blk, hm']) (by simp [blk, Loc.blk, hm2]))
    · have hjl : j < t.length := by
        have := (List.getElem?_eq_some_iff.1 hj).1
        rwa [Lib.byteCells_length] at this
      have hp : (flat (E7 t))[j]? = some (.int .u8 (t[j].toNat : Int)) := by rw [flat_bytesPV]; simp [E7, hjl]
      have hu : u = .int .u8 (t[j].toNat : Int) := by simpa [Lib.byteCells, hjl] using hj.symm
      have hja : j < arr.size := by rw [N0] at hcap; omega
      have := (hcr j _ arr[j] hp (Array.getElem?_eq_getElem hja)).1
      rw [Nat.zero_mul, Nat.zero_add, P3 w b _ hh, Array.getElem?_eq_getElem hja, hu]
      revert this
      generalize arr[j] = x
      intro this
      cases this
      rfl
  · omega
theorem W3 (L : Laid w0.w) {n : Int} (h0 : -9223372036854775808 ≤ n) (h1 : n ≤ 9223372036854775807) (hR : R (.pv (.str (Lib.itoa n))) σ) : A1 (cx w0) P5.id [.pv (.int .i64 n)] σ R := by
  refine A1.below (C := cx w0) (S4 Tryz.func65 (by kernel_rfl) (by kernel_rfl)) (fun m K w vs hB hv => ?_)
  obtain ⟨x, rfl, hx⟩ := hv.one
  obtain rfl := hx.int_inv
  refine (Tryz.strconv_Itoa n h0 h1 w (Lib.tabBelow_of_tabIs L.pow10 w hB.below)).mono ?_
  rintro e w' ⟨rfl, k, os, rfl⟩
  exact ⟨_, _, rfl, below_grown_sl _ w k os (Nat.le_refl _), .pv _ _ (.str _), hR⟩
theorem A1.same {f : FuncId} {args : List AV} (hc : ∀ vs w, (callFunc f vs).run Tryz.prog w = .ok (.enter f vs) w) {r : AV} (hR : R r σ)
    (h : ∀ m K w vs, Bears (cx w0) m K σ w → Reps m K args vs → ∃ v, ARep m K r v ∧ Calls Tryz.prog f vs w fun e w' => e = .returned v ∧ w' = w) : A1 (cx w0) f args σ R :=
  A1.below (C := cx w0) hc fun m K w vs hB hv => by
    obtain ⟨v, hr, hcl⟩ := h m K w vs hB hv
    exact hcl.mono fun e w' ⟨he, hw⟩ => ⟨v, r, he, by rw [hw]; exact Below.refl _ _, hr, hR⟩
theorem HasPrefix_spec (hR : R (.pv (.bool (Lib.hasPrefix s t))) σ) : A1 (cx w0) Q5.id [.pv (.str s), .pv (.str t)] σ R :=
  A1.same (S4 Tryz.func99 (by kernel_rfl) (by kernel_rfl)) hR fun m K w vs hB hv => by
    obtain ⟨x, y, rfl, hx, hy⟩ := hv.two
    obtain rfl := hx.str_inv
    obtain rfl := hy.str_inv
    exact ⟨_, .pv _ _ (.bool _), Tryz.strings_HasPrefix ⟨s.toArray⟩ ⟨t.toArray⟩ w⟩
theorem HasSuffix_spec (hs : s.length ≤ 9223372036854775807) (hR : R (.pv (.bool (Lib.hasSuffix s t))) σ) : A1 (cx w0) S7.id [.pv (.str s), .pv (.str t)] σ R :=
  A1.same (S4 Tryz.func73 (by kernel_rfl) (by kernel_rfl)) hR fun m K w vs hB hv => by
    obtain ⟨x, y, rfl, hx, hy⟩ := hv.two
    obtain rfl := hx.str_inv
    obtain rfl := hy.str_inv
    exact ⟨_, .pv _ _ (.bool _), Tryz.strings_HasSuffix ⟨s.toArray⟩ ⟨t.toArray⟩ w (by simpa [ByteArray.size] using hs)⟩
theorem TrimSuffix_spec (hs : s.length ≤ 9223372036854775807) (hR : R (.pv (.str (Lib.trimSuffix s t))) σ) : A1 (cx w0) R7.id [.pv (.str s), .pv (.str t)] σ R :=
  A1.same (S4 Tryz.func119 (by kernel_rfl) (by kernel_rfl)) hR fun m K w vs hB hv => by
    obtain ⟨x, y, rfl, hx, hy⟩ := hv.two
    obtain rfl := hx.str_inv
    obtain rfl := hy.str_inv
    exact ⟨_, .pv _ _ (.str _), Tryz.strings_TrimSuffix ⟨s.toArray⟩ ⟨t.toArray⟩ w (by simpa [ByteArray.size] using hs)⟩
theorem V5 {s : List UInt8} {c : UInt8} (hR : R (.pv (.bool (s.contains c))) σ) : A1 (cx w0) P8.id [.pv (.str s), .pv (.str [c])] σ R := by
  rw [Lib.contains_iff_indexByte] at hR
  exact A1.same (S4 Tryz.func63 (by kernel_rfl) (by kernel_rfl)) hR fun m K w vs hB hv => by
    obtain ⟨x, y, rfl, hx, hy⟩ := hv.two
    obtain rfl := hx.str_inv
    obtain rfl := hy.str_inv
    exact ⟨_, .pv _ _ (.bool _), Tryz.strings_Contains_one ⟨s.toArray⟩ c w⟩
theorem TrimPrefix_spec (hR : R (.pv (.str (Lib.trimPrefix s t))) σ) : A1 (cx w0) R8.id [.pv (.str s), .pv (.str t)] σ R :=
  A1.same (S4 Tryz.func77 (by kernel_rfl) (by kernel_rfl)) hR fun m K w vs hB hv => by
    obtain ⟨x, y, rfl, hx, hy⟩ := hv.two
    obtain rfl := hx.str_inv
    obtain rfl := hy.str_inv
    exact ⟨_, .pv _ _ (.str _), Tryz.strings_TrimPrefix ⟨s.toArray⟩ ⟨t.toArray⟩ w⟩
theorem IndexByte_spec {c : UInt8} (hR : R (.pv (.int .i64 (Lib.indexByte s c))) σ) : A1 (cx w0) S6.id [.pv (.str s), .pv (.int .u8 c.toNat)] σ R :=
  A1.same (S4 Tryz.func54 (by kernel_rfl) (by kernel_rfl)) hR fun m K w vs hB hv => by
    obtain ⟨x, y, rfl, hx, hy⟩ := hv.two
    obtain rfl := hx.str_inv
    obtain rfl := hy.int_inv
    have := Tryz.strings_IndexByte ⟨s.toArray⟩ (c.toNat : Int) w
    rw [show ((c.toNat : Int)).toNat.toUInt8 = c by simp] at this
    exact ⟨_, .pv _ _ (.int _ _), this⟩
def asciiB (t : List UInt8) : Bool := t.all fun b => Nat.blt b.toNat 128
theorem asciiB_get (h : asciiB t = true) : ∀ (j : Nat) b, (ByteArray.mk t.toArray).data.toList[j]? = some b → b.toNat < 128 := fun j b hj => by
  have := List.all_eq_true.1 h b (List.mem_of_getElem? hj)
  exact Nat.le_of_ble_eq_true this
theorem set116 : (Tryz.prog.info? (Tryz.lays153_ren.t 116)).map (fun i => (i.zero, i.size)) = some (some (.agg (Array.replicate 256 (.bool false))), 256) := by kernel_rfl
theorem IndexAny_spec (ha : asciiB t = true) (hs : s.length < 4294967281) (ht : t.length < 4294967281) (hR : R (.pv (.int .i64 (Lib.indexAny s t))) σ) : A1 (cx w0) T9.id [.pv (.str s), .pv (.str t)] σ R :=
  A1.below (C := cx w0) (S4 Tryz.func116 (by kernel_rfl) (by kernel_rfl)) fun m K w vs hB hv => by
    obtain ⟨x, y, rfl, hx, hy⟩ := hv.two
    obtain rfl := hx.str_inv
    obtain rfl := hy.str_inv
    refine (Ix.IndexAny Tryz.lays153 (zero_of_info set116).1 (zero_of_info set116).2 ⟨s.toArray⟩ ⟨t.toArray⟩ w (by simpa [ByteArray.size] using hs) (by simpa [ByteArray.size] using ht) (asciiB_get ha)).mono ?_
    rintro e w' ⟨rfl, hb⟩
    exact ⟨_, _, rfl, hb, .pv _ _ (.int _ _), hR⟩
theorem set116c : (Tryz.prog.info? (Tryz.lays150_ren.t 116)).map (fun i => (i.zero, i.size)) = some (some (.agg (Array.replicate 256 (.bool false))), 256) := by kernel_rfl
theorem ContainsAny_spec (ha : asciiB t = true) (hs : s.length < 4294967281) (ht : t.length < 4294967281) (hR : R (.pv (.bool (Lib.containsAny s t))) σ) : A1 (cx w0) Q9.id [.pv (.str s), .pv (.str t)] σ R :=
  A1.below (C := cx w0) (S4 Tryz.func94 (by kernel_rfl) (by kernel_rfl)) fun m K w vs hB hv => by
    obtain ⟨x, y, rfl, hx, hy⟩ := hv.two
    obtain rfl := hx.str_inv
    obtain rfl := hy.str_inv
    refine (Ix.ContainsAny Tryz.lays150 (zero_of_info set116c).1 (zero_of_info set116c).2 ⟨s.toArray⟩ ⟨t.toArray⟩ w (by simpa [ByteArray.size] using hs) (by simpa [ByteArray.size] using ht) (asciiB_get ha)).mono ?_
    rintro e w' ⟨rfl, hb⟩
    exact ⟨_, _, rfl, hb, .pv _ _ (.bool _), hR⟩
theorem As_spec (L : Laid w0.w) {n : Int} {ty : TypeId} {old : AV} (ho : σ[id]? = some (.cells ty [old])) (hR : R (.pv (.bool true)) (σ.set id (.cells ty [.int n]))) :
    A1 (cx w0) errors_As.id [.pv (.iface 63 (.int .i64 n)), .iface 65 (.ptr id 0)] σ R := by
  intro m K w vs hB hv
  obtain ⟨x, y, rfl, hx, hy⟩ := hv.two
  have hx' : x = .iface 63 (.int .i64 n) := by
    cases hx with | pv p v hp => cases hp with | iface t p v h => cases h; rfl
  subst hx'
  obtain ⟨z, rfl, hz⟩ : ∃ z, y = .iface 65 z ∧ ARep m K (.ptr id 0) z := by
    cases hy with | iface t p v h => exact ⟨v, rfl, h⟩
  obtain ⟨b, cap, es, rfl, hm⟩ := hz.ptr_inv
  obtain ⟨b', cap', es', arr, hm', hh, hl, hr, hk⟩ := hB.obj id _ ho
  rw [hm] at hm'; cases hm'
  obtain ⟨u, hu⟩ : ∃ u, arr[0]? = some u := ⟨arr[0]'(by simp at hl; omega), Array.getElem?_eq_getElem _⟩
  have h0 : w.cell? ⟨b, 0, none⟩ = some u := by rw [P3 w b 0 hh, hu]
  have hf : w.frozen? ⟨b, 0, none⟩ = false := by rw [frozen_heap w b 0 hh]; simp
  have hg : w.cell? ⟨0, 0, none⟩ = some (.iface 158 (.agg #[.pointer (some ⟨9, 29, none⟩)])) := by
    have hlt : 0 < w0.w.heap.size := by
      obtain ⟨cs, t, fr, hb, _⟩ := heap_of_cell L.errT
      exact (Array.getElem?_eq_some_iff.1 hb).1
    rw [hB.below.cell (p := ⟨0, 0, none⟩) hlt]
    exact L.errT
  refine L3.of_calls (S4 Tryz.func27 (by kernel_rfl) (by kernel_rfl) _ w) ((as_hit n ⟨b, 0, none⟩ u w hg h0 hf).mono ?_)
  rintro e w' ⟨rfl, rfl⟩
  have hbig : ∀ {w1 : World} (o : Obj), Bears (cx w0) m K σ w1 → Bears (cx w0) m K σ (w1.alloc o) := fun o h => h.grown ((Below.refl _ _).alloc (Nat.le_refl _) o)
  have hB4 := hbig (.cells #[.int .i64 n] 63) (hbig (.cells #[.pointer (some ⟨9, 65, none⟩), .pointer (some ⟨w.heap.size, 0, none⟩), .int .u64 150] 106) (hbig (.cells #[.pointer (some ⟨9, 65, none⟩), .pointer (some ⟨w.heap.size, 0, none⟩), .int .u64 150] 106) (hbig (.cells #[.pointer (some ⟨b, 0, none⟩)] 65) hB)))
  have hB' := hB4.set_one ho hm (a := .int n) (.pv _ _ (.int _ n)) rfl
  exact ⟨_, rfl, _, m, K, _, hB', by simp, Le.refl _ _ _, .pv _ _ (.bool true), hR⟩
end
def POK (C : Ctx) (f : FuncId) (p : List AV → Store → Option (AV × Store)) : Prop := ∀ args σ r σ', p args σ = some (r, σ') → ∀ R : AV → Store → Prop, R r σ' → A1 C f args σ R
def primOf : List (FuncId × (List AV → Store → Option (AV × Store))) → V8
  | [], _, _, _ => none
  | (g, p) :: r, f, args, σ => match Nat.beq g f with
    | true => p args σ
    | false => primOf r f args σ
def PsOK (C : Ctx) : List (FuncId × (List AV → Store → Option (AV × Store))) → Prop
  | [] => True
  | (f, p) :: r => POK C f p ∧ PsOK C r
theorem primOf_ok {C : Ctx} : ∀ (l : List (FuncId × (List AV → Store → Option (AV × Store)))), PsOK C l → U5 C (primOf l)
  | [], _ => fun f args σ r σ' h => by cases h
  | (g, p) :: rest, hl => fun f args σ r σ' h R hR => by
    unfold primOf at h
    split at h
    · rename_i he
      rw [← Nat.eq_of_beq_eq_true he]
      exact hl.1 _ _ _ _ h R hR
    · exact primOf_ok rest hl.2 f args σ r σ' h R hR
def isBld (ty el : TypeId) : Bool := Nat.beq ty 58 && Nat.beq el 5
def pWriteString : List AV → Store → Option (AV × Store)
  | [.ptr id 0, .pv (.str t)], σ => match σ[id]? with
    | some (.bld ty el s) => match isBld ty el && Nat.ble (s.length + t.length) 140737488355328 with
      | true => some (.tup [.int t.length, .nilI], σ.set id (.bld ty el (s ++ t)))
      | false => none
    | _ => none
  | _, _ => none
def pWriteByte : List AV → Store → Option (AV × Store)
  | [.ptr id 0, .pv (.int .u8 n)], σ => match σ[id]? with
    | some (.bld ty el s) => match isBld ty el && Nat.ble (s.length + 1) 140737488355328 && decide (0 ≤ n) && decide (n ≤ 255) with
      | true => some (.nilI, σ.set id (.bld ty el (s ++ [UInt8.ofNat n.toNat])))
      | false => none
    | _ => none
  | _, _ => none
def pString : List AV → Store → Option (AV × Store)
  | [.ptr id 0], σ => match σ[id]? with
    | some (.bld ty el s) => match isBld ty el with
      | true => some (.pv (.str s), σ)
      | false => none
    | _ => none
  | _, _ => none
def digF : Nat → Nat → List UInt8
  | 0, _ => []
  | f + 1, u => match Nat.ble 10 u with
    | false => [UInt8.ofNat (48 + u)]
    | true => digF f (u / 10) ++ [UInt8.ofNat (48 + u % 10)]
theorem digF_eq : ∀ (f u : Nat), u < 10 ^ f → 0 < f → digF f u = Lib.decDigits u
  | 0, u, _, h0 => absurd h0 (Nat.lt_irrefl _)
  | f + 1, u, h, _ => by
    unfold digF
    rw [Lib.decDigits]
    by_cases hu : u < 10
    · rw [dif_pos hu]
      have : Nat.ble 10 u = false := by
        cases hb : Nat.ble 10 u with
        | false => rfl
        | true => have := Nat.le_of_ble_eq_true hb; omega
      rw [this]
    · rw [dif_neg hu, Nat.ble_eq_true_of_le (show 10 ≤ u by omega)]
      have hf : 0 < f := by
        rcases Nat.eq_zero_or_pos f with h0 | h0
        · subst h0; simp at h; omega
        · exact h0
      have : u / 10 < 10 ^ f := by rw [Nat.pow_succ] at h; omega
      simp only [digF_eq f (u / 10) this hf]
def itoaF (n : Int) : List UInt8 := match n with
  | .ofNat u => digF 20 u
  | .negSucc u => 45 :: digF 20 (u + 1)
theorem itoaF_eq {n : Int} (h0 : -9223372036854775808 ≤ n) (h1 : n ≤ 9223372036854775807) : itoaF n = Lib.itoa n := by
  unfold itoaF Lib.itoa
  cases n with
  | ofNat u =>
    have : (Int.ofNat u) = (u : Int) := rfl
    rw [if_neg (by omega)]
    exact digF_eq 20 u (by omega) (by decide)
  | negSucc u =>
    rw [if_pos (by omega)]
    have : (Int.negSucc u).natAbs = u + 1 := rfl
    rw [this]
    simp only [digF_eq 20 (u + 1) (by omega) (by decide)]
def pItoa : List AV → Store → Option (AV × Store)
  | [.pv (.int .i64 n)], σ => match decide (-9223372036854775808 ≤ n) && decide (n ≤ 9223372036854775807) with
    | true => some (.pv (.str (itoaF n)), σ)
    | false => none
  | _, _ => none
def pAs : List AV → Store → Option (AV × Store)
  | [.pv (.iface t (.int .i64 n)), .iface u (.ptr id 0)], σ => match Nat.beq t 63 && Nat.beq u 65 with
    | true => match σ[id]? with
      | some (.cells ty [_]) => some (.pv (.bool true), σ.set id (.cells ty [.int n]))
      | _ => none
    | false => none
  | _, _ => none
def pStr2 (ok : List UInt8 → List UInt8 → Bool) (f : List UInt8 → List UInt8 → PV) : List AV → Store → Option (AV × Store)
  | [.pv (.str s), .pv (.str t)], σ => match ok s t with
    | true => some (.pv (f s t), σ)
    | false => none
  | _, _ => none
theorem pStr2_ok {C : Ctx} {g : FuncId} {ok : List UInt8 → List UInt8 → Bool} {f : List UInt8 → List UInt8 → PV} (h : ∀ (s t : List UInt8) (σ : Store) (R : AV → Store → Prop), ok s t = true → R (.pv (f s t)) σ → A1 C g [.pv (.str s), .pv (.str t)] σ R) : POK C g (pStr2 ok f) := by
  intro args σ r σ' h' R hR
  unfold pStr2 at h'
  split at h'
  · split at h'
    · rename_i hc
      cases h'
      exact h _ _ _ _ hc hR
    · cases h'
  · cases h'
def okLen (s t : List UInt8) : Bool := Nat.ble s.length 140737488355328
def okOne (s : List UInt8) : List UInt8 → Bool
  | [_] => true
  | _ => false
def W2 : List AV → Store → Option (AV × Store)
  | [.pv (.str s), .pv (.int .u8 n)], σ => match decide (0 ≤ n) && decide (n ≤ 255) with
    | true => some (.pv (.int .i64 (Lib.indexByte s (UInt8.ofNat n.toNat))), σ)
    | false => none
  | _, _ => none
def okAny (s t : List UInt8) : Bool := asciiB t && Nat.blt s.length 4294967281 && Nat.blt t.length 4294967281
section
variable {w0 : Base}
theorem pWriteString_ok : POK (cx w0) B2.id pWriteString := by
  intro args σ r σ' h R hR
  unfold pWriteString at h
  split at h
  · rename_i id t
    split at h
    · rename_i ty el s ho
      split at h
      · rename_i hc
        simp only [isBld, Bool.and_eq_true] at hc
        obtain ⟨⟨h1, h2⟩, h3⟩ := hc
        obtain rfl := Nat.eq_of_beq_eq_true h1
        obtain rfl := Nat.eq_of_beq_eq_true h2
        cases h
        exact E8 ho (Nat.le_of_ble_eq_true h3) hR
      · cases h
    · cases h
  · cases h
theorem pWriteByte_ok : POK (cx w0) G5.id pWriteByte := by
  intro args σ r σ' h R hR
  unfold pWriteByte at h
  split at h
  · rename_i id n
    split at h
    · rename_i ty el s ho
      split at h
      · rename_i hc
        simp only [isBld, Bool.and_eq_true, decide_eq_true_eq] at hc
        obtain ⟨⟨⟨⟨h1, h2⟩, h3⟩, h4⟩, h5⟩ := hc
        obtain rfl := Nat.eq_of_beq_eq_true h1
        obtain rfl := Nat.eq_of_beq_eq_true h2
        cases h
        have e : ((UInt8.ofNat n.toNat).toNat : Int) = n := by
          rw [UInt8.toNat_ofNat']; omega
        have := Q2 (w0 := w0) (c := UInt8.ofNat n.toNat) ho (Nat.le_of_ble_eq_true h3) hR
        rw [e] at this
        exact this
      · cases h
    · cases h
  · cases h
theorem pString_ok : POK (cx w0) I8.id pString := by
  intro args σ r σ' h R hR
  unfold pString at h
  split at h
  · rename_i id
    split at h
    · rename_i ty el s ho
      split at h
      · rename_i hc
        simp only [isBld, Bool.and_eq_true] at hc
        obtain rfl := Nat.eq_of_beq_eq_true hc.1
        obtain rfl := Nat.eq_of_beq_eq_true hc.2
        cases h
        exact V2 ho hR
      · cases h
    · cases h
  · cases h
theorem pItoa_ok (L : Laid w0.w) : POK (cx w0) P5.id pItoa := by
  intro args σ r σ' h R hR
  unfold pItoa at h
  split at h
  · split at h
    · rename_i hc
      simp only [Bool.and_eq_true, decide_eq_true_eq] at hc
      cases h
      rw [itoaF_eq hc.1 hc.2] at hR
      exact W3 L hc.1 hc.2 hR
    · cases h
  · cases h
theorem pAs_ok (L : Laid w0.w) : POK (cx w0) errors_As.id pAs := by
  intro args σ r σ' h R hR
  unfold pAs at h
  split at h
  · split at h
    · rename_i hc
      simp only [Bool.and_eq_true] at hc
      obtain rfl := Nat.eq_of_beq_eq_true hc.1
      obtain rfl := Nat.eq_of_beq_eq_true hc.2
      split at h
      · rename_i ho
        cases h
        exact As_spec L ho hR
      · cases h
    · cases h
  · cases h
theorem pHasPrefix_ok : POK (cx w0) Q5.id (pStr2 (fun _ _ => true) fun s t => .bool (Lib.hasPrefix s t)) := pStr2_ok fun s t σ R _ hR => HasPrefix_spec hR
theorem pHasSuffix_ok : POK (cx w0) S7.id (pStr2 okLen fun s t => .bool (Lib.hasSuffix s t)) := pStr2_ok fun s t σ R h hR => HasSuffix_spec (Nat.le_trans (Nat.le_of_ble_eq_true h) (by decide)) hR
theorem pTrimSuffix_ok : POK (cx w0) R7.id (pStr2 okLen fun s t => .str (Lib.trimSuffix s t)) := pStr2_ok fun s t σ R h hR => TrimSuffix_spec (Nat.le_trans (Nat.le_of_ble_eq_true h) (by decide)) hR
theorem pTrimPrefix_ok : POK (cx w0) R8.id (pStr2 (fun _ _ => true) fun s t => .str (Lib.trimPrefix s t)) := pStr2_ok fun s t σ R _ hR => TrimPrefix_spec hR
theorem pContains_ok : POK (cx w0) P8.id (pStr2 okOne fun s t => .bool (s.contains (t.headD 0))) := pStr2_ok fun s t σ R h hR => by
  cases t with
  | nil => cases h
  | cons c r =>
    cases r with
    | nil => exact V5 hR
    | cons _ _ => cases h
theorem pContainsAny_ok : POK (cx w0) Q9.id (pStr2 okAny fun s t => .bool (Lib.containsAny s t)) := pStr2_ok fun s t σ R h hR => by
  simp only [okAny, Bool.and_eq_true] at h
  exact ContainsAny_spec h.1.1 (Nat.le_of_ble_eq_true h.1.2) (Nat.le_of_ble_eq_true h.2) hR
theorem pIndexAny_ok : POK (cx w0) T9.id (pStr2 okAny fun s t => .int .i64 (Lib.indexAny s t)) := pStr2_ok fun s t σ R h hR => by
  simp only [okAny, Bool.and_eq_true] at h
  exact IndexAny_spec h.1.1 (Nat.le_of_ble_eq_true h.1.2) (Nat.le_of_ble_eq_true h.2) hR
theorem pIndexByte_ok : POK (cx w0) S6.id W2 := by
  intro args σ r σ' h R hR
  unfold W2 at h
  split at h
  · rename_i s n
    split at h
    · rename_i hc
      simp only [Bool.and_eq_true, decide_eq_true_eq] at hc
      cases h
      have e : ((UInt8.ofNat n.toNat).toNat : Int) = n := by rw [UInt8.toNat_ofNat']; omega
      have := IndexByte_spec (w0 := w0) (s := s) (c := UInt8.ofNat n.toNat) hR
      rw [e] at this
      exact this
    · cases h
  · cases h
end
def prims : List (FuncId × (List AV → Store → Option (AV × Store))) := [(B2.id, pWriteString), (G5.id, pWriteByte), (I8.id, pString), (P5.id, pItoa),
  (Q5.id, pStr2 (fun _ _ => true) fun s t => .bool (Lib.hasPrefix s t)),
  (S7.id, pStr2 okLen fun s t => .bool (Lib.hasSuffix s t)),
  (R7.id, pStr2 okLen fun s t => .str (Lib.trimSuffix s t)),
  (R8.id, pStr2 (fun _ _ => true) fun s t => .str (Lib.trimPrefix s t)),
  (P8.id, pStr2 okOne fun s t => .bool (s.contains (t.headD 0))),
  (Q9.id, pStr2 okAny fun s t => .bool (Lib.containsAny s t)),
  (T9.id, pStr2 okAny fun s t => .int .i64 (Lib.indexAny s t)),
  (S6.id, W2),
  (errors_As.id, pAs)]
theorem prims_ok {w0 : Base} (L : Laid w0.w) : PsOK (cx w0) prims := ⟨pWriteString_ok, pWriteByte_ok, pString_ok, pItoa_ok L,
  pHasPrefix_ok,
  pHasSuffix_ok,
  pTrimSuffix_ok,
  pTrimPrefix_ok,
  pContains_ok,
  pContainsAny_ok,
  pIndexAny_ok,
  pIndexByte_ok,
  pAs_ok L, trivial⟩
def feTab : List (FuncId × FE) → FuncId → Option FE
  | [], _ => none
  | (g, x) :: r, f => match Nat.beq g f with
    | true => some x
    | false => feTab r f
def FEsOK (C : Ctx) : List (FuncId × FE) → Prop
  | [] => True
  | (f, x) :: r => FOK C f x ∧ FEsOK C r
theorem feTab_ok {C : Ctx} : ∀ (l : List (FuncId × FE)), FEsOK C l → ∀ f x, feTab l f = some x → FOK C f x
  | [], _, f, x, h => by cases h
  | (g, y) :: r, hl, f, x, h => by
    unfold feTab at h
    split at h
    · rename_i he
      cases h
      rw [← Nat.eq_of_beq_eq_true he]; exact hl.1
    · exact feTab_ok r hl.2 f x h
theorem run_calls {w0 : Base} (L : Laid w0.w) {T : List (FuncId × FE)} (hT : FEsOK (cx w0) T) {depth fuel : Nat} {f : FuncId} {args : List AV} {σ : Store} {r : AV} {σ' : Store} (h : rcall (cx w0) (feTab T) (primOf prims) depth fuel f args σ = some (r, σ')) {R : AV → Store → Prop} (hR : R r σ') : A1 (cx w0) f args σ R :=
  rcall_in (cxOK w0) (cxG w0) (feTab_ok T hT) (primOf_ok prims (prims_ok L)) fuel f args σ r σ' h R hR
theorem Laid.mono {w0 w : World} (L : Laid w0) (hb : Below w0.heap.size w0 w) : Laid w := by
  refine ⟨Lib.tabBelow_of_tabIs L.pow10 w hb, ?_⟩
  have hlt : 0 < w0.heap.size := by
    obtain ⟨cs, t, fr, h, _⟩ := heap_of_cell L.errT
    exact (Array.getElem?_eq_some_iff.1 h).1
  rw [hb.cell (p := ⟨0, 0, none⟩) hlt]
  exact L.errT
theorem A1.alone {w0 : Base} {f : FuncId} {args : List AV} {σ : Store} {R : AV → Store → Prop} {r : AV} (L : Laid w0.w) (ha : args.all AV.isPv = true) (h : ∀ w1 : Base, Laid w1.w → A1 (cx w1) f args [] fun r' _ => r' = r) (hn : AV.under 0 r = true) (hR : R r σ) : A1 (cx w0) f args σ R := by
  intro m K w vs hB hv
  have hB1 : Bears (cx ⟨w, K⟩) (fun _ _ => none) K [] w := ⟨Below.refl _ _, hB.keep, (fun _ _ _ h => nomatch h), (fun id x h => nomatch (show (none : Option SObj) = some x from h)), (fun id x b h => nomatch (show (none : Option SObj) = some x from h)), (fun id x id' x' b h => nomatch (show (none : Option SObj) = some x from h)), (fun g a h => nomatch (show (none : Option AV) = some a from h)), fun b o v h => .inl h⟩
  have hv1 : Reps (fun _ _ => none) K args vs := ⟨hv.1, fun j a v hj hjv => (hv.2 j a v hj hjv).pvs (List.all_eq_true.1 ha a (List.mem_of_getElem? hj))⟩
  refine L3.mono (h ⟨w, K⟩ (L.mono hB.below) _ K w vs hB1 hv1) fun v w' ⟨r', m', K', σ', hB', _, hle, hr, e⟩ => ?_
  subst e
  have hK := hle.2
  refine ⟨r', m, K', σ, hB.moreK hB'.below hK (fun b o v h => hB'.old b o v h) hB'.keep, Nat.le_refl _, ⟨fun _ _ _ _ h => h, hK⟩, (hr.cut (k := 0) hn).mono ⟨fun id ver l h => ?_, fun _ _ _ h => h⟩, hR⟩
  simp [cutMp] at h
end Go.Sv
