/- strings.Builder's methods as calls over stores. No program stands in this text. -/
import Derived.Test.YthkedonibhajbaaDoorSvBe
import Derived.Test.YthkedonibhajbaaDoorSvS
set_option linter.unusedVariables false
set_option linter.unusedSimpArgs false
namespace Go.Sv
open Go Go.RowKit Go.Shelf Go.Proofs

theorem byteCells_bytes {s : List UInt8} {arr : Array Value} (hl : s.length ≤ arr.size) (h : ∀ (j : Nat) c, s[j]? = some c → arr[j]? = some (.int .u8 (c.toNat : Int))) : arr.toList.take s.length = Lib.byteCells s := by
  apply List.ext_getElem?
  intro j
  rw [List.getElem?_take]
  split
  · rename_i hj
    have := h j s[j] (List.getElem?_eq_getElem hj)
    rw [Array.getElem?_toList, this]
    simp [Lib.byteCells, hj]
  · rename_i hj
    exact (List.getElem?_eq_none (by rw [Lib.byteCells_length]; omega)).symm
theorem bytes_byteCells {s : List UInt8} {arr : Array Value} (h : arr.toList.take s.length = Lib.byteCells s) (j : Nat) (c : UInt8) (hc : s[j]? = some c) : arr[j]? = some (.int .u8 (c.toNat : Int)) := by
  have hj := (List.getElem?_eq_some_iff.1 hc).1
  have : (arr.toList.take s.length)[j]? = some (.int .u8 (c.toNat : Int)) := by rw [h]; simp [Lib.byteCells, hc]
  rw [List.getElem?_take, if_pos hj, Array.getElem?_toList] at this
  exact this
/-- A builder in a store, as the walks see it. -/
theorem Bears.bld_is {C : Ctx} {m : Mp} {K : KS} {σ : Store} {w : World} (hB : Bears C m K σ w) {id : Nat} {ty el : TypeId} {s : List UInt8} (ho : σ[id]? = some (.bld ty el s)) :
    ∃ b cap es p v, m id 0 = some (.at b cap es) ∧ (p = .pointer none ∨ p = .pointer (some ⟨b, 0, none⟩)) ∧ BIs ty el w b p v (Lib.byteCells s) ∧ (∀ o u, ¬ K b o u) ∧ (∀ g, v.ownBlock = some g → g ∈ blk m id (.bld ty el s) ∧ ∀ o u, ¬ K g o u) ∧
      (∀ ver l, m id ver = some l → ver ≤ s.length + 1) ∧ (v = .slice none 0 0 ∧ s = [] ∧ m id 1 = some .nil ∨ ∃ g c, v = .slice (some ⟨g, 0, none⟩) s.length c ∧ m id (s.length + 1) = some (.at g c 1)) := by
  obtain ⟨b, cap, es, p, v, hm, hh, hp, hk, hver, hc⟩ := hB.obj id _ ho
  refine ⟨b, cap, es, p, v, hm, hp, ?_, hk, ?_, hver, ?_⟩
  · rcases hc with ⟨rfl, hm2, rfl⟩ | ⟨b2, cap2, arr, fr, hm2, hne, rfl, hh2, h1, h2, h3, h4, h5, h6⟩
    · exact ⟨hh, ⟨rfl, .inl ⟨rfl, rfl⟩⟩, by simp [Value.ownBlock]⟩
    · refine ⟨hh, ⟨by simp, .inr ⟨b2, cap2, arr, fr, by rw [Lib.byteCells_length], Nat.zero_le _, hh2, by rw [Lib.byteCells_length]; omega, by rw [Lib.byteCells_length]; exact h1, h2, by omega, ?_⟩⟩, by simpa [Value.ownBlock] using hne⟩
      rw [Lib.byteCells_length, Nat.mul_one]
      exact byteCells_bytes (by omega) h4
  · intro g hg
    rcases hc with ⟨rfl, hm2, rfl⟩ | ⟨b2, cap2, arr, fr, hm2, hne, rfl, hh2, h1, h2, h3, h4, h5, h6⟩
    · simp [Value.ownBlock] at hg
    · simp [Value.ownBlock] at hg
      subst hg
      exact ⟨by simp [blk, Loc.blk, hm2], h6⟩
  · rcases hc with ⟨rfl, hm2, rfl⟩ | ⟨b2, cap2, arr, fr, hm2, hne, rfl, hh2, h1, h2, h3, h4, h5, h6⟩
    · exact .inl ⟨rfl, rfl, hm2⟩
    · exact .inr ⟨b2, cap2, rfl, hm2⟩
/-- .. and put back. -/
theorem Bears.bld_put {C : Ctx} {m : Mp} {K : KS} {σ : Store} {w w' : World} (hB : Bears C m K σ w) {id : Nat} {ty el : TypeId} {s s' : List UInt8} (ho : σ[id]? = some (.bld ty el s)) {b cap es : Nat} {v v' p' : Value}
    (hm : m id 0 = some (.at b cap es)) (hk : ∀ o u, ¬ K b o u) (hg : ∀ g, v.ownBlock = some g → g ∈ blk m id (.bld ty el s) ∧ ∀ o u, ¬ K g o u) (hver : ∀ ver l, m id ver = some l → ver ≤ s.length + 1)
    (hv : v = .slice none 0 0 ∧ s = [] ∧ m id 1 = some .nil ∨ ∃ g c, v = .slice (some ⟨g, 0, none⟩) s.length c ∧ m id (s.length + 1) = some (.at g c 1)) (hp' : p' = .pointer none ∨ p' = .pointer (some ⟨b, 0, none⟩))
    (hI : BIs ty el w' b p' v' (Lib.byteCells s')) (hF : BFrame w w' b v v' (s'.length = s.length)) (hlen : s.length ≤ s'.length) : ∃ m', Bears C m' K (σ.set id (.bld ty el s')) w' ∧ Ext m K m' K := by
  obtain ⟨f1, f2, f3, f4, f5, f6, f7⟩ := hF
  obtain ⟨hh', hown', hne'⟩ := hI
  have hid : id < σ.length := (List.getElem?_eq_some_iff.1 ho).1
  have hbmem : b ∈ blk m id (.bld ty el s) := by simp [blk, Loc.blk, hm]
  have hb0 := hB.base id _ b ho hbmem
  have hkept : ∀ k, k < w.heap.size → k ∉ blk m id (.bld ty el s) → w'.heap[k]? = w.heap[k]? := fun k hk hn =>
    f5 k hk (fun e => hn (by rw [e]; exact hbmem)) (fun e => hn (hg k e).1)
  -- where the new buffer lies
  have key : ∃ m' : Mp, (∀ i ver l, m i ver = some l → m' i ver = some l) ∧ (∀ i, i ≠ id → m' i = m i) ∧ (∀ ver l, m' id ver = some l → ver ≤ s'.length + 1) ∧
      (v' = .slice none 0 0 ∧ s' = [] ∧ m' id 1 = some .nil ∨ ∃ g c arr fr, v' = .slice (some ⟨g, 0, none⟩) s'.length c ∧ m' id (s'.length + 1) = some (.at g c 1) ∧ w'.heap[g]? = some (.cells arr el fr) ∧ fr.2 ≤ s'.length ∧ s'.length ≤ c ∧ c ≤ maxLen ∧ arr.size = c ∧ arr.toList.take s'.length = Lib.byteCells s') := by
    rw [Lib.byteCells_length] at hown'
    rcases hown'.2 with ⟨rfl, h0⟩ | ⟨g, c, arr, fr, rfl, _, h1, h2, h3, h4, h5, h6⟩
    · have hs' : s' = [] := List.eq_nil_of_length_eq_zero h0
      subst hs'
      have hs : s = [] := List.eq_nil_of_length_eq_zero (by simpa using hlen)
      subst hs
      rcases hv with ⟨_, _, hm1⟩ | ⟨g, c, rfl, hm1⟩
      · exact ⟨m, fun _ _ _ h => h, fun _ _ => rfl, hver, .inl ⟨rfl, rfl, hm1⟩⟩
      · have := f7 rfl
        simp at this
    · by_cases e : s'.length = s.length
      · have hvv := f7 e
        rcases hv with ⟨rfl, _, _⟩ | ⟨g2, c2, rfl, hm1⟩
        · simp at hvv
        · simp at hvv
          obtain ⟨rfl, _, rfl⟩ := hvv
          exact ⟨m, fun _ _ _ h => h, fun _ _ => rfl, by rw [e]; exact hver, .inr ⟨g, c, arr, fr, rfl, by rw [e]; exact hm1, h1, by omega, h3, h4, by omega, by rw [Nat.mul_one] at h6; exact h6⟩⟩
      · have hnone : m id (s'.length + 1) = none := by
          cases h : m id (s'.length + 1) with
          | none => rfl
          | some l => have := hver _ _ h; omega
        refine ⟨setMp m id (s'.length + 1) (.at g c 1), setMp_new hnone, fun i h => setMp_other _ _ _ _ _ h, fun ver l h => ?_, .inr ⟨g, c, arr, fr, rfl, setMp_same _ _ _ _, h1, by omega, h3, h4, by omega, by rw [Nat.mul_one] at h6; exact h6⟩⟩
        unfold setMp at h
        split at h
        · rename_i e2; exact Nat.le_of_eq e2.2
        · have := hver _ _ h; omega
  obtain ⟨m', hm1, hm2, hm3, hm4⟩ := key
  have hm0 : m' id 0 = some (.at b cap es) := hm1 _ _ _ hm
  have hnewblk : ∀ k, k ∈ blk m' id (.bld ty el s') → k = b ∨ v'.ownBlock = some k := by
    intro k hk
    rcases hm4 with ⟨rfl, rfl, h⟩ | ⟨g, c, arr, fr, rfl, h, _⟩
    · simp [blk, Loc.blk, hm0, h] at hk
      exact .inl hk
    · simp [blk, Loc.blk, hm0, h] at hk
      rcases hk with h | h
      · exact .inl h
      · exact .inr (by simp [Value.ownBlock, h])
  refine ⟨m', hB.step id (.bld ty el s') (fun i x h => get_set hid h) (by simp) (by simpa using hid) hm1 hm2 ⟨f1.trans hB.below.os, f2.trans hB.below.tape, f3.trans hB.below.output, Nat.le_trans hB.below.size f4, fun k hk => ?_⟩ (fun b' o u h => ?_) (fun i x b' hne hs hb' => ?_) ?_ (fun b' hb' => ?_) (fun b' hb' i x hne hs hx => ?_), ⟨hm1, fun _ _ _ h => h⟩⟩
  · have hlt : k < w.heap.size := Nat.lt_of_lt_of_le hk hB.below.size
    rw [hkept k hlt (fun hmem => by have := hB.base id _ k ho hmem; omega)]
    exact hB.below.block k hk
  · refine World.cell?_of_block (w := w) (hkept b' (hB.keep_lt h) (fun hmem => ?_))
    rcases List.mem_append.1 hmem with h2 | h2
    · have : b' = b := by simpa [Loc.blk, hm] using h2
      subst this; exact hk _ _ h
    · rcases hv with ⟨_, rfl, hm1⟩ | ⟨g, c, hvv, hm1⟩
      · simp [Loc.blk, hm1] at h2
      · have : b' = g := by simpa [Loc.blk, hm1] using h2
        subst this
        exact (hg b' (by simp [hvv, Value.ownBlock])).2 _ _ h
  · exact hkept b' (hB.lt hs hb') (fun hmem => hne (hB.apart i x id _ b' hs ho hb' hmem))
  · refine ⟨b, cap, es, p', v', hm0, hh', hp', hk, hm3, ?_⟩
    rcases hm4 with ⟨h1, h2, h3⟩ | ⟨g, c, arr, fr, h1, h2, h3, h4, h5, h6, h7, h8⟩
    · exact .inl ⟨h2, h3, h1⟩
    · have hgb : g ≠ b := fun e => hne' (by simp [h1, Value.ownBlock, e])
      refine .inr ⟨g, c, arr, fr, h2, hgb, h1, h3, h5, h6, h7, bytes_byteCells h8, h4, fun o u h => ?_⟩
      rcases f6 g (by simp [h1, Value.ownBlock]) with hh | hh
      · exact (hg g hh).2 _ _ h
      · have := hB.keep_lt h; omega
  · rcases hnewblk b' hb' with rfl | h
    · exact hb0
    · rcases f6 b' h with hh | hh
      · exact hB.base id _ b' ho (hg b' hh).1
      · exact Nat.le_trans hB.below.size hh
  · rcases hnewblk b' hb' with rfl | h
    · exact hne (hB.apart i x id _ b' hs ho hx hbmem)
    · rcases f6 b' h with hh | hh
      · exact hne (hB.apart i x id _ b' hs ho hx (hg b' hh).1)
      · have := hB.lt hs hx; omega
theorem byteCells_append (s t : List UInt8) : Lib.byteCells s ++ Lib.byteCells t = Lib.byteCells (s ++ t) := by simp [Lib.byteCells]
/-- A method that writes. -/
theorem SCalls.bld_write {C : Ctx} {f : FuncId} {args : List AV} {σ : Store} {R : AV → Store → Prop} {id : Nat} {ty el : TypeId} {s t : List UInt8} {r : AV} (hc : ∀ vs w, (callFunc f vs).run C.P w = .ok (.enter f vs) w) (ho : σ[id]? = some (.bld ty el s))
    (h : ∀ m K w vs b p v, Bears C m K σ w → Reps m K args vs → (∃ cap es, m id 0 = some (.at b cap es)) → BIs ty el w b p v (Lib.byteCells s) → (p = .pointer none ∨ p = .pointer (some ⟨b, 0, none⟩)) →
      Calls C.P f vs w fun e w' => ∃ u, e = .returned u ∧ ARep m K r u ∧ BPost ty el w w' b v (Lib.byteCells s) (Lib.byteCells (s ++ t)))
    (hR : R r (σ.set id (.bld ty el (s ++ t)))) : SCalls C f args σ R := by
  intro m K w vs hB hv
  obtain ⟨b, cap, es, p, v, hm, hp, hI, hk, hg, hver, hvv⟩ := hB.bld_is ho
  refine CallNext.of_calls (hc vs w) ((h m K w vs b p v hB hv ⟨cap, es, hm⟩ hI hp).mono fun e w' ⟨u, he, hu, v', hI', hF⟩ => ?_)
  obtain ⟨m', hB', hx⟩ := hB.bld_put ho hm hk hg hver hvv (.inr rfl) hI' (by simpa [Lib.byteCells_length] using hF) (by simp)
  exact ⟨u, he, r, m', K, _, hB', by simp, hx.le _, hu.mono hx, hR⟩
section
variable {C : Ctx} {ρ ρ' : Ren} {σ : Store} {R : AV → Store → Prop} {id : Nat} {ty el : TypeId} {s : List UInt8} {f : FuncId}
theorem SCalls.WriteString (L : Lays.n166 C.P ρ) (X : Builder.Extra C.P ρ) (hf : ρ.f 166 = f) (h72 : ρ.t 72 = ty) (h5 : ρ.t 5 = el) {t : List UInt8} (hc : ∀ vs w, (callFunc f vs).run C.P w = .ok (.enter f vs) w) (ho : σ[id]? = some (.bld ty el s)) (hlen : s.length + t.length ≤ 140737488355328)
    (hR : R (.tup [.pv (.int .i64 t.length), .pv (.raw .nilIface)]) (σ.set id (.bld ty el (s ++ t)))) : SCalls C f [.ptr id 0, .pv (.str t)] σ R := by
  subst hf; subst h72; subst h5
  refine SCalls.bld_write (t := t) hc ho (fun m K w vs b p v hB hv ⟨cap, es, hm⟩ hI hp => ?_) hR
  obtain ⟨x, y, rfl, hx, hy⟩ := hv.two
  obtain ⟨b2, _, _, rfl, hm2⟩ := hx.ptr_inv
  rw [hm] at hm2; cases hm2
  obtain rfl := hy.str_inv
  refine (bld_WriteString L X ⟨t.toArray⟩ hI hp (by simpa [Lib.byteCells_length, ByteArray.size] using hlen)).mono fun e w' ⟨he, hP⟩ => ⟨_, he, ?_, ?_⟩
  · refine .tup _ _ rfl (fun j a u ha hu => ?_)
    match j with
    | 0 => simp at ha hu; subst ha; subst hu; exact .pv _ _ (by simpa [ByteArray.size] using PRep.int .i64 (t.length : Int))
    | 1 => simp at ha hu; subst ha; subst hu; exact .pv _ _ (.raw _ rfl)
    | j + 2 => simp at ha
  · have : Lib.strCells ⟨t.toArray⟩ = Lib.byteCells t := by simp [Lib.strCells, Lib.byteCells]
    rw [this, byteCells_append] at hP
    exact hP
theorem SCalls.WriteByte (L : Lays.n167 C.P ρ) (X : Builder.Extra C.P ρ) (hf : ρ.f 167 = f) (h72 : ρ.t 72 = ty) (h5 : ρ.t 5 = el) {c : UInt8} (hc : ∀ vs w, (callFunc f vs).run C.P w = .ok (.enter f vs) w) (ho : σ[id]? = some (.bld ty el s)) (hlen : s.length + 1 ≤ 140737488355328)
    (hR : R (.pv (.raw .nilIface)) (σ.set id (.bld ty el (s ++ [c])))) : SCalls C f [.ptr id 0, .pv (.int .u8 c.toNat)] σ R := by
  subst hf; subst h72; subst h5
  refine SCalls.bld_write (t := [c]) hc ho (fun m K w vs b p v hB hv ⟨cap, es, hm⟩ hI hp => ?_) hR
  obtain ⟨x, y, rfl, hx, hy⟩ := hv.two
  obtain ⟨b2, _, _, rfl, hm2⟩ := hx.ptr_inv
  rw [hm] at hm2; cases hm2
  obtain rfl := hy.int_inv
  refine (bld_WriteByte L X c.toNat hI hp (by simpa [Lib.byteCells_length] using hlen)).mono fun e w' ⟨he, hP⟩ => ⟨_, he, .pv _ _ (.raw _ rfl), ?_⟩
  have : [Value.int .u8 (c.toNat : Int)] = Lib.byteCells [c] := by simp [Lib.byteCells]
  rw [this, byteCells_append] at hP
  exact hP
theorem SCalls.BuilderString (L : Lays.n169 C.P ρ) (X : Builder.Extra C.P ρ) (hf : ρ.f 169 = f) (h72 : ρ.t 72 = ty) (h5 : ρ.t 5 = el) (hc : ∀ vs w, (callFunc f vs).run C.P w = .ok (.enter f vs) w) (ho : σ[id]? = some (.bld ty el s))
    (hR : R (.pv (.str s)) σ) : SCalls C f [.ptr id 0] σ R := by
  subst hf; subst h72; subst h5
  intro m K w vs hB hv
  obtain ⟨x, rfl, hx⟩ := hv.one
  obtain ⟨b2, _, _, rfl, hm2⟩ := hx.ptr_inv
  obtain ⟨b, cap, es, p, v, hm, hp, hI, hk, hg, hver, hvv⟩ := hB.bld_is ho
  rw [hm] at hm2; cases hm2
  refine CallNext.of_calls (hc _ w) ((bld_String L X s hI).mono fun e w' ⟨he, hI', hF⟩ => ?_)
  obtain ⟨m', hB', hx⟩ := hB.bld_put (s' := s) ho hm hk hg hver hvv hp hI' ⟨hF.1, hF.2.1, hF.2.2.1, hF.2.2.2.1, hF.2.2.2.2.1, hF.2.2.2.2.2.1, fun _ => rfl⟩ (Nat.le_refl _)
  rw [set_self ho] at hB'
  exact ⟨_, he, _, m', K, σ, hB', Nat.le_refl _, hx.le _, .pv _ _ (.str s), hR⟩
theorem SCalls.BuilderWrite (L : Lays7.n35 C.P ρ) (L' : Lays.n240 C.P ρ') (X : Builder.Extra C.P ρ') (hf : ρ.f 35 = f) (hf' : ρ.f 52 = ρ'.f 240) (h72 : ρ.t 59 = ρ'.t 72) (h5 : ρ.t 5 = ρ'.t 5) (hty : ρ.t 59 = ty) (hel : ρ.t 5 = el) {t : List UInt8} {x : AV} (hc : ∀ vs w, (callFunc f vs).run C.P w = .ok (.enter f vs) w) (ho : σ[id]? = some (.bld ty el s)) (hne : t ≠ [])
    (hx : ∀ m K w v, Bears C m K σ w → ARep m K x v → ∃ b o c, v = .slice (some ⟨b, o, none⟩) t.length c ∧ (∀ b2 cap es, m id 0 = some (.at b2 cap es) → b ≠ b2) ∧ ∀ (j : Nat) u, (Lib.byteCells t)[j]? = some u → w.cell? ⟨b, o + j, none⟩ = some u) (hlen : s.length + t.length ≤ 140737488355328)
    (hR : R (.tup [.pv (.int .i64 t.length), .pv (.raw .nilIface)]) (σ.set id (.bld ty el (s ++ t)))) : SCalls C f [.ptr id 0, x] σ R := by
  subst hf; subst hty; subst hel
  refine SCalls.bld_write (t := t) hc ho (fun m K w vs b p v hB hv ⟨cap, es, hm⟩ hI hp => ?_) hR
  obtain ⟨x', y, rfl, hx', hy⟩ := hv.two
  obtain ⟨b2, _, _, rfl, hm2⟩ := hx'.ptr_inv
  rw [hm] at hm2; cases hm2
  obtain ⟨bb, o, c, rfl, hbb, hcells⟩ := hx m K w y hB hy
  refine (bld_Write L L' X hf' h72 h5 ⟨bb, o, none⟩ t.length c (Lib.byteCells t) hI hp (Lib.byteCells_length t) (fun j u hj => ?_) (hbb _ _ _ hm) (fun u hu => ?_) (by simpa [Lib.byteCells_length] using hlen)).mono fun e w' ⟨he, hP⟩ => ⟨_, he, ?_, ?_⟩
  · rw [addr_add]; exact hcells j u hj
  · obtain ⟨c', _, rfl⟩ := List.mem_map.1 hu
    rfl
  · refine .tup _ _ rfl (fun j a u ha hu => ?_)
    match j with
    | 0 => simp at ha hu; subst ha; subst hu; exact .pv _ _ (.int _ _)
    | 1 => simp at ha hu; subst ha; subst hu; exact .pv _ _ (.raw _ rfl)
    | j + 2 => simp at ha
  · rw [byteCells_append] at hP
    exact hP
end
end Go.Sv
