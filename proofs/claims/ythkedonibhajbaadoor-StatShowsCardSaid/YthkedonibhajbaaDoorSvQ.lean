/- What is known may be forgotten in part: stores cut off, slices handed on for good. No program stands in this text. -/
import Derived.Test.YthkedonibhajbaaDoorSvP
set_option linter.unusedVariables false
set_option linter.unusedSimpArgs false
namespace Go.Sv
open Go Go.RowKit

mutual
/-- No reference to an object from this number on. -/
def AV.under (k : Nat) : AV → Bool
  | .ptr id _ => Nat.ble (id + 1) k
  | .eptr id _ _ _ => Nat.ble (id + 1) k
  | .arr id _ _ _ => Nat.ble (id + 1) k
  | .agg cs => AV.unders k cs
  | .tup cs => AV.unders k cs
  | .iface _ a => AV.under k a
  | .func _ as bs => AV.unders k as && AV.unders k bs
  | _ => true
def AV.unders (k : Nat) : List AV → Bool
  | [] => true
  | a :: r => AV.under k a && AV.unders k r
end
def envUnder (k : Nat) : Env → Bool
  | [] => true
  | (_, a) :: r => AV.under k a && envUnder k r
theorem unders_get {k : Nat} {l : List AV} (h : AV.unders k l = true) {j : Nat} {a : AV} (ha : l[j]? = some a) : AV.under k a = true := by
  induction l generalizing j with
  | nil => simp at ha
  | cons b r ih =>
    simp only [AV.unders, Bool.and_eq_true] at h
    cases j with
    | zero => simp at ha; subst ha; exact h.1
    | succ j => exact ih h.2 (by simpa using ha)
def cutMp (m : Mp) (k : Nat) : Mp := fun id ver => if id < k then m id ver else none
theorem ARep.cut {m : Mp} {K : KS} {a : AV} {v : Value} (h : ARep m K a v) {k : Nat} (hu : AV.under k a = true) : ARep (cutMp m k) K a v := by
  have keep : ∀ {id ver l}, m id ver = some l → Nat.ble (id + 1) k = true → cutMp m k id ver = some l := by
    intro id ver l hm hk
    have := Nat.le_of_ble_eq_true hk
    simp [cutMp, show id < k by omega, hm]
  induction h with
  | pv p v hp => exact .pv p v hp
  | nilsl => exact .nilsl
  | ptr id off b cap es hm => exact .ptr id off b cap es (keep hm hu)
  | eptr id ver i off b cap es hm hi => exact .eptr id ver i off b cap es (keep hm hu) hi
  | ro p off b o vs hl hr hk => exact .ro p off b o vs hl hr hk
  | arr id ver off len b cap es c a hm hc hl hv ha => exact .arr id ver off len b cap es c a (keep hm hu) hc hl hv ha
  | arrNil id hm => exact .arrNil id (keep hm hu)
  | agg cs vs hl hr h1 ih => exact .agg cs vs hl (fun j p v a b => ih j p v a b (unders_get hu a)) h1
  | tup cs vs hl hr ih => exact .tup cs vs hl (fun j p v a b => ih j p v a b (unders_get hu a))
  | iface t p v hp ih => exact .iface t p v (ih hu)
  | func fn as bs us vs hl hr hl' hr' ih ih' =>
    simp only [AV.under, Bool.and_eq_true] at hu
    exact .func fn as bs us vs hl (fun j p v a b => ih j p v a b (unders_get hu.1 a)) hl' (fun j p v a b => ih' j p v a b (unders_get hu.2 a))
  | dead v => exact .dead v
theorem envUnder_get {k : Nat} {env : Env} (h : envUnder k env = true) (t : Nat) : AV.under k (getE env t) = true := by
  induction env with
  | nil => rfl
  | cons x r ih =>
    obtain ⟨u, a⟩ := x
    simp only [envUnder, Bool.and_eq_true] at h
    simp only [getE]
    split
    · exact h.1
    · exact ih h.2
theorem EReps.cut {m : Mp} {K : KS} {env : Env} {vs : Array Value} (h : EReps m K env vs) {k : Nat} (hu : envUnder k env = true) : EReps (cutMp m k) K env vs := fun t => (h t).cut (envUnder_get hu t)
/-- Every object that stays refers to none that goes. -/
def storeUnder (k : Nat) : Store → Bool
  | [] => true
  | .cells _ cs :: r => AV.unders k cs && storeUnder k r
  | _ :: r => storeUnder k r
theorem storeUnder_get {k : Nat} {σ : Store} (h : storeUnder k σ = true) {id : Nat} {ty : TypeId} {cs : List AV} (ho : σ[id]? = some (.cells ty cs)) : AV.unders k cs = true := by
  induction σ generalizing id with
  | nil => simp at ho
  | cons x r ih =>
    cases id with
    | zero =>
      simp at ho; subst ho
      simp only [storeUnder, Bool.and_eq_true] at h
      exact h.1
    | succ id =>
      have hr : storeUnder k r = true := by
        cases x <;> simp only [storeUnder, Bool.and_eq_true] at h <;> first | exact h.2 | exact h
      exact ih hr (by simpa using ho)
theorem blk_cut {m : Mp} {k id : Nat} (h : id < k) (x : SObj) : blk (cutMp m k) id x = blk m id x := by
  cases x <;> simp [blk, cutMp, h]
theorem Bears.cut {C : Ctx} {m : Mp} {K : KS} {σ : Store} {w : World} (hB : Bears C m K σ w) {τ : Store} {k : Nat} (hτ : τ = σ.take k) (hk : k ≤ σ.length) (hu : storeUnder k τ = true) (hg : ∀ g a, C.glob g = some a → AV.under k a = true) : Bears C (cutMp m k) K τ w := by
  have hget : ∀ (id : Nat) x, τ[id]? = some x → id < k ∧ σ[id]? = some x := by
    intro id x h
    rw [hτ, List.getElem?_take] at h
    split at h
    · rename_i hlt; exact ⟨hlt, h⟩
    · cases h
  refine ⟨hB.below, hB.keep, fun id ver l h => ?_, fun id x h => ?_, fun id x b h hb => ?_, fun id x id' x' b h h' hb hb' => ?_, fun g a h => (hB.glob g a h).cut (hg g a h), hB.old⟩
  · unfold cutMp at h
    split at h
    · rename_i hlt
      rw [hτ, List.length_take]; omega
    · cases h
  · obtain ⟨hlt, h'⟩ := hget id x h
    have ho := hB.obj id x h'
    have hc : ∀ ver, cutMp m k id ver = m id ver := fun ver => by simp [cutMp, hlt]
    cases x with
    | cells ty cs =>
      obtain ⟨b, cap, es, arr, hm, hh, hl, hr, hkk⟩ := ho
      have hus := storeUnder_get hu h
      exact ⟨b, cap, es, arr, by rw [hc]; exact hm, hh, hl, fun j a v x y => ⟨(hr j a v x y).1.cut (unders_get hus x), (hr j a v x y).2⟩, hkk⟩
    | arr es xs fz =>
      obtain ⟨hver, ho⟩ := ho
      refine ⟨fun ver l hl => hver ver l (by rw [← hc]; exact hl), ?_⟩
      rcases ho with ⟨rfl, hm⟩ | ⟨b, cap, arr, ty, fr, hm, rest⟩
      · exact .inl ⟨rfl, by rw [hc]; exact hm⟩
      · exact .inr ⟨b, cap, arr, ty, fr, by rw [hc]; exact hm, rest⟩
    | bld ty el s =>
      obtain ⟨b, cap, es, p, v, hm, hh, hp, hkk, hver, ho⟩ := ho
      refine ⟨b, cap, es, p, v, by rw [hc]; exact hm, hh, hp, hkk, fun ver l hl => hver ver l (by rw [← hc]; exact hl), ?_⟩
      rcases ho with ⟨h0, hm2, hv⟩ | ⟨b2, cap2, arr, fr, hm2, rest⟩
      · exact .inl ⟨h0, by rw [hc]; exact hm2, hv⟩
      · exact .inr ⟨b2, cap2, arr, fr, by rw [hc]; exact hm2, rest⟩
    | gone => trivial
  · obtain ⟨hlt, h'⟩ := hget id x h
    rw [blk_cut hlt] at hb
    exact hB.base id x b h' hb
  · obtain ⟨hlt, h1⟩ := hget id x h
    obtain ⟨hlt', h2⟩ := hget id' x' h'
    rw [blk_cut hlt] at hb
    rw [blk_cut hlt'] at hb'
    exact hB.apart id x id' x' b h1 h2 hb hb'
theorem cut_le (m : Mp) (K : KS) (k : Nat) : Le k m K (cutMp m k) K := ⟨fun id ver l hi h => by simp [cutMp, hi, h], fun _ _ _ h => h⟩

/-! ### Slices handed on for good -/
/-- A value without references into what goes, its slices for good. -/
def sealV (k : Nat) (σ : Store) : AV → Option AV
  | .pv p => some (.pv p)
  | .nilsl => some (.pv (.sl []))
  | .arr id ver off len => match Nat.ble k id with
    | true => match σ[id]? with
      | some (.arr _ xs _) => if xs.length = ver ∧ off + len ≤ ver then some (.pv (.sl ((xs.drop off).take len))) else none
      | _ => none
    | false => some (.arr id ver off len)
  | a => match AV.under k a with
    | true => some a
    | false => none
def sealVs (k : Nat) (σ : Store) : List AV → Option (List AV)
  | [] => some []
  | a :: r => match sealV k σ a, sealVs k σ r with
    | some b, some s => some (b :: s)
    | _, _ => none
def sealR (k : Nat) (σ : Store) : AV → Option AV
  | .tup vs => (sealVs k σ vs).map .tup
  | a => sealV k σ a
/-- The cells of what goes are kept for good. -/
def sealK (m : Mp) (K : KS) (σ : Store) (w : World) (k : Nat) : KS := fun b o v => K b o v ∨
  ∃ id es xs fz cap arr ty fr, k ≤ id ∧ σ[id]? = some (SObj.arr es xs fz) ∧ m id xs.length = some (.at b cap es) ∧ w.heap[b]? = some (.cells arr ty fr) ∧ o < xs.length * es ∧ arr[o]? = some v
theorem Bears.sealed {C : Ctx} {m : Mp} {K : KS} {σ : Store} {w : World} (hB : Bears C m K σ w) {τ : Store} {k : Nat} (hτ : τ = σ.take k) (hk : k ≤ σ.length) (hu : storeUnder k τ = true) (hg : ∀ g a, C.glob g = some a → AV.under k a = true) : Bears C (cutMp m k) (sealK m K σ w k) τ w := by
  have hc := hB.cut hτ hk hu hg
  have hx : ∀ b o v, K b o v → sealK m K σ w k b o v := fun _ _ _ h => .inl h
  have hext : Ext (cutMp m k) K (cutMp m k) (sealK m K σ w k) := ⟨fun _ _ _ h => h, hx⟩
  have hget : ∀ (id : Nat) x, τ[id]? = some x → id < k ∧ σ[id]? = some x := by
    intro id x h
    rw [hτ, List.getElem?_take] at h
    split at h
    · rename_i hlt; exact ⟨hlt, h⟩
    · cases h
  -- no cell of what stays is newly kept
  have hno : ∀ (id : Nat) x b, τ[id]? = some x → b ∈ blk (cutMp m k) id x → ∀ o v, sealK m K σ w k b o v → K b o v := by
    intro id x b h hb o v hK
    rcases hK with h1 | ⟨id2, es, xs, fz, cap, arr, ty, fr, h1, h2, h3, _⟩
    · exact h1
    · exfalso
      obtain ⟨hlt, h'⟩ := hget id x h
      rw [blk_cut hlt] at hb
      have := hB.apart id x id2 _ b h' h2 hb (by simp [blk, Loc.blk, h3])
      omega
  refine ⟨hc.below, fun b o v h => ?_, hc.dom, fun id x h => ?_, hc.base, hc.apart, fun g a h => (hc.glob g a h).mono hext, fun b o v h => ?_⟩
  · rcases h with h | ⟨id, es, xs, fz, cap, arr, ty, fr, h1, h2, h3, h4, h5, h6⟩
    · exact hc.keep b o v h
    · obtain ⟨_, arr', ty', fr', hh, _, _, _, hes, hcr, _⟩ := hB.arr_open h2 h3
      rw [h4] at hh; cases hh
      have hlt : o < (flat xs).length := by rw [flat_length hes]; exact h5
      refine ⟨by rw [cell_heap w b _ h4]; exact h6, (hcr o _ v (List.getElem?_eq_getElem hlt) h6).2⟩
  · have ho := hc.obj id x h
    have hb := hno id x
    cases x with
    | cells ty cs =>
      obtain ⟨b, cap, es, arr, hm, hh, hl, hr, hkk⟩ := ho
      exact ⟨b, cap, es, arr, hm, hh, hl, fun j a v x y => ⟨(hr j a v x y).1.mono hext, (hr j a v x y).2⟩, fun o v hK => hkk o v (hb b h (by simp [blk, Loc.blk, hm]) o v hK)⟩
    | arr es xs fz =>
      obtain ⟨hver, ho⟩ := ho
      refine ⟨hver, ?_⟩
      rcases ho with ⟨rfl, hm⟩ | ⟨b, cap, arr, ty, fr, hm, hh, h1, h2, h3, h4, h5, h6, h7⟩
      · exact .inl ⟨rfl, hm⟩
      · exact .inr ⟨b, cap, arr, ty, fr, hm, hh, h1, h2, h3, h4, fun j p v x y => ⟨(h5 j p v x y).1.mono hx, (h5 j p v x y).2⟩, h6, fun j v hK => h7 j v (hb b h (by simp [blk, Loc.blk, hm]) j v hK)⟩
    | bld ty el s =>
      obtain ⟨b, cap, es, p, v, hm, hh, hp, hkk, hver, ho⟩ := ho
      refine ⟨b, cap, es, p, v, hm, hh, hp, fun o v hK => hkk o v (hb b h (by simp [blk, Loc.blk, hm]) o v hK), hver, ?_⟩
      rcases ho with ho | ⟨b2, cap2, arr, fr, hm2, g1, g2, g3, g4, g5, g6, g7, g8, g9⟩
      · exact .inl ho
      · exact .inr ⟨b2, cap2, arr, fr, hm2, g1, g2, g3, g4, g5, g6, g7, g8, fun o v hK => g9 o v (hb b2 h (by simp [blk, Loc.blk, hm2]) o v hK)⟩
    | gone => trivial
  · rcases h with h | ⟨id, es, xs, fz, cap, arr, ty, fr, h1, h2, h3, h4, h5, h6⟩
    · exact hc.old b o v h
    · exact .inr (hB.base id _ b h2 (by simp [blk, Loc.blk, h3]))
theorem sealV_sound {C : Ctx} {m : Mp} {K : KS} {σ : Store} {w : World} (hB : Bears C m K σ w) {k : Nat} {a r : AV} {v : Value} (hr : ARep m K a v) (h : sealV k σ a = some r) : ARep (cutMp m k) (sealK m K σ w k) r v := by
  have hx : ∀ b o v, K b o v → sealK m K σ w k b o v := fun _ _ _ h => .inl h
  have hext : Ext (cutMp m k) K (cutMp m k) (sealK m K σ w k) := ⟨fun _ _ _ h => h, hx⟩
  unfold sealV at h
  split at h
  · cases h
    exact .pv _ _ (hr.pv_inv.mono hx)
  · cases h
    cases hr
    exact .pv _ _ (.slNil _ _)
  · rename_i id ver off len
    split at h
    · rename_i hid
      have hid' : k ≤ id := Nat.le_of_ble_eq_true hid
      split at h
      · rename_i es xs fz ho
        split at h
        · rename_i hc
          obtain ⟨rfl, hle⟩ := hc
          cases h
          refine .pv _ _ ?_
          have hlen : ((xs.drop off).take len).length = len := by rw [List.length_take, List.length_drop]; omega
          rcases hr.arr_inv with ⟨b, cap, es', c, ad, rfl, hm, hcc, hl, hv, ha⟩ | ⟨h0, h1, h2, rfl, hm⟩
          · by_cases h0 : len = 0
            · subst h0
              simp only [List.take_zero]
              exact .slNil _ _
            · obtain ⟨rfl, arr, ty, fr, hh, hcap, hmax, hasz, hes, hcr, _, _⟩ := hB.arr_open ho hm
              have hfl := flat_length hes
              have had : ad = some ⟨b, off * es', none⟩ := by
                rcases ha with h | h
                · omega
                · exact h
              subst had
              have hmul : (off + len) * es' ≤ xs.length * es' := Nat.mul_le_mul_right _ hle
              have hmul2 : xs.length * es' ≤ cap * es' := Nat.mul_le_mul_right _ hcap
              rw [Nat.add_mul] at hmul
              have hsub : ∀ x ∈ (xs.drop off).take len, x.cells.length = es' := fun x hx => hes x (List.mem_of_mem_drop (List.mem_of_mem_take hx))
              have hflat : flat ((xs.drop off).take len) = ((flat xs).drop (off * es')).take (len * es') := by
                rw [flat_take (fun x hx => hes x (List.mem_of_mem_drop hx)), flat_drop hes]
              rw [show Value.slice (some ⟨b, off * es', none⟩) len c = Value.slice (some ⟨b, off * es', none⟩) ((xs.drop off).take len).length c by rw [hlen]]
              refine .sl _ es' b (off * es') c ((arr.toList.drop (off * es')).take (len * es')) (by omega) hsub ?_ (fun j p v hp hv => ?_) (fun j v hv => ?_)
              · rw [hflat, List.length_take, List.length_drop, List.length_take, List.length_drop, hfl]
                simp only [Array.length_toList, hasz]
                omega
              · rw [hflat] at hp
                rw [List.getElem?_take] at hp hv
                split at hp
                · rename_i hj
                  rw [if_pos hj] at hv
                  rw [List.getElem?_drop] at hp hv
                  exact ((hcr _ p v hp (by simpa using hv)).1).mono hx
                · cases hp
              · rw [List.getElem?_take] at hv
                split at hv
                · rename_i hj
                  rw [List.getElem?_drop] at hv
                  exact .inr ⟨id, es', xs, fz, cap, arr, ty, fr, hid', ho, hm, hh, by omega, by simpa using hv⟩
                · cases hv
          · subst h2
            simp only [List.take_zero]
            exact .slNil _ _
        · cases h
      · cases h
    · rename_i hid
      cases h
      refine (hr.cut ?_).mono hext
      have : id < k := by
        cases hq : Nat.ble k id with
        | true => rw [hq] at hid; cases hid
        | false =>
          rcases Nat.lt_or_ge id k with h | h
          · exact h
          · have := Nat.ble_eq_true_of_le h
            rw [hq] at this; cases this
      exact Nat.ble_eq_true_of_le this
  · split at h
    · rename_i hu
      cases h
      exact (hr.cut hu).mono hext
    · cases h
theorem sealVs_sound {C : Ctx} {m : Mp} {K : KS} {σ : Store} {w : World} (hB : Bears C m K σ w) {k : Nat} : ∀ {as rs : List AV}, sealVs k σ as = some rs → as.length = rs.length ∧ ∀ (j : Nat) a r v, as[j]? = some a → rs[j]? = some r → ARep m K a v → ARep (cutMp m k) (sealK m K σ w k) r v
  | [], rs, h => by
    cases h
    exact ⟨rfl, fun j a r v ha => by simp at ha⟩
  | a :: as, rs, h => by
    simp only [sealVs] at h
    split at h
    · rename_i b s hb hs
      cases h
      obtain ⟨h1, h2⟩ := sealVs_sound hB hs
      refine ⟨by simp [h1], fun j x r v hx hr hrep => ?_⟩
      cases j with
      | zero => simp at hx hr; subst hx; subst hr; exact sealV_sound hB hrep hb
      | succ j => exact h2 j x r v (by simpa using hx) (by simpa using hr) hrep
    · cases h
theorem sealR_sound {C : Ctx} {m : Mp} {K : KS} {σ : Store} {w : World} (hB : Bears C m K σ w) {k : Nat} {a r : AV} {v : Value} (hr : ARep m K a v) (h : sealR k σ a = some r) : ARep (cutMp m k) (sealK m K σ w k) r v := by
  unfold sealR at h
  split at h
  · rename_i vs
    obtain ⟨rs, hrs, e⟩ := Option.map_eq_some_iff.1 h
    subst e
    cases hr with
    | tup _ us hl hrr =>
      obtain ⟨h1, h2⟩ := sealVs_sound hB hrs
      refine .tup rs us (by rw [← h1]; exact hl) (fun j p v hp hv => ?_)
      have hlt : j < vs.length := by rw [h1]; exact (List.getElem?_eq_some_iff.1 hp).1
      exact h2 j _ p v (List.getElem?_eq_getElem hlt) hp (hrr j _ v (List.getElem?_eq_getElem hlt) hv)
  · exact sealV_sound hB hr h
/-- No package-level variable is known. -/
def NoGlob (C : Ctx) : Prop := ∀ g a, C.glob g = some a → AV.under 0 a = true
mutual
theorem under_mono {k k' : Nat} (hk : k ≤ k') : ∀ (a : AV), AV.under k a = true → AV.under k' a = true
  | .ptr id _, h => Nat.ble_eq_true_of_le (Nat.le_trans (Nat.le_of_ble_eq_true h) hk)
  | .eptr id _ _ _, h => Nat.ble_eq_true_of_le (Nat.le_trans (Nat.le_of_ble_eq_true h) hk)
  | .arr id _ _ _, h => Nat.ble_eq_true_of_le (Nat.le_trans (Nat.le_of_ble_eq_true h) hk)
  | .agg cs, h => unders_mono hk cs h
  | .tup cs, h => unders_mono hk cs h
  | .iface _ a, h => under_mono hk a h
  | .func _ as bs, h => by
    simp only [AV.under, Bool.and_eq_true] at *
    exact ⟨unders_mono hk as h.1, unders_mono hk bs h.2⟩
  | .pv _, _ => rfl
  | .nilsl, _ => rfl
  | .ro _ _, _ => rfl
  | .dead, _ => rfl
theorem unders_mono {k k' : Nat} (hk : k ≤ k') : ∀ (l : List AV), AV.unders k l = true → AV.unders k' l = true
  | [], _ => rfl
  | a :: r, h => by
    simp only [AV.unders, Bool.and_eq_true] at *
    exact ⟨under_mono hk a h.1, unders_mono hk r h.2⟩
end
/-- The end of a call: what the function laid itself goes; slices of it are handed on for good. -/
theorem FinK.sealed {C : Ctx} (hC : ∀ g a, C.glob g = some a → AV.under 0 a = true) {n : Nat} {r r' : AV} {σ τ : Store} {R : AV → Store → Prop} (hτ : σ.take n = τ) (hn : n ≤ σ.length) (hu : storeUnder n τ = true) (hr : sealR n σ r = some r') (h : R r' τ) : FinK C n r σ R := by
  refine ⟨r', τ, fun m K w v hB hrep => ⟨cutMp m n, sealK m K σ w n, hB.sealed hτ.symm hn hu (fun g a hga => under_mono (Nat.zero_le _) a (hC g a hga)), sealR_sound hB hrep hr, ⟨(cut_le m K n).1, fun _ _ _ h => .inl h⟩, ?_⟩, h⟩
  rw [← hτ, List.length_take]; omega
/-- The end of a call: all stays as it is. -/
theorem FinK.keep {C : Ctx} {n : Nat} {r : AV} {σ : Store} {R : AV → Store → Prop} (hn : n ≤ σ.length) (h : R r σ) : FinK C n r σ R :=
  ⟨r, σ, fun m K w v hB hrep => ⟨m, K, hB, hrep, Le.refl _ _ _, hn⟩, h⟩
/-- Ahead of a round, what the loop no longer needs goes. -/
theorem SLoop.drop {C : Ctx} (hC : ∀ g a, C.glob g = some a → AV.under 0 a = true) {N n : Nat} {c : Code} {env : Env} {σ τ : Store} {Q : Exit → Env → Store → Prop} (k : Nat) (hτ : σ.take k = τ) (hk : k ≤ σ.length) (hn : n ≤ k) (hu : storeUnder k τ = true) (he : envUnder k env = true) (h : SLoop C N n c env τ Q) : SLoop C N n c env σ Q := by
  intro m K w a hB hnl hN hE hd
  have hB' := hB.cut hτ.symm hk hu (fun g a hga => under_mono (Nat.zero_le _) a (hC g a hga))
  have hlen : n ≤ τ.length := by rw [← hτ, List.length_take]; omega
  refine (h (cutMp m k) K w a hB' hlen hN (hE.cut he) hd).mono fun e a' w' hp => ?_
  obtain ⟨env', σ', m', K', h1, h2, h3, h4, h5, h6, h7⟩ := hp
  exact ⟨env', σ', m', K', h1, h2, h3, h4, h5, ((cut_le m K k).less hn).trans h6, h7⟩

/-! ### A table of types, held against a program -/
def tdeq : TD → TD → Bool
  | .int a, .int b => decide (a = b)
  | .bool, .bool => true
  | .str, .str => true
  | .ptr a, .ptr b => Nat.beq a b
  | .slice a, .slice b => Nat.beq a b
  | .array n a, .array m b => Nat.beq n m && Nat.beq a b
  | .struct a, .struct b => decide (a = b)
  | .map a b, .map c d => Nat.beq a c && Nat.beq b d
  | .func, .func => true
  | .iface a, .iface b => Nat.beq a b
  | .unsafeptr, .unsafeptr => true
  | .other, .other => true
  | _, _ => false
theorem tdeq_eq {a b : TD} (h : tdeq a b = true) : a = b := by
  cases a <;> cases b <;> first
    | rfl
    | (cases h; done)
    | (simp only [tdeq, Bool.and_eq_true, decide_eq_true_eq] at h
       first
         | (rw [h]; done)
         | (rw [Nat.eq_of_beq_eq_true h]; done)
         | (rw [Nat.eq_of_beq_eq_true h.1, Nat.eq_of_beq_eq_true h.2]; done))
def leafEq : Value → Value → Bool
  | .int k a, .int j b => decide (k = j) && decide (a = b)
  | .bool a, .bool b => decide (a = b)
  | .string a, .string b => decide (a.data.toList = b.data.toList)
  | .slice none a b, .slice none c d => Nat.beq a c && Nat.beq b d
  | .pointer none, .pointer none => true
  | .nilIface, .nilIface => true
  | .nilFunc, .nilFunc => true
  | .map none, .map none => true
  | _, _ => false
def leavesEq : List Value → List Value → Bool
  | [], [] => true
  | a :: r, b :: s => leafEq a b && leavesEq r s
  | _, _ => false
def zeq : Value → Value → Bool
  | .agg a, .agg b => leavesEq a.toList b.toList
  | a, b => leafEq a b
theorem leafEq_eq {a b : Value} (h : leafEq a b = true) : a = b := by
  unfold leafEq at h
  split at h
  · simp only [Bool.and_eq_true, decide_eq_true_eq] at h; rw [h.1, h.2]
  · simp only [decide_eq_true_eq] at h; rw [h]
  · simp only [decide_eq_true_eq] at h
    rename_i a b
    cases a with | mk a => cases b with | mk b =>
      simp only at h
      rw [Array.ext' h]
  · simp only [Bool.and_eq_true] at h; rw [Nat.eq_of_beq_eq_true h.1, Nat.eq_of_beq_eq_true h.2]
  all_goals first | rfl | (cases h; done)
theorem leavesEq_eq : ∀ {a b : List Value}, leavesEq a b = true → a = b
  | [], [], _ => rfl
  | a :: r, b :: s, h => by
    simp only [leavesEq, Bool.and_eq_true] at h
    rw [leafEq_eq h.1, leavesEq_eq h.2]
  | [], _ :: _, h => by cases h
  | _ :: _, [], h => by cases h
theorem zeq_eq {a b : Value} (h : zeq a b = true) : a = b := by
  unfold zeq at h
  split at h
  · rw [Array.ext' (leavesEq_eq h)]
  · exact leafEq_eq h
def okTI (P : Program) (t : TypeId) : Option TI → Bool
  | none => true
  | some ti => match P.info? t, P.underlying t with
    | some i, some d => (match i.zero with
      | some z => zeq z ti.zero
      | none => false) && (Nat.beq i.size ti.size && (Nat.beq i.bytes ti.bytes && (tdeq (TD.of d) ti.td && zOK ti)))
    | _, _ => false
theorem okTI_ok {P : Program} {t : TypeId} {ti : TI} (h : okTI P t (some ti) = true) : TIok P t ti := by
  simp only [okTI] at h
  split at h
  · rename_i i d hi hd
    simp only [Bool.and_eq_true] at h
    obtain ⟨h1, h2, h3, h4, h5⟩ := h
    refine ⟨i, d, hi, hd, ?_, Nat.eq_of_beq_eq_true h2, Nat.eq_of_beq_eq_true h3, tdeq_eq h4, h5⟩
    split at h1
    · rename_i z hz
      rw [hz, zeq_eq h1]
    · cases h1
  · cases h
/-- Over a list of as many rows as the program has types. -/
def listTab (l : List (Option TI)) (t : TypeId) : Option TI := match l[t]? with
  | some x => x
  | none => none
def okList (P : Program) : Nat → List (Option TI) → Bool
  | _, [] => true
  | t, x :: r => okTI P t x && okList P (t + 1) r
theorem okList_get {P : Program} : ∀ {l : List (Option TI)} {t : Nat}, okList P t l = true → ∀ (k : Nat) x, l[k]? = some x → okTI P (t + k) x = true
  | [], t, _, k, x, h => by simp at h
  | y :: r, t, h, k, x, hx => by
    simp only [okList, Bool.and_eq_true] at h
    cases k with
    | zero => simp at hx; subst hx; exact h.1
    | succ k =>
      have := okList_get h.2 k x (by simpa using hx)
      rw [show t + (k + 1) = t + 1 + k by omega]
      exact this
theorem listTab_ok {C : Ctx} {l : List (Option TI)} (ht : C.tab = listTab l) (h : okList C.P 0 l = true) : TabOK C := by
  intro t ti hti
  rw [ht] at hti
  unfold listTab at hti
  split at hti
  · rename_i x hx
    subst hti
    have := okList_get h t _ hx
    rw [Nat.zero_add] at this
    exact okTI_ok this
  · cases hti

end Go.Sv
