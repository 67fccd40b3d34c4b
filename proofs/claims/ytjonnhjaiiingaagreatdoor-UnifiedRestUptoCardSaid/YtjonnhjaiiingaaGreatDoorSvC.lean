/- A variable's part that is nil, taken as an empty row; a row that is written no more, handed on for good; a call alone that answers one of several values. -/
import Derived.Test.YtjonnhjaiiingaaGreatDoorSvV
import Derived.Test.YtjonnhjaiiingaaGreatDoorSvW
set_option linter.unusedVariables false
set_option maxRecDepth 100000
namespace Go.Sv
open Go Go.RowKit
theorem Bears.recell {C : Ctx} {m : Mp} {K : KS} {σ : Store} {w : World} (hB : Bears C m K σ w) {id : Nat} {ty : TypeId} {cs cs' : List AV} (ho : σ[id]? = some (.cells ty cs)) (hl : cs'.length = cs.length)
    (hr : ∀ (j : Nat) a a' v, cs[j]? = some a → cs'[j]? = some a' → ARep m K a v → ARep m K a' v) : Bears C m K (σ.set id (.cells ty cs')) w := by
  have hlt := (List.getElem?_eq_some_iff.1 ho).1
  have hget : ∀ (i : Nat) x, (σ.set id (.cells ty cs'))[i]? = some x → (i = id ∧ x = .cells ty cs') ∨ (i ≠ id ∧ σ[i]? = some x) := by
    intro i x h
    by_cases e : i = id
    · subst e
      rw [List.getElem?_set_self hlt] at h
      cases h; exact .inl ⟨rfl, rfl⟩
    · rw [List.getElem?_set_ne (Ne.symm e)] at h
      exact .inr ⟨e, h⟩
  have hold : ∀ (i : Nat) x, (σ.set id (.cells ty cs'))[i]? = some x → ∃ y, σ[i]? = some y ∧ blk m i x = blk m i y := by
    intro i x h
    rcases hget i x h with ⟨rfl, rfl⟩ | ⟨_, h⟩
    · exact ⟨_, ho, rfl⟩
    · exact ⟨x, h, rfl⟩
  refine ⟨hB.below, hB.keep, fun i ver l h => ?_, fun i x h => ?_, fun i x b h hb => ?_, fun i x i' x' b h h' hb hb' => ?_, hB.glob, hB.old⟩
  · rw [List.length_set]; exact hB.dom i ver l h
  · rcases hget i x h with ⟨rfl, rfl⟩ | ⟨_, h⟩
    · obtain ⟨b, cap, es, arr, hm, hh, hsz, hcr, hk⟩ := hB.obj i _ ho
      refine ⟨b, cap, es, arr, hm, hh, by rw [hl]; exact hsz, fun j a v ha hv => ?_, hk⟩
      have hjl : j < cs.length := by
        have := (List.getElem?_eq_some_iff.1 ha).1
        omega
      have := hcr j _ v (List.getElem?_eq_getElem hjl) hv
      exact ⟨hr j _ a v (List.getElem?_eq_getElem hjl) ha this.1, this.2⟩
    · exact hB.obj i x h
  · obtain ⟨y, hy, e⟩ := hold i x h
    rw [e] at hb
    exact hB.base i y b hy hb
  · obtain ⟨y, hy, e⟩ := hold i x h
    obtain ⟨y', hy', e'⟩ := hold i' x' h'
    rw [e] at hb
    rw [e'] at hb'
    exact hB.apart i y i' y' b hy hy' hb hb'
theorem EWeak.cellNil {C : Ctx} {n : Nat} {env : Env} {σ : Store} {id es : Nat} {ty : TypeId} {pre post : List AV} (ho : σ[id]? = some (.cells ty (pre ++ .nilsl :: post))) :
    EWeak C n env σ env (σ.set id (.cells ty (pre ++ .arr σ.length 0 0 0 :: post)) ++ [.arr es [] false]) := by
  intro hn m K w vs hB hE
  obtain ⟨m', hB', hx, hm⟩ := hB.arrNil es
  have hlt := (List.getElem?_eq_some_iff.1 ho).1
  have ho' : (σ ++ [SObj.arr es [] false])[id]? = some (.cells ty (pre ++ .nilsl :: post)) := by rw [List.getElem?_append_left hlt]; exact ho
  have := hB'.recell ho' (cs' := pre ++ .arr σ.length 0 0 0 :: post) (by simp) (fun j a a' v ha ha' hr => by
    by_cases h1 : j < pre.length
    · rw [List.getElem?_append_left h1] at ha ha'
      rw [ha] at ha'; cases ha'; exact hr
    · rw [List.getElem?_append_right (by omega)] at ha ha'
      cases h2 : j - pre.length with
      | zero =>
        rw [h2] at ha ha'
        simp only [List.getElem?_cons_zero, Option.some.injEq] at ha ha'
        subst ha; subst ha'
        cases hr
        exact .arrNil _ hm
      | succ k =>
        rw [h2] at ha ha'
        simp only [List.getElem?_cons_succ] at ha ha'
        rw [ha] at ha'; cases ha'; exact hr)
  rw [List.set_append_left _ _ hlt] at this
  exact ⟨m', K, this, fun t => (hE t).mono hx, hx.le n, by simp; omega⟩
def frzK (m : Mp) (K : KS) (w : World) (id es : Nat) (xs : List PV) : KS := fun b o v => K b o v ∨
  ∃ cap arr ty fr, m id xs.length = some (.at b cap es) ∧ w.heap[b]? = some (.cells arr ty fr) ∧ o < xs.length * es ∧ arr[o]? = some v
theorem Bears.freeze {C : Ctx} {m : Mp} {K : KS} {σ : Store} {w : World} (hB : Bears C m K σ w) {id es : Nat} {xs : List PV} {fz : Bool} (ho : σ[id]? = some (.arr es xs fz)) : Bears C m (frzK m K w id es xs) (σ.set id (.arr es xs true)) w := by
  have hlt := (List.getElem?_eq_some_iff.1 ho).1
  have hx : ∀ b o v, K b o v → frzK m K w id es xs b o v := fun _ _ _ h => .inl h
  have hext : Ext m K m (frzK m K w id es xs) := ⟨fun _ _ _ h => h, hx⟩
  have hget : ∀ (i : Nat) x, (σ.set id (.arr es xs true))[i]? = some x → (i = id ∧ x = .arr es xs true) ∨ (i ≠ id ∧ σ[i]? = some x) := by
    intro i x h
    by_cases e : i = id
    · subst e
      rw [List.getElem?_set_self hlt] at h
      cases h; exact .inl ⟨rfl, rfl⟩
    · rw [List.getElem?_set_ne (Ne.symm e)] at h
      exact .inr ⟨e, h⟩
  have hold : ∀ (i : Nat) x, (σ.set id (.arr es xs true))[i]? = some x → ∃ y, σ[i]? = some y ∧ blk m i x = blk m i y := by
    intro i x h
    rcases hget i x h with ⟨rfl, rfl⟩ | ⟨_, h⟩
    · exact ⟨_, ho, rfl⟩
    · exact ⟨x, h, rfl⟩
  have hno : ∀ (i : Nat) x b, i ≠ id → σ[i]? = some x → b ∈ blk m i x → ∀ o v, frzK m K w id es xs b o v → K b o v := by
    intro i x b hne h hb o v hK
    rcases hK with h1 | ⟨cap, arr, ty, fr, h3, _⟩
    · exact h1
    · exact absurd (hB.apart i x id _ b h ho hb (by simp [blk, Loc.blk, h3])) hne
  refine ⟨hB.below, fun b o v h => ?_, fun i ver l h => by rw [List.length_set]; exact hB.dom i ver l h, fun i x h => ?_, fun i x b h hb => ?_, fun i x i' x' b h h' hb hb' => ?_, fun g a h => (hB.glob g a h).mono hext, fun b o v h => ?_⟩
  · rcases h with h | ⟨cap, arr, ty, fr, h3, h4, h5, h6⟩
    · exact hB.keep b o v h
    · obtain ⟨_, arr', ty', fr', hh, _, _, _, hes, hcr, _⟩ := hB.arr_open ho h3
      rw [h4] at hh; cases hh
      have hl : o < (flat xs).length := by rw [flat_length hes]; exact h5
      refine ⟨by rw [cell_heap w b _ h4]; exact h6, (hcr o _ v (List.getElem?_eq_getElem hl) h6).2⟩
  · rcases hget i x h with ⟨rfl, rfl⟩ | ⟨hne, h⟩
    · obtain ⟨hver, hoo⟩ := hB.obj i _ ho
      refine ⟨hver, ?_⟩
      rcases hoo with ⟨rfl, hm⟩ | ⟨b, cap, arr, ty, fr, hm, hh, h1, h2, h3, h4, h5, h6, h7⟩
      · exact .inl ⟨rfl, hm⟩
      · refine .inr ⟨b, cap, arr, ty, fr, hm, hh, h1, h2, h3, h4, fun j p v x y => ⟨(h5 j p v x y).1.mono hx, (h5 j p v x y).2⟩, fun j g1 g2 => h6 j (by
          simp only [if_true] at g1
          split
          · exact g1
          · exact Nat.zero_le _) g2, fun j v hK => ?_⟩
        rcases hK with hK | ⟨cap', arr', ty', fr', g1, g2, g3, g4⟩
        · exact ⟨rfl, (h7 j v hK).2⟩
        · exact ⟨rfl, g3⟩
    · have hoo := hB.obj i x h
      have hb := hno i x
      cases x with
      | cells ty cs =>
        obtain ⟨b, cap, es, arr, hm, hh, hl, hr, hkk⟩ := hoo
        exact ⟨b, cap, es, arr, hm, hh, hl, fun j a v x y => ⟨(hr j a v x y).1.mono hext, (hr j a v x y).2⟩, fun o v hK => hkk o v (hb b hne h (by simp [blk, Loc.blk, hm]) o v hK)⟩
      | arr es xs fz =>
        obtain ⟨hver, hoo⟩ := hoo
        refine ⟨hver, ?_⟩
        rcases hoo with ⟨rfl, hm⟩ | ⟨b, cap, arr, ty, fr, hm, hh, h1, h2, h3, h4, h5, h6, h7⟩
        · exact .inl ⟨rfl, hm⟩
        · exact .inr ⟨b, cap, arr, ty, fr, hm, hh, h1, h2, h3, h4, fun j p v x y => ⟨(h5 j p v x y).1.mono hx, (h5 j p v x y).2⟩, h6, fun j v hK => h7 j v (hb b hne h (by simp [blk, Loc.blk, hm]) j v hK)⟩
      | bld ty el s =>
        obtain ⟨b, cap, es, p, v, hm, hh, hp, hkk, hver, hoo⟩ := hoo
        refine ⟨b, cap, es, p, v, hm, hh, hp, fun o v hK => hkk o v (hb b hne h (by simp [blk, Loc.blk, hm]) o v hK), hver, ?_⟩
        rcases hoo with hoo | ⟨b2, cap2, arr, fr, hm2, g1, g2, g3, g4, g5, g6, g7, g8, g9⟩
        · exact .inl hoo
        · exact .inr ⟨b2, cap2, arr, fr, hm2, g1, g2, g3, g4, g5, g6, g7, g8, fun o v hK => g9 o v (hb b2 hne h (by simp [blk, Loc.blk, hm2]) o v hK)⟩
      | mp es =>
        obtain ⟨b, cap, s, arr, clock, hm, hh, hl, hr⟩ := hoo
        exact ⟨b, cap, s, arr, clock, hm, hh, hl, fun j e a x y => ⟨(hr j e a x y).1.mono hx, (hr j e a x y).2.mono hext⟩⟩
      | gone => trivial
  · obtain ⟨y, hy, e⟩ := hold i x h
    rw [e] at hb
    exact hB.base i y b hy hb
  · obtain ⟨y, hy, e⟩ := hold i x h
    obtain ⟨y', hy', e'⟩ := hold i' x' h'
    rw [e] at hb
    rw [e'] at hb'
    exact hB.apart i y i' y' b hy hy' hb hb'
  · rcases h with h | ⟨cap, arr, ty, fr, h3, h4, h5, h6⟩
    · exact hB.old b o v h
    · exact .inr (hB.base id _ b ho (by simp [blk, Loc.blk, h3]))
theorem ARep.frozen {C : Ctx} {m : Mp} {K : KS} {σ : Store} {w : World} (hB : Bears C m K σ w) {id es : Nat} {xs : List PV} {fz : Bool} (ho : σ[id]? = some (.arr es xs fz)) {v : Value} (hr : ARep m K (.arr id xs.length 0 xs.length) v) : ARep m (frzK m K w id es xs) (.pv (.sl xs)) v := by
  have hx : ∀ b o v, K b o v → frzK m K w id es xs b o v := fun _ _ _ h => .inl h
  rcases hr.arr_inv with ⟨b, cap, es', c, ad, rfl, hm, hcc, hl, hv, ha⟩ | ⟨h0, h1, h2, rfl, hm⟩
  · cases xs with
    | nil => exact .pv _ _ (.slNil _ _)
    | cons x0 xs0 =>
      obtain ⟨rfl, arr, ty, fr, hh, hcap, hmax, hasz, hes, hcr, _, _⟩ := hB.arr_open ho hm
      have hc : c ≠ 0 := by
        intro e
        rw [e] at hcc
        simp only [List.length_cons] at hv
        omega
      have had : ad = some ⟨b, 0, none⟩ := by
        rcases ha with h | h
        · exact absurd h hc
        · rw [h, Nat.zero_mul]
      subst had
      have hfl := flat_length hes
      have hmul : (x0 :: xs0).length * es' ≤ cap * es' := Nat.mul_le_mul_right _ hcap
      refine .pv _ _ (.sl _ es' b 0 c (arr.toList.take ((x0 :: xs0).length * es')) (by omega) hes ?_ (fun j p v hp hv => ?_) (fun j v hv => ?_))
      · have h9 : arr.toList.length = cap * es' := by rw [Array.length_toList]; exact hasz
        rw [List.length_take, hfl]; omega
      · rw [List.getElem?_take] at hv
        split at hv
        · exact ((hcr _ p v hp (by simpa using hv)).1).mono hx
        · cases hv
      · rw [List.getElem?_take] at hv
        split at hv
        · rename_i hj
          rw [Nat.zero_add]
          exact .inr ⟨cap, arr, ty, fr, hm, hh, hj, by simpa using hv⟩
        · cases hv
  · have : xs = [] := List.length_eq_zero_iff.1 h0
    subst this
    exact .pv _ _ (.slNil _ _)
inductive Frz (id : Nat) (xs : List PV) : AV → AV → Prop
  | same (a : AV) : Frz id xs a a
  | row (n : Nat) (hn : n = xs.length) : Frz id xs (.arr id n 0 n) (.pv (.sl xs))
  | part (pre post : List AV) (n : Nat) (hn : n = xs.length) : Frz id xs (.agg (pre ++ .arr id n 0 n :: post)) (mkAgg (pre ++ .pv (.sl xs) :: post))
theorem Frz.rep {C : Ctx} {m : Mp} {K : KS} {σ : Store} {w : World} (hB : Bears C m K σ w) {id es : Nat} {xs : List PV} {fz : Bool} (ho : σ[id]? = some (.arr es xs fz)) {a a' : AV} (h : Frz id xs a a') {v : Value} (hr : ARep m K a v) : ARep m (frzK m K w id es xs) a' v := by
  have hext : Ext m K m (frzK m K w id es xs) := ⟨fun _ _ _ h => h, fun _ _ _ h => .inl h⟩
  cases h with
  | same => exact hr.mono hext
  | row n hn => subst hn; exact ARep.frozen hB ho hr
  | part pre post n hn =>
    subst hn
    cases hr with
    | agg _ us hl hrr h1 =>
      refine mkAgg_rep (by simpa using hl) (fun j p v hp hv => ?_) h1
      by_cases g1 : j < pre.length
      · rw [List.getElem?_append_left g1] at hp
        exact (hrr j p v (by rw [List.getElem?_append_left g1]; exact hp) hv).mono hext
      · rw [List.getElem?_append_right (by omega)] at hp
        cases g2 : j - pre.length with
        | zero =>
          rw [g2] at hp
          simp only [List.getElem?_cons_zero, Option.some.injEq] at hp
          subst hp
          exact ARep.frozen hB ho (hrr j _ v (by rw [List.getElem?_append_right (by omega), g2]; rfl) hv)
        | succ k =>
          rw [g2] at hp
          simp only [List.getElem?_cons_succ] at hp
          exact (hrr j p v (by rw [List.getElem?_append_right (by omega), g2]; exact hp) hv).mono hext
inductive Frzs (id : Nat) (xs : List PV) : List AV → List AV → Prop
  | nil : Frzs id xs [] []
  | cons {a a' : AV} {l l' : List AV} (h : Frz id xs a a') (t : Frzs id xs l l') : Frzs id xs (a :: l) (a' :: l')
theorem Frzs.len {id : Nat} {xs : List PV} {l l' : List AV} (h : Frzs id xs l l') : l.length = l'.length := by
  induction h with
  | nil => rfl
  | cons _ _ ih => simp [ih]
theorem Frzs.at {id : Nat} {xs : List PV} {l l' : List AV} (h : Frzs id xs l l') : ∀ (j : Nat) a', l'[j]? = some a' → ∃ a, l[j]? = some a ∧ Frz id xs a a' := by
  induction h with
  | nil => intro j a' h; simp at h
  | cons h t ih =>
    intro j b hb
    cases j with
    | zero => simp at hb; subst hb; exact ⟨_, rfl, h⟩
    | succ j => simp at hb; exact ih j b hb
theorem SCalls.freeze {C : Ctx} {f : FuncId} {args args' : List AV} {σ : Store} {R : AV → Store → Prop} {id es : Nat} {xs : List PV} {fz : Bool} (ho : σ[id]? = some (.arr es xs fz)) (ha : Frzs id xs args args') (h : SCalls C f args' (σ.set id (.arr es xs true)) R) : SCalls C f args σ R := by
  intro m K w vs hB hv
  have hv' : Reps m (frzK m K w id es xs) args' vs := by
    refine ⟨by rw [← ha.len]; exact hv.1, fun j a v hj hjv => ?_⟩
    obtain ⟨b, hb, hf⟩ := ha.at j a hj
    exact hf.rep hB ho (hv.2 j _ v hb hjv)
  refine CallNext.mono (h m _ w vs (hB.freeze ho) hv') fun v w' ⟨r, m', K', σ', hB', hl, hle, hr, hR⟩ => ⟨r, m', K', σ', hB', by rw [List.length_set] at hl; exact hl, ⟨by rw [List.length_set] at hle; exact hle.1, fun b o v hk => hle.2 b o v (.inl hk)⟩, hr, hR⟩
theorem SCalls.some_of {w0 : Base} {f : FuncId} {args : List AV} {σ : Store} {R : AV → Store → Prop} {P : AV → Prop} (L : Laid w0.w) (ha : args.all AV.isPv = true) (h : ∀ w1 : Base, Laid w1.w → SCalls (cx w1) f args [] fun r' _ => P r') (hn : ∀ r, P r → AV.under 0 r = true) (hR : ∀ r, P r → R r σ) : SCalls (cx w0) f args σ R := by
  intro m K w vs hB hv
  have hB1 : Bears (cx ⟨w, K⟩) (fun _ _ => none) K [] w := ⟨Below.refl _ _, hB.keep, (fun _ _ _ h => nomatch h), (fun id x h => nomatch (show (none : Option SObj) = some x from h)), (fun id x b h => nomatch (show (none : Option SObj) = some x from h)), (fun id x id' x' b h => nomatch (show (none : Option SObj) = some x from h)), (fun g a h => nomatch (show (none : Option AV) = some a from h)), fun b o v h => .inl h⟩
  have hv1 : Reps (fun _ _ => none) K args vs := ⟨hv.1, fun j a v hj hjv => (hv.2 j a v hj hjv).pvs (List.all_eq_true.1 ha a (List.mem_of_getElem? hj))⟩
  refine CallNext.mono (h ⟨w, K⟩ (L.mono hB.below) _ K w vs hB1 hv1) fun v w' ⟨r', m', K', σ', hB', _, hle, hr, e⟩ => ?_
  have hK := hle.2
  refine ⟨r', m, K', σ, hB.moreK hB'.below hK (fun b o v h => hB'.old b o v h) hB'.keep, Nat.le_refl _, ⟨fun _ _ _ _ h => h, hK⟩, (hr.cut (k := 0) (hn _ e)).mono ⟨fun id ver l h => ?_, fun _ _ _ h => h⟩, hR _ e⟩
  simp [cutMp] at h
end Go.Sv
