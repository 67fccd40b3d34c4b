/- What the code of package context answers where it reads: the lines of a part. What the code of package context answers where it reads: a hunk. -/
import Derived.Test.YtebgkjjbbnbnlaaGreatDoorCxK
import Derived.Test.YtebgkjjbbnbnlaaGreatDoorSvBk
set_option linter.unusedVariables false
set_option linter.unusedSimpArgs false
set_option maxRecDepth 100000
section
namespace Go.Sv
section
open Go Go.RowKit Go.Proofs
variable {w0 : Base} {σ : Store} {R : AV → Store → Prop}
theorem get_last' {x : SObj} {n : Nat} (h : n = σ.length) : (σ ++ [x])[n]? = some x := by subst h; simp
theorem set_last' {x y : SObj} {n : Nat} (h : n = σ.length) : (σ ++ [x]).set n y = σ ++ [y] := by subst h; simp
abbrev ptT (σ : Store) (id : Nat) (ls : List Ln) (at_ : Nat) (out : List Mkd) : Store := σ.set id (rdC ls at_) ++ [.arr 2 (out.map mkP) false]
abbrev ptA (σ : Store) (out : List Mkd) : AV := .arr σ.length out.length 0 out.length
theorem pt_seal (id : Nat) (ls : List Ln) (at_ : Nat) (out : List Mkd) : sealR σ.length (ptT σ id ls at_ out) (ptA σ out) = some (.pv (mksP out)) := by
  have hg : (ptT σ id ls at_ out)[σ.length]? = some (.arr 2 (out.map mkP) false) := get_last' (by simp)
  show sealV σ.length (ptT σ id ls at_ out) (.arr σ.length out.length 0 out.length) = _
  simp only [sealV, hg]
  rw [show Nat.ble σ.length σ.length = true from Nat.ble_eq_true_of_le (Nat.le_refl _)]
  simp only
  rw [if_pos ⟨List.length_map _, by omega⟩]
  simp [List.take_of_length_le]
theorem rowC_some {kind : UInt8} {l : Ln} {x : Mkd} (h : rowC kind l = some x) : ∃ a r, bareB l = a :: 32 :: r ∧ (a = 32 ∨ a = kind ∨ a = 33) ∧ x = ⟨a, l.drop 2⟩ := by
  unfold rowC at h
  split at h
  · rename_i a b r e
    split at h
    · rename_i hc
      cases h
      exact ⟨a, r, by rw [e, hc.1], hc.2, rfl⟩
    · cases h
  · cases h
theorem rd_get {id : Nat} {x y : SObj} (hid : id < σ.length) : (σ.set id x ++ [y])[id]? = some x := by
  rw [List.getElem?_append_left (by simpa using hid), List.getElem?_set_self hid]
theorem rd_set {id : Nat} {x x' y : SObj} (hid : id < σ.length) : (σ.set id x ++ [y]).set id x' = σ.set id x' ++ [y] := by
  rw [List.set_append_left _ _ (by simpa using hid), List.set_set]
theorem part_stop {id : Nat} {ls : List Ln} {at_ : Nat} {out : List Mkd} (hw : wfS (σ.set id (rdC ls at_))) (h : R (.pv (mksP out)) (σ.set id (rdC ls at_))) : FinK (cx w0) σ.length (ptA σ out) (ptT σ id ls at_ out) R := by
  refine FinK.sealed glob0 (τ := σ.set id (rdC ls at_)) ?_ (by simp) ?_ (pt_seal id ls at_ out) h
  · rw [List.take_append_of_le_length (by simp), List.take_of_length_le (by simp)]
  · unfold wfS at hw
    rwa [List.length_set] at hw
theorem part38 {id : Nat} {ls : List Ln} {kind : UInt8} {most : Int} {at_ : Nat} {out : List Mkd} {bare : Bool} (hid : id < σ.length) (hat : at_ ≤ 8388608)
    (h : A6.n7 (A6.X w0 σ.length) w0 σ.length R (ptT σ id ls (at_ + 1) out) (.ptr id 0) (kind.toNat : Int) most (ptA σ out) bare) :
    A6.n38 (A6.X w0 σ.length) w0 σ.length R (ptT σ id ls at_ out) (.ptr id 0) (kind.toNat : Int) most (ptA σ out) bare := by
  refine A6.n38_in ?_
  rw [A6.b38_eq]
  refine A0 rfl (A0 rfl (A0 (rd_at (rd_get hid)) (K2 ?_)))
  rw [G3 (n := (at_ : Int) + 1) (by omega) (by omega), show (at_ : Int) + 1 = ((at_ + 1 : Nat) : Int) by omega]
  refine A0 rfl (A0 rfl (A0 (st_rd (rd_get hid)) ?_))
  rw [rd_set hid]
  exact h
set_option maxHeartbeats 800000 in
theorem part_loop (L : Laid w0.w) {id : Nat} {ls : List Ln} {kind : UInt8} {most : Int} (hid : id < σ.length) (hw : ∀ n, wfS (σ.set id (rdC ls n))) (hl : ls.length ≤ 8388606) (hx : ∀ l ∈ ls, l.length ≤ 8388608) : ∀ (r : List Ln) (at_ : Nat) (out : List Mkd) (bare : Bool), ls.drop at_ = r → at_ ≤ ls.length → out.length ≤ at_ → (∀ x ∈ out, x.t.length ≤ 8388608) →
    (∀ at', ls.drop at' = (partC kind most r out bare).2 → at' ≤ ls.length → R (.pv (mksP (partC kind most r out bare).1)) (σ.set id (rdC ls at'))) →
    A6.n7 (A6.X w0 σ.length) w0 σ.length R (ptT σ id ls at_ out) (.ptr id 0) (kind.toNat : Int) most (ptA σ out) bare := by
  intro r
  induction r with
  | nil =>
    intro at_ out bare hd hat hol ht hR
    have stop := part_stop (w0 := w0) (hw at_) (hR at_ hd hat)
    refine A6.n7_in ?_
    rw [A6.b8_eq]
    refine now_spec (rd_get hid) (by omega) hx ?_
    have hnf : nowF (ls.drop at_) = ([], false) := by rw [hd]; rfl
    generalize nowF (ls.drop at_) = nf at hnf
    obtain ⟨s0, ok0⟩ := nf
    have hok : ok0 = false := congrArg Prod.snd hnf
    repeat ((with_reducible first | apply A0 | apply wI | apply wT | apply wP | apply wS | apply wB); exact rfl)
    refine A5 (fun g => by rw [hok] at g; cases g) (fun g => ?_)
    generalize hb : false = b
    refine A6.n15_in ?_
    rw [A6.b15_eq]
    refine A5 (fun g => by rw [← hb] at g; cases g) (fun g => ?_)
    refine A5 (fun g => by rw [hok] at g; cases g) (fun g => ?_)
    generalize hb2 : false = b2
    refine A6.n31_in ?_
    rw [A6.b31_eq]
    refine A5 (fun g => by rw [← hb2] at g; cases g) (fun g => stop)
  | cons l r ih =>
    intro at_ out bare hd hat hol ht hR
    obtain ⟨h1, h2, hk⟩ := H4 hd
    have hlx := hx l (List.mem_of_getElem? h1)
    have hbl := bareB_le l
    have hstop : (partC kind most (l :: r) out bare) = (out, l :: r) → FinK (cx w0) σ.length (ptA σ out) (ptT σ id ls at_ out) R := by
      intro e
      rw [e] at hR
      exact part_stop (hw at_) (hR at_ hd hat)
    have h31 : ∀ t, (t = true → ∃ x, rowC kind l = some x ∧ partC kind most (l :: r) out bare = partC kind most r (out ++ [x]) false) → (t = false → partC kind most (l :: r) out bare = (out, l :: r)) →
        A6.n31 (A6.X w0 σ.length) w0 σ.length R (ptT σ id ls at_ out) (.ptr id 0) (kind.toNat : Int) most (ptA σ out) (bareB l) t := by
      intro t h3 h4
      refine A6.n31_in ?_
      rw [A6.b31_eq]
      refine A5 (fun g => ?_) (fun g => hstop (h4 g))
      obtain ⟨x, e1, e2⟩ := h3 g
      rw [e2] at hR
      obtain ⟨a, q, e3, _, rfl⟩ := rowC_some e1
      have hl2 : 2 ≤ l.length := by
        have := bareB_le l
        rw [e3] at this
        simp only [List.length_cons] at this
        omega
      rw [e3]
      refine A0 (R0 (k := 0) (c := a) rfl) (K2 ?_)
      refine A0 rfl (A0 rfl (A0 (rd_ls (rd_get hid)) ?_))
      refine A0 rfl (A0 rfl (A0 (rd_at (rd_get hid)) (K2 ?_)))
      refine A0 (K7 tab9 (ln_get' h1) rfl) ?_
      repeat ((with_reducible first | apply A0 | apply wI | apply wT | apply wP | apply wS | apply wB); exact rfl)
      refine A0 (J9 hl2) (I0 ?_)
      refine A0 (v := .pv (mkP ⟨a, l.drop 2⟩)) rfl ?_
      refine G2 (v := .pv (.sl [mkP ⟨a, l.drop 2⟩])) rfl ?_
      refine G2 (R1 (id := σ.length) (es := 2) (ver := out.length) (xs := out.map mkP) (ys := [mkP ⟨a, l.drop 2⟩]) rfl (get_last' (by simp)) (List.length_map _).symm rfl rfl ⟨by rw [List.length_map]; show out.length + 1 ≤ _; omega, by rw [List.length_map]; show (out.length + 1) * 24 ≤ _; omega⟩) ?_
      have e : out.map mkP ++ [mkP ⟨a, l.drop 2⟩] = (out ++ [(⟨a, l.drop 2⟩ : Mkd)]).map mkP := by simp
      have e4 : (out.map mkP).length + [mkP (⟨a, l.drop 2⟩ : Mkd)].length = (out ++ [(⟨a, l.drop 2⟩ : Mkd)]).length := by simp
      rw [e, e4, set_last' (by simp)]
      have k38 : ∀ b, b = false → A6.n38 (A6.X w0 σ.length) w0 σ.length R (ptT σ id ls at_ (out ++ [⟨a, l.drop 2⟩])) (.ptr id 0) (kind.toNat : Int) most (ptA σ (out ++ [⟨a, l.drop 2⟩])) b := by
        intro b hb
        refine part38 hid (by omega) ?_
        refine ih (at_ + 1) (out ++ [⟨a, l.drop 2⟩]) b h2 (by omega) (by rw [List.length_append, List.length_singleton]; omega) (fun x hx' => ?_) (by rw [hb]; exact hR)
        rcases List.mem_append.1 hx' with hx' | hx'
        · exact ht x hx'
        · rw [List.mem_singleton] at hx'
          rw [hx']
          show (l.drop 2).length ≤ _
          rw [List.length_drop]; omega
      exact k38 _ rfl
    have h19 : Lib.hasPrefix (bareB l) [92] = true → ∀ t, t = decide (out = [] ∨ bare = true) → A6.n19 (A6.X w0 σ.length) w0 σ.length R (ptT σ id ls at_ out) (.ptr id 0) (kind.toNat : Int) most (ptA σ out) t := by
      intro hp t htt
      refine A6.n19_in ?_
      rw [A6.b19_eq]
      refine A5 (fun g => hstop ?_) (fun g => ?_)
      · rw [g] at htt
        rw [partC, if_pos hp, if_pos (of_decide_eq_true htt.symm)]
      · rw [g] at htt
        have hn := of_decide_eq_false htt.symm
        obtain ⟨q, w, rfl⟩ : ∃ q w, out = q ++ [w] := by
          rcases List.eq_nil_or_concat out with e | ⟨q, w, e⟩
          · exact absurd (.inl e) hn
          · exact ⟨q, w, by rw [e, List.concat_eq_append]⟩
        have hql : (q ++ [w]).length = q.length + 1 := by simp
        have hget : ((q ++ [w]).map mkP)[q.length]? = some (.agg [.int .u8 w.m.toNat, .str w.t]) := by simp
        have hw8 : w.t.length ≤ 8388608 := ht w (by simp)
        have wl : IntKind.wrap .i64 ((((q ++ [w]).length : Nat) : Int) - 1) = (q.length : Int) := by rw [hql, G3 (by omega) (by omega)]; omega
        have hga : (ptT σ id ls at_ (q ++ [w]))[σ.length]? = some (.arr 2 ((q ++ [w]).map mkP) false) := get_last' (by simp)
        have ep : partC kind most (l :: r) (q ++ [w]) bare = partC kind most r (q ++ [⟨w.m, bareB w.t⟩]) true := by
          rw [partC, if_pos hp, if_neg hn]
          congr 1
          unfold T6
          simp
        rw [ep] at hR
        refine A0 rfl (K2 ?_)
        rw [wl]
        refine A0 (idx_arr (id := σ.length) (xs := (q ++ [w]).map mkP) tab183 hga (by omega) rfl (List.length_map _)) ?_
        rw [Nat.zero_add]
        refine A0 rfl (A0 rfl ?_)
        refine A0 (load_eptr (id := σ.length) (xs := (q ++ [w]).map mkP) hga (List.length_map _) hget rfl rfl) (I0 ?_)
        refine bare_spec (by omega) (I0 ?_)
        refine A0 rfl (A0 rfl ?_)
        refine A0 (store_eptr (id := σ.length) (xs := (q ++ [w]).map mkP) hga (List.length_map _) hget rfl rfl rfl (by simp)) ?_
        have e : ((q ++ [w]).map mkP).set q.length (.agg (N3 [.int .u8 w.m.toNat, .str w.t] (0 + 1) [.str (bareB w.t)])) = (q ++ [(⟨w.m, bareB w.t⟩ : Mkd)]).map mkP := by
          rw [List.map_append, List.set_append_right _ _ (by simp)]
          simp [N3]
        have e3 : (q ++ [w]).length = (q ++ [(⟨w.m, bareB w.t⟩ : Mkd)]).length := by simp
        rw [e, set_last' (by simp)]
        generalize hb : true = b
        have := part38 (R := R) (w0 := w0) (σ := σ) (ls := ls) (kind := kind) (most := most) (at_ := at_) (out := q ++ [⟨w.m, bareB w.t⟩]) (bare := b) hid (by omega) (ih (at_ + 1) (q ++ [⟨w.m, bareB w.t⟩]) b h2 (by omega) (by rw [← e3]; omega) (fun x hx' => by
          rcases List.mem_append.1 hx' with hx' | hx'
          · exact ht x (by simp [hx'])
          · rw [List.mem_singleton] at hx'
            rw [hx']
            exact Nat.le_trans (bareB_le w.t) hw8) (by rw [← hb]; exact hR))
        unfold ptA at this ⊢
        rw [e3]
        exact this
    have h15 : ∀ (t : Bool) (s : Ln) (ok : Bool), s = bareB l → ok = true → t = Lib.hasPrefix (bareB l) [92] → A6.n15 (A6.X w0 σ.length) w0 σ.length R (ptT σ id ls at_ out) (.ptr id 0) (kind.toNat : Int) most (ptA σ out) bare s ok t := by
      intro t s ok hs hok htt
      refine A6.n15_in ?_
      rw [A6.b15_eq]
      refine A5 (fun g => ?_) (fun g => ?_)
      · have hp : Lib.hasPrefix (bareB l) [92] = true := by rw [← htt, g]
        refine A0 rfl (K2 ?_)
        rw [G4]
        refine B8 (fun g2 => ?_) (fun g2 => ?_)
        · have e : out = [] := List.length_eq_zero_iff.1 (by omega)
          generalize hb : true = b
          exact h19 hp b (by rw [← hb, decide_eq_true (.inl e)])
        · have e : out ≠ [] := fun e => g2 (by rw [e]; rfl)
          refine h19 hp bare ?_
          cases bare <;> simp [e]
      · have hp : Lib.hasPrefix (bareB l) [92] = false := by rw [← htt, g]
        refine A5 (fun _ => ?_) (fun g2 => by rw [hok] at g2; cases g2)
        have no : ∀ t, t = false → ((out.length : Int) < most → rowC kind l = none) → A6.n31 (A6.X w0 σ.length) w0 σ.length R (ptT σ id ls at_ out) (.ptr id 0) (kind.toNat : Int) most (ptA σ out) s t := by
          intro t ht hn
          rw [hs]
          refine h31 t (fun e => by rw [ht] at e; cases e) (fun _ => ?_)
          rw [partC, if_neg (by rw [hp]; decide)]
          by_cases hm : (out.length : Int) < most
          · rw [if_pos hm, hn hm]
          · rw [if_neg hm]
        refine A0 rfl (K2 ?_)
        rw [A7]
        refine B8 (fun g3 => ?_) (fun g3 => ?_)
        · have yes : ∀ t x, t = true → rowC kind l = some x → A6.n31 (A6.X w0 σ.length) w0 σ.length R (ptT σ id ls at_ out) (.ptr id 0) (kind.toNat : Int) most (ptA σ out) s t := by
            intro t x ht hr
            rw [hs]
            refine h31 t (fun _ => ⟨x, hr, ?_⟩) (fun e => by rw [ht] at e; cases e)
            rw [partC, if_neg (by rw [hp]; decide), if_pos g3, hr]
          rw [A7]
          refine B8 (fun g4 => ?_) (fun g4 => ?_)
          · obtain ⟨a, b, q, e⟩ : ∃ a b q, bareB l = a :: b :: q := by
              rw [hs] at g4
              cases e : bareB l with
              | nil => rw [e] at g4; simp at g4
              | cons a r' =>
                cases r' with
                | nil => rw [e] at g4; simp at g4
                | cons b q => exact ⟨a, b, q, rfl⟩
            have hrow : rowC kind l = if b = 32 ∧ (a = 32 ∨ a = kind ∨ a = 33) then some ⟨a, l.drop 2⟩ else none := by
              unfold rowC; rw [e]
            have es : s = a :: b :: q := by rw [hs, e]
            rw [es] at no yes ⊢
            refine A0 (R0 (k := 1) (c := b) rfl) (K2 ?_)
            rw [G4]
            have u32 : ∀ c : UInt8, ((c.toNat : Int) = 32) ↔ c = 32 := fun c => u8_eq (b := 32)
            have u33 : ∀ c : UInt8, ((c.toNat : Int) = 33) ↔ c = 33 := fun c => u8_eq (b := 33)
            refine B8 (fun g5 => ?_) (fun g5 => ?_)
            · have hb32 := (u32 b).1 g5
              refine A0 (R0 (k := 0) (c := a) rfl) (K2 ?_)
              rw [G4]
              refine B8 (fun g6 => ?_) (fun g6 => ?_)
              · generalize hbt : true = bt
                exact yes bt _ hbt.symm (by rw [hrow, if_pos ⟨hb32, .inl ((u32 a).1 g6)⟩])
              · have ha32 : a ≠ 32 := fun e => g6 ((u32 a).2 e)
                refine A0 (R0 (k := 0) (c := a) rfl) (K2 ?_)
                rw [G4]
                refine B8 (fun g7 => ?_) (fun g7 => ?_)
                · generalize hbt : true = bt
                  exact yes bt _ hbt.symm (by rw [hrow, if_pos ⟨hb32, .inr (.inl (u8_eq.1 g7))⟩])
                · have hak : a ≠ kind := fun e => g7 (by rw [e])
                  refine A0 (R0 (k := 0) (c := a) rfl) (K2 ?_)
                  by_cases h33 : a = 33
                  · exact yes _ _ (beq_iff_eq.2 ((u33 a).2 h33)) (by rw [hrow, if_pos ⟨hb32, .inr (.inr h33)⟩])
                  · refine no _ (beq_false_of_ne (fun e => h33 ((u33 a).1 e))) (fun _ => ?_)
                    rw [hrow, if_neg]
                    rintro ⟨_, h | h | h⟩
                    · exact ha32 h
                    · exact hak h
                    · exact h33 h
            · generalize hbt : false = bt
              exact no bt hbt.symm (fun _ => by rw [hrow, if_neg (fun h => g5 ((u32 b).2 h.1))])
          · generalize hbt : false = bt
            refine no bt hbt.symm (fun _ => ?_)
            rw [hs] at g4
            unfold rowC
            cases e : bareB l with
            | nil => rfl
            | cons a r' =>
              cases r' with
              | nil => rfl
              | cons b q => rw [e] at g4; simp only [List.length_cons] at g4; omega
        · generalize hbt : false = bt
          exact no bt hbt.symm (fun h => absurd h g3)
    refine A6.n7_in ?_
    rw [A6.b8_eq]
    refine now_spec (rd_get hid) (by omega) hx ?_
    have hnf : nowF (ls.drop at_) = (bareB l, true) := by rw [hd]; rfl
    generalize nowF (ls.drop at_) = nf at hnf
    obtain ⟨s0, ok0⟩ := nf
    have hs0 : s0 = bareB l := congrArg Prod.fst hnf
    have hok : ok0 = true := congrArg Prod.snd hnf
    repeat ((with_reducible first | apply A0 | apply wI | apply wT | apply wP | apply wS | apply wB); exact rfl)
    refine A5 (fun g => ?_) (fun g => by rw [hok] at g; cases g)
    refine HasPrefix_spec (F5 (h15 _ _ _ hs0 hok ?_))
    rw [hs0]
theorem part_spec12 (L : Laid w0.w) {id : Nat} {ls : List Ln} {at_ : Nat} {kind : UInt8} {most : Int} (ho : σ[id]? = some (rdC ls at_)) (hw : ∀ n, wfS (σ.set id (rdC ls n))) (hl : ls.length ≤ 8388606) (hat : at_ ≤ ls.length) (hx : ∀ l ∈ ls, l.length ≤ 8388608)
    (hR : ∀ at', ls.drop at' = (partC kind most (ls.drop at_) [] false).2 → at' ≤ ls.length → R (.pv (mksP (partC kind most (ls.drop at_) [] false).1)) (σ.set id (rdC ls at'))) :
    A1 (cx w0) A6.id [.ptr id 0, .pv (.int .u8 kind.toNat), .pv (.int .i64 most)] σ R := by
  have hid := (List.getElem?_eq_some_iff.1 ho).1
  refine A6.calls ?_
  rw [A6.b0_eq]
  generalize hb : false = b
  refine A6.n7_weak (r' := .ptr id 0) (kind' := (kind.toNat : Int)) (most' := most) (out' := .arr σ.length 0 0 0) (bare' := b) (τ := σ ++ [.arr 2 [] false]) (EWeak.nil (t := 7) (es := 2) rfl rfl) ?_
  have := part_loop (R := R) (w0 := w0) (kind := kind) (most := most) L hid hw hl hx (ls.drop at_) at_ [] b rfl hat (Nat.zero_le _) (fun x hx => by cases hx) (by rw [← hb]; exact hR)
  rw [ptT, set_same ho] at this
  exact this
end
end Go.Sv
end
section
namespace Go.Sv
def cntK (k : Int) : List Row → Int → Int
  | [], n => n
  | r :: l, n => cntK k l (if r.k = k then n else n + 1)
def hunkE (head : Ln) (old fresh : Rng) (rows : List Row) : Hnk := ⟨old.at_, cntK 3 rows 0, fresh.at_, cntK 2 rows 0, head, rows⟩
inductive HunkC (ls : List Ln) (first : Nat) : Int → Int → Option (Hnk × Nat) → Prop
  | noOld (h : spanR [42, 42, 42, 32] [32, 42, 42, 42, 42] (ls.drop (first + 1)) = none) : HunkC ls first ((first + 1 : Nat) : Int) 100 none
  | noNew {old : Rng} {at2 : Nat} (h : spanR [42, 42, 42, 32] [32, 42, 42, 42, 42] (ls.drop (first + 1)) = some old) (h2 : ls.drop at2 = (partC 45 ls.length (ls.drop (first + 2)) [] false).2) (hle : at2 ≤ ls.length) (h3 : spanR [45, 45, 45, 32] [32, 45, 45, 45, 45] (ls.drop at2) = none) : HunkC ls first (at2 : Int) 100 none
  | noTog {old fresh : Rng} {at2 : Nat} (h : spanR [42, 42, 42, 32] [32, 42, 42, 42, 42] (ls.drop (first + 1)) = some old) (h2 : ls.drop at2 = (partC 45 ls.length (ls.drop (first + 2)) [] false).2) (hle : at2 ≤ ls.length) (h3 : spanR [45, 45, 45, 32] [32, 45, 45, 45, 45] (ls.drop at2) = some fresh)
      (h4 : togF (partC 45 ls.length (ls.drop (first + 2)) [] false).1 (partC 43 fresh.count (ls.drop (at2 + 1)) [] false).1 = none) : HunkC ls first (first : Int) 100 none
  | tog {old fresh : Rng} {at2 at3 : Nat} {rows : List Row} (h : spanR [42, 42, 42, 32] [32, 42, 42, 42, 42] (ls.drop (first + 1)) = some old) (h2 : ls.drop at2 = (partC 45 ls.length (ls.drop (first + 2)) [] false).2) (hle : at2 ≤ ls.length) (h3 : spanR [45, 45, 45, 32] [32, 45, 45, 45, 45] (ls.drop at2) = some fresh)
      (h4 : togF (partC 45 ls.length (ls.drop (first + 2)) [] false).1 (partC 43 fresh.count (ls.drop (at2 + 1)) [] false).1 = some rows) (h5 : ls.drop at3 = (partC 43 fresh.count (ls.drop (at2 + 1)) [] false).2) (hle3 : at3 ≤ ls.length) (head : Ln) (hh : head = Lib.trimPrefix ((nowF (ls.drop first)).1.drop 15) [32]) :
      HunkC ls first (first : Int) (if (S3 old (cntK 3 rows 0) && S3 fresh (cntK 2 rows 0)) = true then (if H0 (hunkE head old fresh rows) = true then 0 else 100) else 111) (if (S3 old (cntK 3 rows 0) && S3 fresh (cntK 2 rows 0)) = true ∧ H0 (hunkE head old fresh rows) = true then some (hunkE head old fresh rows, at3) else none)
section
open Go Go.RowKit Go.Proofs
variable {w0 : Base} {σ : Store} {R : AV → Store → Prop}
abbrev nmX (p s : Ln) : SObj := .cells 23 [.pv (.str p), .pv (.str s)]
abbrev cS (ls : List Ln) (at_ : Nat) (p s p' s' : Ln) (hs : List Hnk) : Store := [nmX [] [], nmX [] [], .arr 1 (ls.map PV.str) true, rdC ls at_, nmX p s, nmX p s, nmX p' s', nmX p' s', .arr 6 (hs.map hnkP) false]
abbrev hC1 (a n b m : Int) (head : Ln) (rows : List Row) : SObj := .cells 39 [.pv (.int .i64 a), .pv (.int .i64 n), .pv (.int .i64 b), .pv (.int .i64 m), .pv (.str head), .pv (rowsP rows)]
abbrev zHn : SObj := .cells 39 [.pv (.int .i64 0), .pv (.int .i64 0), .pv (.int .i64 0), .pv (.int .i64 0), .pv (.str []), .nilsl]
abbrev rngO (g : Rng) : SObj := .cells 133 [.pv (.int .i64 g.at_), .pv (.int .i64 g.count), .pv (.bool g.two)]
abbrev ctS (ls : List Ln) (at_ : Nat) (p s p' s' : Ln) (hs : List Hnk) (n m : Int) (head : Ln) (old fresh : Rng) (rows : List Row) : Store := cS ls at_ p s p' s' hs ++ [zHn, hC1 0 n 0 m head rows, rngO old, rngO old, rngO fresh, rngO fresh]
variable {ls : List Ln} {at_ first : Nat} {p s p' s' head : Ln} {hs : List Hnk} {old fresh : Rng}
theorem cnt_loop {rows : List Row} (hl : rows.length ≤ 16777216)
    (next : A9.n71 (A9.X w0 9) w0 9 R (ctS ls at_ p s p' s' hs (cntK 3 rows 0) (cntK 2 rows 0) head old fresh rows) (.ptr 9 0) (first : Int) (.ptr 10 0) (.ptr 12 0) (.ptr 14 0)) : ∀ (r : List Row) (k : Nat) (n m : Int), rows.drop k = r → 0 ≤ n → n ≤ k → 0 ≤ m → m ≤ k → cntK 3 r n = cntK 3 rows 0 → cntK 2 r m = cntK 2 rows 0 →
    A9.n48 (A9.X w0 9) w0 9 R (ctS ls at_ p s p' s' hs n m head old fresh rows) (.ptr 9 0) (first : Int) (.ptr 10 0) (.ptr 12 0) (.ptr 14 0) (.pv (rowsP rows)) rows.length k
  | [], k, n, m, hd, _, _, _, _, e1, e2 => by
    have hk := M0 hd
    refine A9.n48_in ?_
    rw [A9.b49_eq, A7, if_neg (by omega)]
    simp only [cntK] at e1 e2
    rw [e1, e2]
    exact next
  | c :: r, k, n, m, hd, n0, n1, m0, m1, e1, e2 => by
    obtain ⟨h1, h2, hk⟩ := H4 hd
    have hg : (rows.map rowP)[k]? = some (rowP c) := by rw [List.getElem?_map, h1]; rfl
    rw [cntK] at e1 e2
    have h70 : ∀ n' m', n' = (if c.k = 3 then n else n + 1) → m' = (if c.k = 2 then m else m + 1) → A9.n70 (A9.X w0 9) w0 9 R (ctS ls at_ p s p' s' hs n' m' head old fresh rows ++ [.cells 51 [.pv (.int .i64 c.k), .pv (.str c.t)]]) (.ptr 9 0) (first : Int) (.ptr 10 0) (.ptr 12 0) (.ptr 14 0) (.pv (rowsP rows)) rows.length k := by
      rintro n' m' rfl rfl
      refine A9.n70_in ?_
      rw [A9.b70_eq, I3 hk (by omega)]
      refine A9.n48_weak (EWeak.drop (τ := ctS ls at_ p s p' s' hs (if c.k = 3 then n else n + 1) (if c.k = 2 then m else m + 1) head old fresh rows) glob0 (Nat.le_of_ble_eq_true rfl) rfl rfl) ?_
      exact cnt_loop hl next r (k + 1) _ _ h2 (by split <;> omega) (by split <;> omega) (by split <;> omega) (by split <;> omega) e1 e2
    have h65 : ∀ n', n' = (if c.k = 3 then n else n + 1) → A9.n65 (A9.X w0 9) w0 9 R (ctS ls at_ p s p' s' hs n' m head old fresh rows ++ [.cells 51 [.pv (.int .i64 c.k), .pv (.str c.t)]]) (.ptr 9 0) (first : Int) (.ptr 10 0) (.ptr 12 0) (.ptr 14 0) (.ptr 15 0) (.pv (rowsP rows)) rows.length k := by
      intro n' hn'
      refine A9.n65_in ?_
      rw [A9.b65_eq]
      repeat ((with_reducible first | apply A0 | apply wI | apply wT | apply wP | apply wS | apply wB); exact rfl)
      rw [M1]
      refine B8 (fun g => h70 _ _ hn' (by rw [if_pos g])) (fun g => ?_)
      repeat ((with_reducible first | apply A0 | apply wI | apply wT | apply wP | apply wS | apply wB); exact rfl)
      rw [G3 (by omega) (by omega)]
      refine A0 rfl ?_
      exact h70 n' (m + 1) hn' (by rw [if_neg g])
    refine A9.n48_in ?_
    rw [A9.b49_eq, A7, if_pos (by omega)]
    refine A0 (K7 tab51 hg rfl) ?_
    repeat ((with_reducible first | apply A0 | apply wI | apply wT | apply wP | apply wS | apply wB); exact rfl)
    rw [M1]
    refine B8 (fun g => h65 _ (by rw [if_pos g])) (fun g => ?_)
    repeat ((with_reducible first | apply A0 | apply wI | apply wT | apply wP | apply wS | apply wB); exact rfl)
    rw [G3 (by omega) (by omega)]
    refine A0 rfl ?_
    exact h65 (n + 1) (by rw [if_neg g])
abbrev ceA (h : Hnk) (line err : Int) : AV := .tup [.pv (hnkP h), .pv (.int .i64 line), .pv (.iface 63 (.int .i64 err))]
abbrev cgA (h : Hnk) (line : Int) : AV := .tup [.pv (hnkP h), .pv (.int .i64 line), .pv (.raw .nilIface)]
theorem hunk74 (L : Laid w0.w) {rows : List Row} {n m : Int} (hl : rows.length ≤ 16777216) (ht : ∀ x ∈ rows, x.t.length ≤ 140737488355328) (hh : head.length ≤ 140737488355328) (ho : -9223372036854775808 ≤ old.at_ ∧ old.at_ ≤ 9223372036854775807) (hf : -9223372036854775808 ≤ fresh.at_ ∧ fresh.at_ ≤ 9223372036854775807)
    (t : Bool) (hbad : t = true → ∀ h, R (ceA h first 111) (cS ls at_ p s p' s' hs))
    (hgood : t = false → R (.tup [.pv (hnkP ⟨old.at_, n, fresh.at_, m, head, rows⟩), .pv (.int .i64 first), vErr (H0 ⟨old.at_, n, fresh.at_, m, head, rows⟩)]) (cS ls at_ p s p' s' hs)) :
    A9.n74 (A9.X w0 9) w0 9 R (ctS ls at_ p s p' s' hs n m head old fresh rows) (.ptr 9 0) (first : Int) (.ptr 10 0) (.ptr 12 0) (.ptr 14 0) t := by
  refine A9.n74_in ?_
  rw [A9.b74_eq]
  refine A5 (fun g => ?_) (fun g => ?_)
  · repeat ((with_reducible first | apply A0 | apply wI | apply wT | apply wP | apply wS | apply wB); exact rfl)
    exact fin_cut (σ := cS ls at_ p s p' s' hs) glob0 rfl rfl (hbad g ⟨0, n, 0, m, head, rows⟩)
  · repeat ((with_reducible first | apply A0 | apply wI | apply wT | apply wP | apply wS | apply wB); exact rfl)
    refine ⟨rfl, ?_⟩
    repeat ((with_reducible first | apply A0 | apply wI | apply wT | apply wP | apply wS | apply wB); exact rfl)
    refine Valid_spec L (h := ⟨old.at_, n, fresh.at_, m, head, rows⟩) (by show rows.length ≤ _; omega) ht hh ho hf ⟨rfl, ?_⟩
    repeat ((with_reducible first | apply A0 | apply wI | apply wT | apply wP | apply wS | apply wB); exact rfl)
    refine fin_cut (σ := cS ls at_ p s p' s' hs) glob0 rfl ?_ (hgood g)
    unfold vErr; split <;> rfl
theorem hunk71 (L : Laid w0.w) {rows : List Row} {n m : Int} (hl : rows.length ≤ 16777216) (ht : ∀ x ∈ rows, x.t.length ≤ 140737488355328) (hh : head.length ≤ 140737488355328) (ho : -9223372036854775808 ≤ old.at_ ∧ old.at_ ≤ 9223372036854775807) (hf : -9223372036854775808 ≤ fresh.at_ ∧ fresh.at_ ≤ 9223372036854775807)
    (hbad : (S3 old n && S3 fresh m) = false → ∀ h, R (ceA h first 111) (cS ls at_ p s p' s' hs))
    (hgood : (S3 old n && S3 fresh m) = true → R (.tup [.pv (hnkP ⟨old.at_, n, fresh.at_, m, head, rows⟩), .pv (.int .i64 first), vErr (H0 ⟨old.at_, n, fresh.at_, m, head, rows⟩)]) (cS ls at_ p s p' s' hs)) :
    A9.n71 (A9.X w0 9) w0 9 R (ctS ls at_ p s p' s' hs n m head old fresh rows) (.ptr 9 0) (first : Int) (.ptr 10 0) (.ptr 12 0) (.ptr 14 0) := by
  refine A9.n71_in ?_
  rw [A9.b71_eq]
  repeat ((with_reducible first | apply A0 | apply wI | apply wT | apply wP | apply wS | apply wB); exact rfl)
  refine takes_spec L (g := old) (F5 ?_)
  rw [E3]
  refine A5 (fun g => ?_) (fun g => ?_)
  · repeat ((with_reducible first | apply A0 | apply wI | apply wT | apply wP | apply wS | apply wB); exact rfl)
    refine takes_spec L (g := fresh) (F5 ?_)
    refine hunk74 L hl ht hh ho hf _ (fun e => hbad ?_) (fun e => hgood ?_)
    · have : S3 fresh m = false := by simpa using e
      rw [this, Bool.and_false]
    · have : S3 fresh m = true := by simpa using e
      rw [g, this]; rfl
  · generalize hb : true = b
    refine hunk74 L hl ht hh ho hf b (fun e => hbad (by rw [g]; rfl)) (fun e => by rw [← hb] at e; cases e)
theorem cntK_le (k : Int) : ∀ (l : List Row) (n : Int), n ≤ cntK k l n ∧ cntK k l n ≤ n + l.length
  | [], n => by simp [cntK]
  | r :: l, n => by
    rw [cntK]
    have := cntK_le k l (if r.k = k then n else n + 1)
    simp only [List.length_cons]
    split at this <;> rename_i h
    · rw [if_pos h]; omega
    · rw [if_neg h]; omega
theorem partC_len {kind : UInt8} {most : Int} {T : Nat} : ∀ (r : List Ln) (out : List Mkd) (bare : Bool), (∀ l ∈ r, l.length ≤ T) → (∀ x ∈ out, x.t.length ≤ T) → (partC kind most r out bare).1.length ≤ out.length + r.length ∧ (∀ x ∈ (partC kind most r out bare).1, x.t.length ≤ T) ∧ ∃ q, r = q ++ (partC kind most r out bare).2
  | [], out, bare, _, ho => ⟨by simp [partC], by simpa [partC] using ho, [], rfl⟩
  | l :: r, out, bare, hT, ho => by
    have hTr : ∀ x ∈ r, x.length ≤ T := fun x hx => hT x (List.mem_cons_of_mem _ hx)
    have hl := hT l (by simp)
    have triv : (out, l :: r).1.length ≤ out.length + (l :: r).length ∧ (∀ x ∈ (out, l :: r).1, x.t.length ≤ T) ∧ ∃ q, l :: r = q ++ (out, l :: r).2 := ⟨by simp, ho, [], rfl⟩
    rw [partC]
    split
    · split
      · exact triv
      · have hb : ∀ x ∈ T6 out, x.t.length ≤ T := by
          unfold T6
          rcases List.eq_nil_or_concat out with e | ⟨q, w, e⟩
          · rw [e]; simp
          · rw [e, List.concat_eq_append]
            simp only [List.getLast?_append, List.getLast?_singleton, Option.some_or, List.dropLast_concat]
            intro x hx
            rcases List.mem_append.1 hx with hx | hx
            · exact ho x (by rw [e, List.concat_eq_append]; simp [hx])
            · rw [List.mem_singleton] at hx
              rw [hx]
              exact Nat.le_trans (bareB_le w.t) (ho w (by rw [e, List.concat_eq_append]; simp))
        have hbl : (T6 out).length = out.length := by
          unfold T6
          rcases List.eq_nil_or_concat out with e | ⟨q, w, e⟩
          · rw [e]; rfl
          · rw [e, List.concat_eq_append]; simp
        obtain ⟨i1, i2, q, i3⟩ := partC_len (kind := kind) (most := most) r (T6 out) true hTr hb
        refine ⟨by simp only [List.length_cons]; omega, i2, l :: q, by rw [List.cons_append, ← i3]⟩
    · split
      · split
        · rename_i x hx
          obtain ⟨a, r', _, _, rfl⟩ := rowC_some hx
          obtain ⟨i1, i2, q, i3⟩ := partC_len (kind := kind) (most := most) r (out ++ [⟨a, l.drop 2⟩]) false hTr (fun y hy => by
            rcases List.mem_append.1 hy with hy | hy
            · exact ho y hy
            · rw [List.mem_singleton] at hy
              rw [hy]
              show (l.drop 2).length ≤ T
              rw [List.length_drop]; omega)
          rw [List.length_append, List.length_singleton] at i1
          refine ⟨by simp only [List.length_cons]; omega, i2, l :: q, by rw [List.cons_append, ← i3]⟩
        · exact triv
      · exact triv
theorem togL_len {T : Nat} : ∀ (n : Nat) (old fresh : List Mkd) (out rows : List Row), togL n old fresh out = some rows → (∀ x ∈ old, x.t.length ≤ T) → (∀ x ∈ fresh, x.t.length ≤ T) → (∀ x ∈ out, x.t.length ≤ T) → rows.length ≤ out.length + old.length + fresh.length ∧ ∀ x ∈ rows, x.t.length ≤ T
  | 0, _, _, _, _, h, _, _, _ => by cases h
  | n + 1, old, fresh, out, rows, h, ho, hf, hu => by
    have so := List.takeWhile_append_dropWhile (p := fun x : Mkd => !(x.m == 32)) (l := old)
    have sf := List.takeWhile_append_dropWhile (p := fun x : Mkd => !(x.m == 32)) (l := fresh)
    have lo := congrArg List.length so
    have lf := congrArg List.length sf
    rw [List.length_append] at lo lf
    have hru : ∀ x ∈ out ++ U0 (tkM old) (tkM fresh), x.t.length ≤ T := by
      intro x hx
      rcases List.mem_append.1 hx with hx | hx
      · exact hu x hx
      · rcases List.mem_append.1 hx with hx | hx
        · obtain ⟨y, hy, rfl⟩ := List.mem_map.1 hx
          exact ho y (by rw [← so]; exact List.mem_append_left _ hy)
        · obtain ⟨y, hy, rfl⟩ := List.mem_map.1 hx
          exact hf y (by rw [← sf]; exact List.mem_append_left _ hy)
    have hrl : (out ++ U0 (tkM old) (tkM fresh)).length = out.length + (tkM old).length + (tkM fresh).length := by
      simp only [U0, List.length_append, List.length_map]; omega
    change (tkM old).length + (tdM old).length = _ at lo
    change (tkM fresh).length + (tdM fresh).length = _ at lf
    change tkM old ++ tdM old = _ at so
    change tkM fresh ++ tdM fresh = _ at sf
    rw [togL] at h
    split at h
    · split at h
      · injection h with h
        rw [← h]
        exact ⟨by omega, hru⟩
      · rename_i a o b f e1 e2
        split at h
        · rw [e1] at lo so
          rw [e2] at lf sf
          obtain ⟨i1, i2⟩ := togL_len n o f _ rows h (fun x hx => ho x (by rw [← so]; simp [hx])) (fun x hx => hf x (by rw [← sf]; simp [hx])) (fun x hx => by
            rcases List.mem_append.1 hx with hx | hx
            · exact hru x hx
            · rw [List.mem_singleton] at hx
              rw [hx]
              exact ho a (by rw [← so]; simp))
          rw [List.length_append, hrl] at i1
          simp only [List.length_cons, List.length_nil] at lo lf i1
          exact ⟨by omega, i2⟩
        · cases h
      · cases h
    · cases h
theorem togF_len {T : Nat} {o f : List Mkd} {rows : List Row} (h : togF o f = some rows) (ho : ∀ x ∈ o, x.t.length ≤ T) (hf : ∀ x ∈ f, x.t.length ≤ T) {N : Nat} (h1 : o.length ≤ N) (h2 : f.length ≤ N) : rows.length ≤ 2 * N ∧ ∀ x ∈ rows, x.t.length ≤ T := by
  have cf : ∀ l : List Mkd, (ctxM l).length ≤ l.length ∧ ∀ x ∈ ctxM l, x ∈ l := fun l => ⟨List.length_filter_le _ _, fun x hx => (List.mem_filter.1 hx).1⟩
  unfold togF at h
  split at h
  · cases h
  · split at h
    · obtain ⟨i1, i2⟩ := togL_len (T := T) _ _ _ _ _ h (fun x hx => hf x ((cf f).2 x hx)) hf (by simp)
      have := (cf f).1
      simp only [List.length_nil] at i1
      exact ⟨by omega, i2⟩
    · split at h
      · obtain ⟨i1, i2⟩ := togL_len (T := T) _ _ _ _ _ h ho (fun x hx => ho x ((cf o).2 x hx)) (by simp)
        have := (cf o).1
        simp only [List.length_nil] at i1
        exact ⟨by omega, i2⟩
      · obtain ⟨i1, i2⟩ := togL_len (T := T) _ _ _ _ _ h ho hf (by simp)
        simp only [List.length_nil] at i1
        exact ⟨by omega, i2⟩
theorem spanR_out {b1 b2 : Ln} {r : List Ln} {g : Rng} (h : spanR b1 b2 r = some g) : 0 ≤ g.at_ ∧ g.at_ ≤ 2147483647 := by
  unfold spanR at h
  split at h
  · rename_i hc
    injection h with h
    rw [← h]
    exact numC_out _ hc.2.1
  · cases h
theorem span_two (o : Option Rng) : ∃ (g : Rng) (b : Bool), spanA o = .tup [.pv (.agg (rngC g)), .pv (.bool b)] ∧ rngCell o = rngO g ∧ (b = true → o = some g) ∧ (b = false → o = none) := by
  cases o with
  | none => exact ⟨⟨0, 0, false⟩, false, rfl, rfl, fun h => (by cases h), fun _ => rfl⟩
  | some g => exact ⟨g, true, rfl, rfl, fun _ => rfl, fun h => (by cases h)⟩
theorem tog_two {o : Option (List Row)} {w : AV} (h : togP o w) : ∃ (rows : List Row) (b : Bool), w = .tup [.pv (rowsP rows), .pv (.bool b)] ∧ (b = true → o = some rows) ∧ (b = false → o = none) := by
  cases o with
  | none => obtain ⟨rows, rfl⟩ := h; exact ⟨rows, false, rfl, fun h => (by cases h), fun _ => rfl⟩
  | some rows => exact ⟨rows, true, h, fun _ => rfl, fun h => (by cases h)⟩
theorem trimPrefix_le (s t : Ln) : (Lib.trimPrefix s t).length ≤ s.length := by
  unfold Lib.trimPrefix
  split <;> simp
abbrev hC0 (head : Ln) : SObj := .cells 39 [.pv (.int .i64 0), .pv (.int .i64 0), .pv (.int .i64 0), .pv (.int .i64 0), .pv (.str head), .nilsl]
set_option maxHeartbeats 1000000 in
theorem hunk_spec12 (L : Laid w0.w) (hl : ls.length ≤ 8388606) (hat : first < ls.length) (hx : ∀ l ∈ ls, l.length ≤ 8388608) (h15 : 15 ≤ (nowF (ls.drop first)).1.length)
    (hbad : ∀ line err h at', HunkC ls first line err none → R (ceA h line err) (cS ls at' p s p' s' hs))
    (hgood : ∀ line h at', HunkC ls first line 0 (some (h, at')) → R (cgA h line) (cS ls at' p s p' s' hs)) :
    A1 (cx w0) A9.id [.ptr 3 0] (cS ls first p s p' s' hs) R := by
  have hdl : ∀ n, ∀ l ∈ ls.drop n, l.length ≤ 8388608 := fun n l h => hx l (List.mem_of_mem_drop h)
  have hnl : (nowF (ls.drop first)).1.length ≤ 8388608 := nowF_len (hdl first)
  refine A9.calls ?_
  show A9.b0 (A9.X w0 9) w0 9 R (cS ls first p s p' s' hs) (.ptr 3 0)
  rw [A9.b0_eq]
  repeat ((with_reducible first | apply A0 | apply wI | apply wT | apply wP | apply wS | apply wB); exact rfl)
  refine now_spec (id := 3) (at_ := first) rfl (by omega) hx ?_
  repeat ((with_reducible first | apply A0 | apply wI | apply wT | apply wP | apply wS | apply wB); exact rfl)
  refine A0 (J9 h15) (I0 ?_)
  refine TrimPrefix_spec (I0 ?_)
  generalize hh : Lib.trimPrefix ((nowF (ls.drop first)).1.drop 15) [32] = head
  repeat ((with_reducible first | apply A0 | apply wI | apply wT | apply wP | apply wS | apply wB); exact rfl)
  rw [G3 (by omega) (by omega), show (first : Int) + 1 = ((first + 1 : Nat) : Int) by omega]
  refine span_spec12 L (σ := cS ls (first + 1) p s p' s' hs ++ [zHn, hC0 head]) (id := 3) (at_ := first + 1) rfl (by omega) (by omega) hx ?_
  generalize ho : spanR [42, 42, 42, 32] [32, 42, 42, 42, 42] (ls.drop (first + 1)) = o
  obtain ⟨g, b, e1, e2, hb1, hb2⟩ := span_two o
  rw [e1, e2]
  repeat ((with_reducible first | apply A0 | apply wI | apply wT | apply wP | apply wS | apply wB); exact rfl)
  rw [E3]
  refine A5 (fun gb => ?_) (fun gb => ?_)
  rotate_left
  · have hn := hb2 gb
    rw [hn, spanN]
    repeat ((with_reducible first | apply A0 | apply wI | apply wT | apply wP | apply wS | apply wB); exact rfl)
    refine ⟨rfl, ?_⟩
    repeat ((with_reducible first | apply A0 | apply wI | apply wT | apply wP | apply wS | apply wB); exact rfl)
    exact O9 (σ := cS ls (first + 1) p s p' s' hs) (r' := ceA ⟨0, 0, 0, 0, head, []⟩ ((first + 1 : Nat) : Int) 100) glob0 rfl rfl (hbad _ 100 ⟨0, 0, 0, 0, head, []⟩ _ (.noOld (by rw [ho, hn])))
  have hs1 := hb1 gb
  rw [hs1] at ho
  have hf1 : first + 2 ≤ ls.length := by
    by_cases hc : first + 2 ≤ ls.length
    · exact hc
    · rw [List.drop_eq_nil_of_le (by omega)] at ho; cases ho
  rw [hs1, spanN]
  repeat ((with_reducible first | apply A0 | apply wI | apply wT | apply wP | apply wS | apply wB); exact rfl)
  rw [List.length_map]
  refine part_spec12 L (σ := cS ls (first + 2) p s p' s' hs ++ [zHn, hC0 head, rngO g, rngO g]) (id := 3) (at_ := first + 2) (kind := 45) (most := ls.length) rfl (fun n => rfl) hl hf1 hx (fun at2 h2 hle2 => ?_)
  refine span_spec12 L (σ := cS ls at2 p s p' s' hs ++ [zHn, hC0 head, rngO g, rngO g]) (id := 3) (at_ := at2) rfl (by omega) hle2 hx ?_
  generalize h3 : spanR [45, 45, 45, 32] [32, 45, 45, 45, 45] (ls.drop at2) = o2
  obtain ⟨g2, b2, e3, e4, hc1, hc2⟩ := span_two o2
  rw [e3, e4]
  repeat ((with_reducible first | apply A0 | apply wI | apply wT | apply wP | apply wS | apply wB); exact rfl)
  rw [E3]
  refine A5 (fun gb2 => ?_) (fun gb2 => ?_)
  rotate_left
  · have hn := hc2 gb2
    rw [hn, spanN]
    repeat ((with_reducible first | apply A0 | apply wI | apply wT | apply wP | apply wS | apply wB); exact rfl)
    refine ⟨rfl, ?_⟩
    repeat ((with_reducible first | apply A0 | apply wI | apply wT | apply wP | apply wS | apply wB); exact rfl)
    exact O9 (σ := cS ls at2 p s p' s' hs) (r' := ceA ⟨0, 0, 0, 0, head, []⟩ (at2 : Int) 100) glob0 rfl rfl (hbad _ 100 ⟨0, 0, 0, 0, head, []⟩ _ (.noNew ho h2 hle2 (by rw [h3, hn])))
  have hs2 := hc1 gb2
  rw [hs2] at h3
  have hf2 : at2 + 1 ≤ ls.length := by
    by_cases hc : at2 + 1 ≤ ls.length
    · exact hc
    · rw [List.drop_eq_nil_of_le (by omega)] at h3; cases h3
  rw [hs2, spanN]
  repeat ((with_reducible first | apply A0 | apply wI | apply wT | apply wP | apply wS | apply wB); exact rfl)
  refine part_spec12 L (σ := cS ls (at2 + 1) p s p' s' hs ++ [zHn, hC0 head, rngO g, rngO g, rngO g2, rngO g2]) (id := 3) (at_ := at2 + 1) (kind := 43) (most := g2.count) rfl (fun n => rfl) hl hf2 hx (fun at3 h5 hle3 => ?_)
  obtain ⟨p1, p2, _⟩ := partC_len (kind := 45) (most := (ls.length : Int)) (T := 8388608) (ls.drop (first + 2)) [] false (hdl _) (by simp)
  obtain ⟨q1, q2, _⟩ := partC_len (kind := 43) (most := g2.count) (T := 8388608) (ls.drop (at2 + 1)) [] false (hdl _) (by simp)
  simp only [List.length_nil, List.length_drop] at p1 q1
  have p3 : (partC 45 (ls.length : Int) (ls.drop (first + 2)) [] false).1.length ≤ 8388606 := by omega
  have q3 : (partC 43 g2.count (ls.drop (at2 + 1)) [] false).1.length ≤ 8388606 := by omega
  refine together_spec L (by omega) (by omega) (fun w hw => ?_)
  obtain ⟨rows, b3, rfl, hd1, hd2⟩ := tog_two hw
  repeat ((with_reducible first | apply A0 | apply wI | apply wT | apply wP | apply wS | apply wB); exact rfl)
  rw [E3]
  refine A5 (fun gb3 => ?_) (fun gb3 => ?_)
  rotate_left
  · repeat ((with_reducible first | apply A0 | apply wI | apply wT | apply wP | apply wS | apply wB); exact rfl)
    exact O9 (σ := cS ls at3 p s p' s' hs) (r' := ceA ⟨0, 0, 0, 0, head, rows⟩ (first : Int) 100) glob0 rfl rfl (hbad _ 100 ⟨0, 0, 0, 0, head, rows⟩ _ (.noTog ho h2 hle2 h3 (hd2 gb3)))
  have h4 := hd1 gb3
  obtain ⟨l1, l2⟩ := togF_len h4 p2 q2 p3 q3
  have hC := HunkC.tog ho h2 hle2 h3 h4 h5 hle3 head hh.symm
  have o1 := spanR_out ho
  have o2 := spanR_out h3
  repeat ((with_reducible first | apply A0 | apply wI | apply wT | apply wP | apply wS | apply wB); exact rfl)
  rw [List.length_map]
  have c3 := cntK_le 3 rows 0
  have c2 := cntK_le 2 rows 0
  have hhl : head.length ≤ 8388608 := by
    rw [← hh]
    exact Nat.le_trans (trimPrefix_le _ _) (by rw [List.length_drop]; omega)
  refine cnt_loop (by omega) (hunk71 L (by omega) (fun x hx => Nat.le_trans (l2 x hx) (by omega)) (by omega) (by omega) (by omega) (fun e h => ?_) (fun e => ?_)) rows 0 0 0 rfl (by omega) (by omega) (by omega) (by omega) rfl rfl
  · rw [e, if_neg (by simp), if_neg (by simp)] at hC
    exact hbad _ _ _ _ hC
  · rw [if_pos e] at hC
    unfold vErr
    by_cases hv : H0 (hunkE head g g2 rows) = true
    · rw [if_pos hv, if_pos ⟨e, hv⟩] at hC
      rw [if_pos (show H0 ⟨g.at_, cntK 3 rows 0, g2.at_, cntK 2 rows 0, head, rows⟩ = true from hv)]
      exact hgood _ _ _ hC
    · rw [if_neg hv, if_neg (fun h => hv h.2)] at hC
      rw [if_neg (show ¬ H0 ⟨g.at_, cntK 3 rows 0, g2.at_, cntK 2 rows 0, head, rows⟩ = true from hv)]
      exact hbad _ _ _ _ hC
end
end Go.Sv
end
