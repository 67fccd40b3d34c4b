/- What package myers answers: what goes and what comes, box by box. -/
import Derived.Test.YtimmjplgogpglaaDoorFdL
set_option linter.unusedVariables false
set_option linter.unusedSimpArgs false
set_option maxRecDepth 100000
namespace Go.Sv
theorem fuelB_one (p : Bx) : 1 ≤ fuelB p := by unfold fuelB; split <;> omega
theorem fuelB_le {p p' : Bx} (h : p'.a.length + p'.b.length ≤ p.a.length + p.b.length) : fuelB p' ≤ fuelB p := by unfold fuelB; split <;> split <;> omega
theorem fuelB_split {p q r : Bx} (h1 : 1 ≤ q.a.length + q.b.length) (h2 : 1 ≤ r.a.length + r.b.length) (h : (q.a.length + q.b.length) + (r.a.length + r.b.length) ≤ p.a.length + p.b.length) : fuelB q + fuelB r < fuelB p := by
  unfold fuelB
  rw [if_neg (by omega), if_neg (by omega), if_neg (by omega)]
  omega
theorem fuelS_cons (p : Bx) (st : List Bx) : fuelS (p :: st) = fuelB p + fuelS st := by unfold fuelS; simp
theorem fuelS_len : ∀ st : List Bx, st.length ≤ fuelS st
  | [] => Nat.zero_le _
  | p :: st => by
    rw [fuelS_cons]
    have := fuelS_len st
    have := fuelB_one p
    simp only [List.length_cons]; omega
theorem take_rev {zs : List Bx} {l : Nat} {p : Bx} (h : zs[l]? = some p) : (zs.take (l + 1)).reverse = p :: (zs.take l).reverse := by
  have hl := (List.getElem?_eq_some_iff.1 h).1
  rw [List.take_add_one, h]
  simp
section
open Go Go.RowKit Go.Proofs
variable {w0 : Base} {σ : Store} {P : AV → Prop} {a b : List Int}
theorem app_cut {G C : List Bool} {zs : List Bx} {p B1 B2 : Bx} {l : Nat} (hl : l ≤ zs.length) (h0 : 0 < zs.length) (hb : l ≤ 1099511627776) :
    aAppendB true (mkS5 a b G C zs p) ti115 (.arr 4 zs.length 0 l) (.pv (.sl [bxQ B1, bxQ B2])) = some (.arr 6 (l + 2) 0 (l + 2), [.cells 107 [.nilsl, .nilsl], .arr 1 (boP G) false, .arr 1 (boP C) false, .cells 107 [.arr 1 a.length 0 a.length, .arr 2 b.length 0 b.length], .gone, .cells 115 (bxC p.a p.b p.x p.y), .arr 4 ((zs.take l ++ [B1, B2]).map bxQ) false]) := by
  show (if (zs.map bxQ).length = zs.length ∧ 0 < zs.length ∧ l ≤ zs.length then aAppend (popS (mkS5 a b G C zs p) 4 4 (zs.map bxQ) l) ti115 (.arr 6 l 0 l) (.pv (.sl [bxQ B1, bxQ B2])) else none) = _
  rw [if_pos ⟨List.length_map _, h0, hl⟩]
  have hlen : ((zs.map bxQ).take l).length = l := by rw [List.length_take, List.length_map]; omega
  have := append_pv (σ := popS (mkS5 a b G C zs p) 4 4 (zs.map bxQ) l) (id := 6) (es := 4) (ver := l) (xs := (zs.map bxQ).take l) (ys := [bxQ B1, bxQ B2]) (fz := false) (ei := ti115) (x := .pv (.sl [bxQ B1, bxQ B2])) rfl rfl hlen.symm rfl rfl ⟨by rw [hlen]; show l + 2 ≤ _; omega, by rw [hlen]; show (l + 2) * 64 ≤ _; omega⟩
  rw [this, hlen, show (zs.map bxQ).take l ++ [bxQ B1, bxQ B2] = (zs.take l ++ [B1, B2]).map bxQ by rw [List.map_append, List.map_take]; rfl]
  rfl
theorem cnt_len (a b : List Int) (h : 1 ≤ cntL a b) : 1 ≤ a.length + b.length := Nat.le_trans h (cnt_facts a b).1
theorem mark60 (L : Laid w0.w) {G C : List Bool} {zs : List Bx} {p : Bx} {l : Nat} (ha : p.a.length ≤ 4194304) (hb : p.b.length ≤ 4194304) (hx : p.x ≤ 4194304) (hy : p.y ≤ 4194304) (hl : l ≤ zs.length) (h0 : 0 < zs.length) (hlb : l ≤ 1099511627776) (two : 2 ≤ cntL p.a p.b)
    (next : ∀ s t x y, SnakeOut p.a p.b s t x y → m8 w0 P a b G C (zs.take l ++ [⟨p.a.take s, p.b.take t, p.x, p.y⟩, ⟨p.a.drop x, p.b.drop y, p.x + x, p.y + y⟩]) (l + 2)) :
    myers_mark.n60 (myers_mark.X w0 0) w0 0 (fun r _ => P r) (mkS5 a b G C zs p) (.ptr 0 0) (.ptr 3 0) (.arr 4 zs.length 0 l) (.ptr 5 0) := by
  refine myers_mark.n60_in ?_
  rw [myers_mark.b60_eq]
  repeat ((with_reducible first | apply opt_in | apply wI | apply wT | apply wP | apply wS | apply wB); exact rfl)
  refine snake_spec L ha hb two fun s t x y so => ?_
  have nx := next s t x y so
  obtain ⟨s1, s2, s3, s4, _, _, _⟩ := so
  repeat ((with_reducible first | apply opt_in | apply wI | apply wT | apply wP | apply wS | apply wB); exact rfl)
  refine opt_in (ints_take (l := p.a) (k := s) (by omega)) ?_
  repeat ((with_reducible first | apply opt_in | apply wI | apply wT | apply wP | apply wS | apply wB); exact rfl)
  refine opt_in (ints_take (l := p.b) (k := t) (by omega)) ?_
  repeat ((with_reducible first | apply opt_in | apply wI | apply wT | apply wP | apply wS | apply wB); exact rfl)
  refine opt_in (ints_drop (l := p.a) (k := x) s3) ?_
  repeat ((with_reducible first | apply opt_in | apply wI | apply wT | apply wP | apply wS | apply wB); exact rfl)
  refine opt_in (ints_drop (l := p.b) (k := y) s4) ?_
  repeat ((with_reducible first | apply opt_in | apply wI | apply wT | apply wP | apply wS | apply wB); exact rfl)
  rw [show IntKind.wrap .i64 ((p.x : Int) + (x : Int)) = ((p.x + x : Nat) : Int) by rw [wrap_i64 (by omega) (by omega)]; omega, show IntKind.wrap .i64 ((p.y : Int) + (y : Int)) = ((p.y + y : Nat) : Int) by rw [wrap_i64 (by omega) (by omega)]; omega]
  repeat ((with_reducible first | apply opt_in | apply wI | apply wT | apply wP | apply wS | apply wB); exact rfl)
  refine opt2_in (v := .pv (.sl [bxQ ⟨p.a.take s, p.b.take t, p.x, p.y⟩, bxQ ⟨p.a.drop x, p.b.drop y, p.x + x, p.y + y⟩])) rfl ?_
  refine opt2_in (app_cut (p := p) hl h0 hlb) ?_
  have e : (zs.take l ++ [(⟨p.a.take s, p.b.take t, p.x, p.y⟩ : Bx), ⟨p.a.drop x, p.b.drop y, p.x + x, p.y + y⟩]).length = l + 2 := by
    rw [List.length_append, List.length_take]
    simp only [List.length_cons, List.length_nil]
    omega
  refine myers_mark.n8_weak (t4' := .ptr 0 0) (m' := .ptr 3 0) (stack' := .arr 4 (l + 2) 0 (l + 2)) (EWeak.shift (t := 6) (id := 6) (k := 4) (ver := l + 2) (len := l + 2) (es := 4) (xs := (zs.take l ++ [(⟨p.a.take s, p.b.take t, p.x, p.y⟩ : Bx), ⟨p.a.drop x, p.b.drop y, p.x + x, p.y + y⟩]).map bxQ) (τ := [.cells 107 [.nilsl, .nilsl], .arr 1 (boP G) false, .arr 1 (boP C) false, .cells 107 [.arr 1 a.length 0 a.length, .arr 2 b.length 0 b.length]]) glob0 (Nat.zero_le _) (by decide) rfl (by rw [List.length_map]; exact e) (by omega) rfl rfl rfl rfl rfl) ?_
  unfold m8 at nx
  rw [e] at nx
  exact nx
theorem mark_loop (L : Laid w0.w) (ha : a.length ≤ 4194304) (hb : b.length ≤ 4194304) (hP : ∀ G C : List Bool, G.length = a.length → C.length = b.length → trueN G + trueN C = cntL a b → P (.pv (.agg [.sl (boP G), .sl (boP C)]))) : ∀ (f : Nat) (G C : List Bool) (zs : List Bx) (len : Nat), fuelS (zs.take len).reverse < f → fuelS (zs.take len).reverse ≤ 33554432 → len ≤ zs.length → 0 < zs.length → Todo a b G C (zs.take len).reverse → m8 w0 P a b G C zs len
  | 0, _, _, _, _, hf, _, _, _, _ => absurd hf (Nat.not_lt_zero _)
  | f + 1, G, C, zs, 0, hf, hs, hl, h0, T => by
    refine myers_mark.n8_in ?_
    rw [myers_mark.b9_eq]
    repeat ((with_reducible first | apply opt_in | apply wI | apply wT | apply wP | apply wS | apply wB); exact rfl)
    rw [condB_decide, if_neg (by decide)]
    refine myers_mark.n63_in ?_
    rw [myers_mark.b63_eq]
    repeat ((with_reducible first | apply opt_in | apply wI | apply wT | apply wP | apply wS | apply wB); exact rfl)
    have hs' := T.sum
    simp only [List.take_zero, List.reverse_nil, List.map_nil, List.sum_nil, Nat.add_zero] at hs'
    have key : ∀ S : Store, S[1]? = some (.arr 1 (boP G) false) → S[2]? = some (.arr 1 (boP C) false) → sealR 0 S (.agg [.arr 1 a.length 0 a.length, .arr 2 b.length 0 b.length]) = some (.pv (.agg [.sl (boP G), .sl (boP C)])) := by
      intro S h1 h2
      have e1 : sealV 0 S (.arr 1 a.length 0 a.length) = some (.pv (.sl (boP G))) := by
        show (match S[1]? with
          | some (.arr _ xs _) => if xs.length = a.length ∧ 0 + a.length ≤ a.length then some (AV.pv (.sl ((xs.drop 0).take a.length))) else none
          | _ => none) = _
        rw [h1]
        simp only
        rw [if_pos ⟨by rw [List.length_map]; exact T.g, by omega⟩, List.drop_zero, List.take_of_length_le (by rw [List.length_map, T.g]; exact Nat.le_refl _)]
      have e2 : sealV 0 S (.arr 2 b.length 0 b.length) = some (.pv (.sl (boP C))) := by
        show (match S[2]? with
          | some (.arr _ xs _) => if xs.length = b.length ∧ 0 + b.length ≤ b.length then some (AV.pv (.sl ((xs.drop 0).take b.length))) else none
          | _ => none) = _
        rw [h2]
        simp only
        rw [if_pos ⟨by rw [List.length_map]; exact T.c, by omega⟩, List.drop_zero, List.take_of_length_le (by rw [List.length_map, T.c]; exact Nat.le_refl _)]
      show (sealVs 0 S [.arr 1 a.length 0 a.length, .arr 2 b.length 0 b.length]).map mkAgg = _
      simp only [sealVs, e1, e2]
      rfl
    exact fin_seal (σ := []) (r' := .pv (.agg [.sl (boP G), .sl (boP C)])) glob0 rfl (key _ rfl rfl) (hP G C T.g T.c hs')
  | f + 1, G, C, zs, l + 1, hf, hs, hl, h0, T => by
    have hg : zs[l]? = some (zs[l]'(by omega)) := List.getElem?_eq_getElem _
    obtain ⟨p, hp⟩ : ∃ p, zs[l]? = some p := ⟨_, hg⟩
    rw [take_rev hp] at T hf hs
    rw [fuelS_cons] at hf hs
    obtain ⟨i1, i2⟩ := T.inG p rfl
    obtain ⟨j1, j2⟩ := T.inC p rfl
    have hll := fuelS_len (zs.take l).reverse
    rw [List.length_reverse, List.length_take] at hll
    have f1 := fuelB_one p
    have wl : IntKind.wrap .i64 (((l + 1 : Nat) : Int) - 1) = (l : Int) := by rw [wrap_i64 (by omega) (by omega)]; omega
    refine myers_mark.n8_in ?_
    rw [myers_mark.b9_eq]
    repeat ((with_reducible first | apply opt_in | apply wI | apply wT | apply wP | apply wS | apply wB); exact rfl)
    rw [condB_decide, if_pos (by omega)]
    repeat ((with_reducible first | apply opt_in | apply wI | apply wT | apply wP | apply wS | apply wB); exact rfl)
    rw [wl]
    refine opt_in (bx_idx (zs := zs) (fz := false) rfl rfl (Nat.lt_succ_self l)) ?_
    refine opt_in (bx_load (zs := zs) (fz := false) rfl rfl hp) ?_
    refine trim_spec L (a := p.a) (b := p.b) (x := p.x) (y := p.y) (by omega) (by omega) fun a' b' i tr => ?_
    obtain ⟨t1, t2, t3, t4⟩ := tr
    have T' := T.trim (p' := ⟨a', b', p.x + i, p.y + i⟩) (i := i) t1 rfl rfl t2 t3
    repeat ((with_reducible first | apply opt_in | apply wI | apply wT | apply wP | apply wS | apply wB); exact rfl)
    rw [wl]
    refine opt_in (bx_cut (zs := zs) (fz := false) rfl rfl (Nat.le_succ l)) ?_
    have h23 : ∀ q, (q = true ↔ (a' = [] ∨ b' = [])) → myers_mark.n23 (myers_mark.X w0 0) w0 0 (fun r _ => P r) (mkS5 a b G C zs ⟨a', b', p.x + i, p.y + i⟩) (.ptr 0 0) (.ptr 3 0) (.arr 4 zs.length 0 l) (.ptr 5 0) q := by
      intro q hq
      refine myers_mark.n23_in ?_
      rw [myers_mark.b23_eq]
      refine condB_split (fun g => ?_) (fun g => ?_)
      · repeat ((with_reducible first | apply opt_in | apply wI | apply wT | apply wP | apply wS | apply wB); exact rfl)
        rw [List.length_map]
        refine gone_loop (p := ⟨a', b', p.x + i, p.y + i⟩) (G0 := G) ha hb (by simp only; omega) (by simp only; omega) T.g T.c ?_ a'.length 0 (by simp)
        refine mark_loop L ha hb hP f _ _ zs l (by omega) (by omega) (by omega) h0 ?_
        exact T'.mark (hq.1 g)
      · have hne : ¬ (a' = [] ∨ b' = []) := fun h => by rw [hq.2 h] at g; cases g
        have two : 2 ≤ cntL a' b' := by
          rcases t4 with h | h | h
          · exact absurd (.inl h) hne
          · exact absurd (.inr h) hne
          · exact h
        refine mark60 L (p := ⟨a', b', p.x + i, p.y + i⟩) (by simp only; omega) (by simp only; omega) (by simp only; omega) (by simp only; omega) (by omega) h0 (by omega) two fun s t x y so => ?_
        have T2 := T'.split so.sx so.ty so.xa so.yb so.sum
        have er : ((zs.take l ++ [(⟨a'.take s, b'.take t, p.x + i, p.y + i⟩ : Bx), ⟨a'.drop x, b'.drop y, p.x + i + x, p.y + i + y⟩]).take (l + 2)).reverse = ⟨a'.drop x, b'.drop y, p.x + i + x, p.y + i + y⟩ :: ⟨a'.take s, b'.take t, p.x + i, p.y + i⟩ :: (zs.take l).reverse := by
          rw [List.take_of_length_le (by rw [List.length_append, List.length_take]; simp only [List.length_cons, List.length_nil]; omega)]
          simp
        have c1 := cnt_len _ _ so.one
        have c2 := cnt_len _ _ so.two
        have sx := so.sx
        have ty := so.ty
        have xa := so.xa
        have yb := so.yb
        have hfs := fuelB_split (p := ⟨a', b', p.x + i, p.y + i⟩) (q := ⟨a'.drop x, b'.drop y, p.x + i + x, p.y + i + y⟩) (r := ⟨a'.take s, b'.take t, p.x + i, p.y + i⟩) c2 c1 (by simp only [List.length_drop, List.length_take]; omega)
        have hft := fuelB_le (p := p) (p' := ⟨a', b', p.x + i, p.y + i⟩) (by simp only; omega)
        refine mark_loop L ha hb hP f G C _ (l + 2) ?_ ?_ (by rw [List.length_append, List.length_take]; simp only [List.length_cons, List.length_nil]; omega) (by rw [List.length_append]; simp) ?_
        · rw [er, fuelS_cons, fuelS_cons]; omega
        · rw [er, fuelS_cons, fuelS_cons]; omega
        · rw [er]; exact T2
    repeat ((with_reducible first | apply opt_in | apply wI | apply wT | apply wP | apply wS | apply wB); exact rfl)
    rw [List.length_map, condB_ibeq]
    refine ite_split (fun g => ?_) (fun g => ?_)
    · have : a' = [] := List.length_eq_zero_iff.1 (by omega)
      exact h23 true ⟨fun _ => .inl this, fun _ => rfl⟩
    · repeat ((with_reducible first | apply opt_in | apply wI | apply wT | apply wP | apply wS | apply wB); exact rfl)
      rw [List.length_map]
      refine h23 _ ⟨fun e => .inr (List.length_eq_zero_iff.1 (by have := eq_of_beq e; omega)), fun e => ?_⟩
      rcases e with e | e
      · exact absurd (by rw [e]; rfl) g
      · rw [e]; rfl
end
end Go.Sv
