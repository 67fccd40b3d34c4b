/- Tables: the numbers of both sides. The program's table. The program's table, its rows. The program's table, whole. The document's table. The document's table, whole. The law StatTables, over stores. The law StatTables: its bounds, from the bulk of what is read. -/
import Derived.Test.YthkedonibhajbaaDoorStM
import Derived.Test.YthkedonibhajbaaDoorSvBk
import Derived.Test.YthkedonibhajbaaDoorStL
import Derived.Test.YthkedonibhajbaaDoorStH
import Derived.Test.YthkedonibhajbaaDoorStE
import Derived.Test.YthkedonibhajbaaDoorStA
import Derived.Test.YthkedonibhajbaaDoorSvZ
import Derived.Test.YthkedonibhajbaaDoorRows
set_option linter.unusedVariables false
set_option linter.unusedSimpArgs false
set_option maxRecDepth 100000
namespace Go.Sv
section
open Go Go.RowKit Go.Proofs
def rep (c : UInt8) (n : Int) : List UInt8 := List.replicate n.toNat c
theorem repeat_rep {c : UInt8} : ∀ n : Nat, Lib.repeatL [c] n = List.replicate n c
  | 0 => rfl
  | n + 1 => by rw [Lib.repeatL, repeat_rep n, List.replicate_succ]; rfl
def headF (names digits : Int) (c : Cnt) : List UInt8 := (((([32] ++ quoteF c.nm) ++ rep 32 (names - (quoteF c.nm).length)) ++ [32, 124, 32]) ++ rep 32 (digits - (Lib.itoa (c.a + c.d)).length)) ++ Lib.itoa (c.a + c.d)
def barF (bar most : Int) (c : Cnt) : List UInt8 := if (refB c.a c.d bar most).1 + (refB c.a c.d bar most).2 > 0 then ([32] ++ rep 43 (refB c.a c.d bar most).1) ++ rep 45 (refB c.a c.d bar most).2 else []
def rowF (names digits bar most : Int) (c : Cnt) : List UInt8 := (headF names digits c ++ barF bar most c) ++ [10]
def namesF : List Cnt → Int → Int
  | [], n => n
  | c :: r, n => namesF r (if ((quoteF c.nm).length : Int) > n then (quoteF c.nm).length else n)
def mostF : List Cnt → Int → Int
  | [], n => n
  | c :: r, n => mostF r (if c.a + c.d > n then c.a + c.d else n)
/-- A count that may be, of a name that isn't too long. -/
def fineC (c : Cnt) : Prop := 0 ≤ c.a ∧ c.a ≤ 2147483647 ∧ 0 ≤ c.d ∧ c.d ≤ 2147483647 ∧ c.nm.length ≤ 1048576
theorem q_len {c : Cnt} (h : fineC c) : (quoteF c.nm).length ≤ 4194306 := by
  have := quoteF_len c.nm
  have := h.2.2.2.2
  omega
theorem n_len {c : Cnt} (h : fineC c) : (Lib.itoa (c.a + c.d)).length ≤ 21 := Lib.itoa_length_le _ (by have := h.1; have := h.2.2.1; omega) (by have := h.2.1; have := h.2.2.2.1; omega)
theorem rep_len {c : UInt8} {n : Int} : (rep c n).length = n.toNat := List.length_replicate
theorem refB_facts {a d w m : Int} (hw : 0 ≤ w) : 0 ≤ (refB a d w m).1 ∧ 0 ≤ (refB a d w m).2 ∧ (refB a d w m).1 + (refB a d w m).2 ≤ w := by
  cases h : okB a d w m with
  | true => obtain ⟨-, h1, h2, h3, -, -⟩ := bar_shows h; exact ⟨h1, h2, h3⟩
  | false => rw [refB_bad h]; exact ⟨Int.le_refl _, Int.le_refl _, hw⟩
theorem head_len {names digits : Int} {c : Cnt} (h : fineC c) (hn : names ≤ 4194306) (hd : digits ≤ 21) : (headF names digits c).length ≤ 8388700 := by
  have h1 := q_len h
  have h2 := n_len h
  unfold headF
  simp only [List.length_append, rep_len, List.length_cons, List.length_nil]
  omega
theorem bar_len {bar most : Int} {c : Cnt} (hb : 0 ≤ bar) (hb2 : bar ≤ 1020) : (barF bar most c).length ≤ 1021 := by
  obtain ⟨h1, h2, h3⟩ := refB_facts (a := c.a) (d := c.d) (m := most) hb
  unfold barF
  split
  · simp only [List.length_append, rep_len, List.length_cons, List.length_nil]; omega
  · exact Nat.zero_le _
theorem row_len {names digits bar most : Int} {c : Cnt} (h : fineC c) (hn : names ≤ 4194306) (hd : digits ≤ 21) (hb : 0 ≤ bar) (hb2 : bar ≤ 1020) : (rowF names digits bar most c).length ≤ 8390000 := by
  have h1 := head_len h hn hd
  have h2 := bar_len (most := most) (c := c) hb hb2
  unfold rowF
  simp only [List.length_append, List.length_cons, List.length_nil]
  omega
theorem names_le : ∀ (l : List Cnt) (n : Int), (∀ c ∈ l, fineC c) → n ≤ 4194306 → 0 ≤ n → namesF l n ≤ 4194306 ∧ 0 ≤ namesF l n
  | [], n, _, h, h0 => ⟨h, h0⟩
  | c :: r, n, hf, h, h0 => by
    have := q_len (hf c (by simp))
    exact names_le r _ (fun c hc => hf c (List.mem_cons_of_mem _ hc)) (by split <;> omega) (by split <;> omega)
theorem most_le : ∀ (l : List Cnt) (n : Int), (∀ c ∈ l, fineC c) → n ≤ 4294967294 → 0 ≤ n → mostF l n ≤ 4294967294 ∧ 0 ≤ mostF l n
  | [], n, _, h, h0 => ⟨h, h0⟩
  | c :: r, n, hf, h, h0 => by
    obtain ⟨h1, h2, h3, h4, -⟩ := hf c (by simp)
    exact most_le r _ (fun c hc => hf c (List.mem_cons_of_mem _ hc)) (by split <;> omega) (by split <;> omega)
/-- Counts whose sums are answered may be. -/
theorem sumP_fine : ∀ (r : List Cnt) (a d : Int) (p : Int × Int), sumP r a d = some p → ∀ c ∈ r, 0 ≤ c.a ∧ c.a ≤ 2147483647 ∧ 0 ≤ c.d ∧ c.d ≤ 2147483647
  | [], _, _, _, _, c, hc => by simp at hc
  | b :: r, a, d, p, h, c, hc => by
    simp only [sumP] at h
    split at h
    · rename_i hb
      rcases List.mem_cons.1 hc with rfl | hc
      · have ⟨c1, c2⟩ := inN_iff.1 hb.1
        have ⟨c3, c4⟩ := inN_iff.1 hb.2
        exact ⟨c1, c2, c3, c4⟩
      · exact sumP_fine r _ _ p h c hc
    · cases h
end
section
open Go Go.RowKit Go.Proofs
theorem names_ge : ∀ (l : List Cnt) (n : Int), n ≤ namesF l n ∧ ∀ c ∈ l, ((quoteF c.nm).length : Int) ≤ namesF l n
  | [], n => ⟨Int.le_refl _, fun c h => by simp at h⟩
  | b :: r, n => by
    obtain ⟨h1, h2⟩ := names_ge r (if ((quoteF b.nm).length : Int) > n then (quoteF b.nm).length else n)
    refine ⟨?_, fun c hc => ?_⟩
    · show n ≤ namesF r _
      split at h1 <;> (try rename_i g) <;> simp only [g, if_true, if_false] <;> omega
    · rcases List.mem_cons.1 hc with rfl | hc
      · show _ ≤ namesF r _
        split at h1 <;> rename_i g <;> simp only [g, if_true, if_false] <;> omega
      · exact h2 c hc
theorem most_ge : ∀ (l : List Cnt) (n : Int), n ≤ mostF l n ∧ ∀ c ∈ l, c.a + c.d ≤ mostF l n
  | [], n => ⟨Int.le_refl _, fun c h => by simp at h⟩
  | b :: r, n => by
    obtain ⟨h1, h2⟩ := most_ge r (if b.a + b.d > n then b.a + b.d else n)
    refine ⟨?_, fun c hc => ?_⟩
    · show n ≤ mostF r _
      split at h1 <;> rename_i g <;> simp only [g, if_true, if_false] <;> omega
    · rcases List.mem_cons.1 hc with rfl | hc
      · show _ ≤ mostF r _
        split at h1 <;> rename_i g <;> simp only [g, if_true, if_false] <;> omega
      · exact h2 c hc
theorem nDigits_mono : ∀ (u v : Nat), u ≤ v → Lib.nDigits u ≤ Lib.nDigits v := by
  intro u
  induction u using Nat.strongRecOn with
  | ind u ih =>
    intro v h
    by_cases hu : u < 10
    · rw [Lib.nDigits_small hu]; exact Lib.nDigits_pos v
    · rw [Lib.nDigits_big hu, Lib.nDigits_big (u := v) (by omega)]
      have := ih (u / 10) (by omega) (v / 10) (by omega)
      omega
theorem itoa_mono {x y : Int} (h0 : 0 ≤ x) (h : x ≤ y) : (Lib.itoa x).length ≤ (Lib.itoa y).length := by
  rw [itoa_dec h0, itoa_dec (by omega), Lib.decDigits_length, Lib.decDigits_length]
  exact nDigits_mono _ _ (by omega)
section
variable {w0 : Base} {σ : Store} {R : AV → Store → Prop}
theorem rep_spec {c : UInt8} {n : Int} (h0 : 0 ≤ n) (h1 : n ≤ 140737488355328) (hR : R (.pv (.str (rep c n))) σ) : SCalls (cx w0) strings_Repeat.id [.pv (.str [c]), .pv (.int .i64 n)] σ R := by
  refine Repeat_spec h0 (by omega) (by simp only [List.length_cons, List.length_nil]; omega) ?_
  rw [repeat_rep]; exact hR
theorem tab_loop1 (L : Laid w0.w) (l : List Cnt) (hx : l.length ≤ 65536) (width : Int) (last : List UInt8) : ∀ (r : List Cnt) (k : Nat) (names most : Int), (l.map cntP).drop k = r.map cntP → (∀ c ∈ r, fineC c) →
    stat_Table.n41 (stat_Table.X w0 0) w0 0 R [] (cntsA l) width last (namesF r names) (mostF r most) → stat_Table.n26 (stat_Table.X w0 0) w0 0 R [] (cntsA l) width last names most (cntsA l) ((l.map cntP).length) k
  | [], k, names, most, h, hf, hK => by
    have hk := drop_end h
    refine stat_Table.n26_in ?_
    rw [stat_Table.b27_eq, condB_decide, if_neg (by omega)]
    exact hK
  | c :: r, k, names, most, h, hf, hK => by
    obtain ⟨h1, h2, hk⟩ := drop_facts h
    obtain ⟨f1, f2, f3, f4, f5⟩ := hf c (by simp)
    have hl : (l.map cntP).length = l.length := List.length_map _
    refine stat_Table.n26_in ?_
    rw [stat_Table.b27_eq, condB_decide, if_pos (by omega)]
    refine opt_in (idx_ro tab48 h1 rfl) ?_
    repeat (first | ((with_reducible show opt _ _); refine opt_in rfl ?_) | ((with_reducible show isI _ _ _); refine isI_in ?_) | ((with_reducible show isTup _ _); refine isTup_in ?_))
    refine isS_in (Quote_spec L (by omega) (isS_in ?_))
    repeat (first | ((with_reducible show opt _ _); refine opt_in rfl ?_) | ((with_reducible show isI _ _ _); refine isI_in ?_) | ((with_reducible show isTup _ _); refine isTup_in ?_))
    rw [wrap_next hk (by omega), wrap_i64 (n := c.a + c.d) (by omega) (by omega)]
    refine stat_Table.n26_weak (EWeak.drop (τ := []) glob0 (Nat.zero_le _) rfl rfl) ?_
    exact tab_loop1 L l hx width last r (k + 1) _ _ h2 (fun c hc => hf c (List.mem_cons_of_mem _ hc)) hK
end
end
section
open Go Go.RowKit Go.Proofs
section
variable {w0 : Base} {σ : Store} {R : AV → Store → Prop}
theorem tab_loop2 (L : Laid w0.w) (l : List Cnt) (hx : l.length ≤ 65536) {names digits bar most : Int} (last : List UInt8) (hlast : last.length ≤ 2000) (hn : names ≤ 4194306) (hd : digits ≤ 21) (hb : 0 ≤ bar) (hb2 : bar ≤ 1020) : ∀ (r : List Cnt) (k : Nat) (acc : List UInt8), (l.map cntP).drop k = r.map cntP → (∀ c ∈ r, fineC c ∧ ((quoteF c.nm).length : Int) ≤ names ∧ ((Lib.itoa (c.a + c.d)).length : Int) ≤ digits) → acc.length + r.length * 8390000 ≤ 1099511627776 →
    stat_Table.n51 (stat_Table.X w0 0) w0 0 (fun r' _ => r' = .tup [.pv (.str ((acc ++ r.flatMap (rowF names digits bar most)) ++ last)), .pv (.raw .nilIface)]) [.bld tB 5 acc] bar last names most digits (.ptr 0 0) (cntsA l) ((l.map cntP).length) k
  | [], k, acc, h, hf, ha => by
    have hk := drop_end h
    simp only [List.length_nil, Nat.zero_mul, Nat.add_zero] at ha
    refine stat_Table.n51_in ?_
    rw [stat_Table.b52_eq, condB_decide, if_neg (by omega)]
    refine stat_Table.n76_in ?_
    rw [stat_Table.b76_eq]
    refine String_spec rfl (isS_in ⟨by omega, fin_keep (Nat.zero_le _) ?_⟩)
    simp
  | c :: r, k, acc, h, hf, ha => by
    obtain ⟨h1, h2, hk⟩ := drop_facts h
    obtain ⟨hc, q1, q2⟩ := hf c (by simp)
    have hlen := head_len hc hn hd
    have hrow := row_len (most := most) hc hn hd hb hb2
    have hbar := bar_len (most := most) (c := c) hb hb2
    have ql := q_len hc
    have nl := n_len hc
    obtain ⟨f1, f2, f3, f4, f5⟩ := hc
    obtain ⟨b1, b2, b3⟩ := refB_facts (a := c.a) (d := c.d) (m := most) hb
    have hl : (l.map cntP).length = l.length := List.length_map _
    simp only [List.length_cons] at ha
    have last' : ∀ s Z, s = acc ++ (headF names digits c ++ barF bar most c) → stat_Table.n74 (stat_Table.X w0 0) w0 0 (fun r' _ => r' = .tup [.pv (.str ((acc ++ (c :: r).flatMap (rowF names digits bar most)) ++ last)), .pv (.raw .nilIface)]) ([.bld tB 5 s] ++ Z) bar last names most digits (.ptr 0 0) (cntsA l) ((l.map cntP).length) k := by
      rintro s Z rfl
      refine stat_Table.n74_in ?_
      rw [stat_Table.b74_eq]
      refine WriteByte_spec (c := 10) rfl (by simp only [List.length_append]; omega) ?_
      rw [wrap_next hk (by omega)]
      have eS : (acc ++ (headF names digits c ++ barF bar most c)) ++ [10] = acc ++ rowF names digits bar most c := by unfold rowF; simp only [List.append_assoc]
      show stat_Table.n51 (stat_Table.X w0 0) w0 0 _ ([SObj.bld tB 5 ((acc ++ (headF names digits c ++ barF bar most c)) ++ [10])] ++ Z) _ _ _ _ _ _ _ _ _
      rw [eS]
      refine stat_Table.n51_weak (EWeak.drop (τ := [.bld tB 5 (acc ++ rowF names digits bar most c)]) (L := Z) glob0 (Nat.zero_le _) rfl rfl) ?_
      have := tab_loop2 L l hx (names := names) (digits := digits) (bar := bar) (most := most) last hlast hn hd hb hb2 r (k + 1) (acc ++ rowF names digits bar most c) h2 (fun c hc => hf c (List.mem_cons_of_mem _ hc)) (by simp only [List.length_append]; omega)
      simpa [List.flatMap_cons, List.append_assoc] using this
    have rl : ∀ (x : UInt8) (n : Int), (rep x n).length = n.toNat := fun _ _ => rep_len
    refine stat_Table.n51_in ?_
    rw [stat_Table.b52_eq, condB_decide, if_pos (by omega)]
    refine opt_in (idx_ro tab48 h1 rfl) ?_
    repeat (first | ((with_reducible show opt _ _); refine opt_in rfl ?_) | ((with_reducible show isI _ _ _); refine isI_in ?_) | ((with_reducible show isTup _ _); refine isTup_in ?_))
    refine isS_in ?_
    repeat (first | ((with_reducible show opt _ _); refine opt_in rfl ?_) | ((with_reducible show isI _ _ _); refine isI_in ?_) | ((with_reducible show isTup _ _); refine isTup_in ?_))
    refine Quote_spec L (by omega) (isS_in ⟨opt_in rfl rfl, opt_in rfl rfl, ?_⟩)
    rw [wrap_i64 (n := c.a + c.d) (by omega) (by omega)]
    refine Itoa_spec L (by omega) (by omega) (isS_in ⟨by simp only [List.length_cons, List.length_nil]; omega, ?_⟩)
    rw [wrap_i64 (n := names - _) (by omega) (by omega), wrap_i64 (n := digits - _) (by omega) (by omega)]
    refine rep_spec (by omega) (by omega) (isS_in ⟨?_, ?_, rep_spec (by omega) (by omega) (isS_in ⟨?_, ?_, ?_⟩)⟩)
    · simp only [List.length_append, List.length_cons, List.length_nil, rl]; omega
    · simp only [List.length_append, List.length_cons, List.length_nil, rl]; omega
    · simp only [List.length_append, List.length_cons, List.length_nil, rl]; omega
    · simp only [List.length_append, List.length_cons, List.length_nil, rl]; omega
    refine WriteString_spec (t := headF names digits c) rfl (by omega) ?_
    repeat (first | ((with_reducible show opt _ _); refine opt_in rfl ?_) | ((with_reducible show isI _ _ _); refine isI_in ?_) | ((with_reducible show isTup _ _); refine isTup_in ?_))
    refine progBar_spec L ?_
    rw [pro_ref]
    repeat (first | ((with_reducible show opt _ _); refine opt_in rfl ?_) | ((with_reducible show isI _ _ _); refine isI_in ?_) | ((with_reducible show isTup _ _); refine isTup_in ?_))
    rw [wrap_i64 (n := (refB c.a c.d bar most).1 + (refB c.a c.d bar most).2) (by omega) (by omega), condB_decide]
    refine ite_split (fun g => ?_) (fun g => last' _ [_] ?_)
    · have e : barF bar most c = ([32] ++ rep 43 (refB c.a c.d bar most).1) ++ rep 45 (refB c.a c.d bar most).2 := if_pos g
      refine rep_spec b1 (by omega) (isS_in ⟨?_, rep_spec b2 (by omega) (isS_in ⟨?_, ?_⟩)⟩)
      · simp only [List.length_append, List.length_cons, List.length_nil, rl]; omega
      · simp only [List.length_append, List.length_cons, List.length_nil, rl]; omega
      refine WriteString_spec (t := ([32] ++ rep 43 (refB c.a c.d bar most).1) ++ rep 45 (refB c.a c.d bar most).2) rfl (by rw [← e, List.length_append]; omega) ?_
      refine last' _ [_] ?_
      rw [e, List.append_assoc]
    · have e : barF bar most c = [] := if_neg g
      rw [e, List.append_nil]
end
end
section
open Go Go.RowKit Go.Proofs
def barW (width names digits : Int) : Int := if (10 : Int) > width - names - digits - 5 then 10 else width - names - digits - 5
def tabT (l : List Cnt) (width : Int) : List UInt8 := l.flatMap (rowF (namesF l 0) (Lib.itoa (mostF l 0)).length (barW width (namesF l 0) (Lib.itoa (mostF l 0)).length) (mostF l 0))
def tabV (l : List Cnt) (width : Int) : Option (List UInt8) := match sumsR l with
  | none => none
  | some (a, d) => if width < 0 ∨ width > 1020 then none else some (tabT l width ++ totF l.length a d)
def tabP (l : List Cnt) (width : Int) : AV := match tabV l width with
  | some s => .tup [.pv (.str s), .pv (.raw .nilIface)]
  | none => .tup [.pv (.str []), .pv (.iface 59 (.int .i64 1))]
def tabR (l : List Cnt) (width : Int) : AV := match tabV l width with
  | some s => .tup [.pv (.str s), .pv (.int .i64 0)]
  | none => .tup [.pv (.str []), .pv (.int .i64 1)]
theorem totF_len {n a d : Int} (h0 : 0 ≤ n) (h1 : n ≤ 65536) (h2 : a ≤ 2147483647) (h3 : d ≤ 2147483647) : (totF n a d).length ≤ 2000 := by
  have k0 := someF_len (n := n) (t := [102, 105, 108, 101]) (b := [32, 99, 104, 97, 110, 103, 101, 100]) h0 (by omega) (by decide) (by decide)
  have k1 := partF_len (s := [32] ++ someF n [102, 105, 108, 101] [32, 99, 104, 97, 110, 103, 101, 100]) (n := a) (t := [105, 110, 115, 101, 114, 116, 105, 111, 110]) (b := [40, 43, 41]) (by omega) (by decide) (by decide)
  have k2 := partF_len (s := partF ([32] ++ someF n [102, 105, 108, 101] [32, 99, 104, 97, 110, 103, 101, 100]) a [105, 110, 115, 101, 114, 116, 105, 111, 110] [40, 43, 41]) (n := d) (t := [100, 101, 108, 101, 116, 105, 111, 110]) (b := [40, 45, 41]) (by omega) (by decide) (by decide)
  unfold totF
  simp only [List.length_append, List.length_cons, List.length_nil] at *
  omega
section
variable {w0 : Base} {σ : Store} {R : AV → Store → Prop}
theorem Table_spec (L : Laid w0.w) {l : List Cnt} {width : Int} (hn : ∀ c ∈ l, c.nm.length ≤ 1048576) (hR : R (tabP l width) σ) : SCalls (cx w0) stat_Table.id [cntsA l, .pv (.int .i64 width)] σ R := by
  refine SCalls.alone L rfl (fun w1 L1 => ?_) (by unfold tabP; split <;> rfl) hR
  clear hR
  refine stat_Table.calls ?_
  rw [stat_Table.b0_eq]
  refine Total_spec L1 ?_
  unfold totP tabP tabV
  rcases sums_same l with ⟨⟨a, d⟩, h1, h2, q1, q2, q3, q4, hl⟩ | ⟨h1, h2⟩
  · simp only at q1 q2 q3 q4
    rw [h1]
    have hf : ∀ c ∈ l, fineC c := fun c hc => by
      unfold sumsP at h2
      rw [if_neg (by omega)] at h2
      have := sumP_fine l 0 0 _ h2 c hc
      exact ⟨this.1, this.2.1, this.2.2.1, this.2.2.2, hn c hc⟩
    obtain ⟨n1, n2⟩ := names_le l 0 hf (by omega) (by omega)
    obtain ⟨m1, m2⟩ := most_le l 0 hf (by omega) (by omega)
    have dl := Lib.itoa_length_le (mostF l 0) (by omega) (by omega)
    repeat (first | ((with_reducible show opt _ _); refine opt_in rfl ?_) | ((with_reducible show isI _ _ _); refine isI_in ?_) | ((with_reducible show isTup _ _); refine isTup_in ?_))
    refine isS_in ?_
    repeat (first | ((with_reducible show opt _ _); refine opt_in rfl ?_) | ((with_reducible show isI _ _ _); refine isI_in ?_) | ((with_reducible show isTup _ _); refine isTup_in ?_))
    rw [neq_raw]
    refine opt_in rfl (opt_in (v := true) rfl (isB_in ?_))
    refine condB_split (fun h => absurd h (by decide)) (fun _ => ?_)
    have N : ∀ t, t = decide (width < 0 ∨ width > 1020) → stat_Table.n15 (stat_Table.X w1 0) w1 0 (fun r' _ => r' = match (if width < 0 ∨ width > 1020 then none else some (tabT l width ++ totF l.length a d) : Option (List UInt8)) with
        | some s => .tup [.pv (.str s), .pv (.raw .nilIface)]
        | none => .tup [.pv (.str []), .pv (.iface 59 (.int .i64 1))]) [] (cntsA l) width (totF l.length a d) t := by
      rintro t rfl
      refine stat_Table.n15_in ?_
      rw [stat_Table.b15_eq, condB_decide]
      refine ite_split (fun g => ?_) (fun g => ?_)
      · rw [if_pos g]
        repeat (first | ((with_reducible show opt _ _); refine opt_in rfl ?_) | ((with_reducible show isI _ _ _); refine isI_in ?_) | ((with_reducible show isTup _ _); refine isTup_in ?_))
        exact fin_keep (Nat.zero_le _) rfl
      · rw [if_neg g]
        repeat (first | ((with_reducible show opt _ _); refine opt_in rfl ?_) | ((with_reducible show isI _ _ _); refine isI_in ?_) | ((with_reducible show isTup _ _); refine isTup_in ?_))
        refine tab_loop1 L1 l hl width (totF l.length a d) l 0 0 0 rfl hf ?_
        refine stat_Table.n41_in ?_
        rw [stat_Table.b41_eq]
        refine Itoa_spec L1 (by omega) (by omega) (isS_in ?_)
        repeat (first | ((with_reducible show opt _ _); refine opt_in rfl ?_) | ((with_reducible show isI _ _ _); refine isI_in ?_) | ((with_reducible show isTup _ _); refine isTup_in ?_))
        rw [wrap_i64 (n := width - namesF l 0) (by omega) (by omega), wrap_i64 (n := width - namesF l 0 - _) (by omega) (by omega), wrap_i64 (n := width - namesF l 0 - _ - 5) (by omega) (by omega)]
        have hb : 0 ≤ barW width (namesF l 0) (Lib.itoa (mostF l 0)).length ∧ barW width (namesF l 0) (Lib.itoa (mostF l 0)).length ≤ 1020 := by unfold barW; split <;> omega
        have := tab_loop2 L1 l hl (names := namesF l 0) (digits := (Lib.itoa (mostF l 0)).length) (bar := barW width (namesF l 0) (Lib.itoa (mostF l 0)).length) (most := mostF l 0) (totF l.length a d) (totF_len (by omega) (by omega) q2 q4) n1 (by omega) hb.1 hb.2 l 0 [] rfl (fun c hc => ⟨hf c hc, (names_ge l 0).2 c hc, by have := itoa_mono (x := c.a + c.d) (by have := hf c hc; unfold fineC at this; omega) ((most_ge l 0).2 c hc); omega⟩) (by simp only [List.length_nil]; omega)
        exact this
    rw [condB_decide]
    refine ite_split (fun g => N _ ?_) (fun g => N _ ?_)
    · exact (decide_eq_true (.inl g)).symm
    · rw [decide_eq_decide]; omega
  · rw [h1]
    repeat (first | ((with_reducible show opt _ _); refine opt_in rfl ?_) | ((with_reducible show isI _ _ _); refine isI_in ?_) | ((with_reducible show isTup _ _); refine isTup_in ?_))
    refine isS_in ?_
    repeat (first | ((with_reducible show opt _ _); refine opt_in rfl ?_) | ((with_reducible show isI _ _ _); refine isI_in ?_) | ((with_reducible show isTup _ _); refine isTup_in ?_))
    rw [neq_raw]
    refine opt_in rfl (opt_in (v := false) rfl (isB_in ?_))
    refine condB_split (fun _ => ?_) (fun h => absurd h (by decide))
    exact fin_keep (Nat.zero_le _) rfl
end
end
section
open Go Go.RowKit Go.Proofs
section
variable {w0 : Base} {σ : Store} {R : AV → Store → Prop}
theorem rtab_loop1 (L : Laid w0.w) (l : List Cnt) (hx : l.length ≤ 65536) (width : Int) (total : List UInt8) : ∀ (r : List Cnt) (k : Nat) (names most : Int), (l.map cntP).drop k = r.map cntP → (∀ c ∈ r, fineC c) →
    selvageref16_Table.n31 (selvageref16_Table.X w0 0) w0 0 R [] (cntsA l) width total (namesF r names) (mostF r most) → selvageref16_Table.n18 (selvageref16_Table.X w0 0) w0 0 R [] (cntsA l) width total names most k
  | [], k, names, most, h, hf, hK => by
    have hk := drop_end h
    refine selvageref16_Table.n18_in ?_
    rw [selvageref16_Table.b19_eq]
    repeat (first | ((with_reducible show opt _ _); refine opt_in rfl ?_) | ((with_reducible show isI _ _ _); refine isI_in ?_) | ((with_reducible show isTup _ _); refine isTup_in ?_))
    rw [condB_decide, if_neg (by omega)]
    exact hK
  | c :: r, k, names, most, h, hf, hK => by
    obtain ⟨h1, h2, hk⟩ := drop_facts h
    obtain ⟨f1, f2, f3, f4, f5⟩ := hf c (by simp)
    have hl : (l.map cntP).length = l.length := List.length_map _
    have idx : aIndexAddr [] tabS ti28.td (cntsA l) (k : Int) = some (.ro (cntP c) 0) := idx_ro tab47 h1 rfl
    refine selvageref16_Table.n18_in ?_
    rw [selvageref16_Table.b19_eq]
    repeat (first | ((with_reducible show opt _ _); refine opt_in rfl ?_) | ((with_reducible show isI _ _ _); refine isI_in ?_) | ((with_reducible show isTup _ _); refine isTup_in ?_))
    rw [condB_decide, if_pos (by omega)]
    refine opt_in idx ?_
    repeat (first | ((with_reducible show opt _ _); refine opt_in rfl ?_) | ((with_reducible show isI _ _ _); refine isI_in ?_) | ((with_reducible show isTup _ _); refine isTup_in ?_))
    refine isS_in (rQuote_spec L (by omega) (isS_in ?_))
    refine opt_in idx ?_
    repeat (first | ((with_reducible show opt _ _); refine opt_in rfl ?_) | ((with_reducible show isI _ _ _); refine isI_in ?_) | ((with_reducible show isTup _ _); refine isTup_in ?_))
    refine opt_in idx ?_
    repeat (first | ((with_reducible show opt _ _); refine opt_in rfl ?_) | ((with_reducible show isI _ _ _); refine isI_in ?_) | ((with_reducible show isTup _ _); refine isTup_in ?_))
    rw [wrap_next hk (by omega), wrap_i64 (n := c.a + c.d) (by omega) (by omega)]
    exact rtab_loop1 L l hx width total r (k + 1) _ _ h2 (fun c hc => hf c (List.mem_cons_of_mem _ hc)) hK
theorem rtab_loop2 (L : Laid w0.w) (l : List Cnt) (hx : l.length ≤ 65536) {names digits bar most : Int} (last : List UInt8) (hlast : last.length ≤ 2000) (hn : names ≤ 4194306) (hd : digits ≤ 21) (hb : 0 ≤ bar) (hb2 : bar ≤ 1020) : ∀ (r : List Cnt) (k : Nat) (acc : List UInt8), (l.map cntP).drop k = r.map cntP → (∀ c ∈ r, fineC c ∧ ((quoteF c.nm).length : Int) ≤ names ∧ ((Lib.itoa (c.a + c.d)).length : Int) ≤ digits) → acc.length + r.length * 8390000 ≤ 1099511627776 →
    selvageref16_Table.n41 (selvageref16_Table.X w0 0) w0 0 (fun r' _ => r' = .tup [.pv (.str ((acc ++ r.flatMap (rowF names digits bar most)) ++ last)), .pv (.int .i64 0)]) (bS acc).1 (cntsA l) last names most digits bar (bS acc).2 k
  | [], k, acc, h, hf, ha => by
    have hk := drop_end h
    simp only [List.length_nil, Nat.zero_mul, Nat.add_zero] at ha
    refine selvageref16_Table.n41_in ?_
    rw [selvageref16_Table.b42_eq]
    repeat (first | ((with_reducible show opt _ _); refine opt_in rfl ?_) | ((with_reducible show isI _ _ _); refine isI_in ?_) | ((with_reducible show isTup _ _); refine isTup_in ?_))
    rw [condB_decide, if_neg (by omega)]
    refine selvageref16_Table.n66_in ?_
    rw [selvageref16_Table.b66_eq]
    refine opt2_in bS_conv (isS_in ⟨by omega, fin_keep (Nat.zero_le _) ?_⟩)
    simp
  | c :: r, k, acc, h, hf, ha => by
    obtain ⟨h1, h2, hk⟩ := drop_facts h
    obtain ⟨hc, q1, q2⟩ := hf c (by simp)
    have hlen := head_len hc hn hd
    have hrow := row_len (most := most) hc hn hd hb hb2
    have hbar := bar_len (most := most) (c := c) hb hb2
    have ql := q_len hc
    have nl := n_len hc
    obtain ⟨f1, f2, f3, f4, f5⟩ := hc
    obtain ⟨b1, b2, b3⟩ := refB_facts (a := c.a) (d := c.d) (m := most) hb
    have hl : (l.map cntP).length = l.length := List.length_map _
    simp only [List.length_cons] at ha
    have idx : ∀ σ, aIndexAddr σ tabS ti28.td (cntsA l) (k : Int) = some (.ro (cntP c) 0) := fun σ => idx_ro tab47 h1 rfl
    have last' : ∀ s, s = acc ++ (headF names digits c ++ barF bar most c) → selvageref16_Table.n64 (selvageref16_Table.X w0 0) w0 0 (fun r' _ => r' = .tup [.pv (.str ((acc ++ (c :: r).flatMap (rowF names digits bar most)) ++ last)), .pv (.int .i64 0)]) (bS s).1 (cntsA l) last names most digits bar (bS s).2 k := by
      rintro s rfl
      refine selvageref16_Table.n64_in ?_
      rw [selvageref16_Table.b64_eq]
      refine opt2_in rfl ?_
      refine opt2_in (bS_append (t := [10]) rfl (by simp only [List.length_append, List.length_cons, List.length_nil]; omega)) ?_
      rw [wrap_next hk (by omega)]
      have eS : (acc ++ (headF names digits c ++ barF bar most c)) ++ [10] = acc ++ rowF names digits bar most c := by unfold rowF; simp only [List.append_assoc]
      rw [eS]
      have := rtab_loop2 L l hx (names := names) (digits := digits) (bar := bar) (most := most) last hlast hn hd hb hb2 r (k + 1) (acc ++ rowF names digits bar most c) h2 (fun c hc => hf c (List.mem_cons_of_mem _ hc)) (by simp only [List.length_append]; omega)
      simpa [List.flatMap_cons, List.append_assoc] using this
    have rl : ∀ (x : UInt8) (n : Int), (rep x n).length = n.toNat := fun _ _ => rep_len
    refine selvageref16_Table.n41_in ?_
    rw [selvageref16_Table.b42_eq]
    repeat (first | ((with_reducible show opt _ _); refine opt_in rfl ?_) | ((with_reducible show isI _ _ _); refine isI_in ?_) | ((with_reducible show isTup _ _); refine isTup_in ?_))
    rw [condB_decide, if_pos (by omega)]
    refine opt_in (idx _) ?_
    repeat (first | ((with_reducible show opt _ _); refine opt_in rfl ?_) | ((with_reducible show isI _ _ _); refine isI_in ?_) | ((with_reducible show isTup _ _); refine isTup_in ?_))
    refine isS_in (rQuote_spec L (by omega) (isS_in ?_))
    refine opt_in (idx _) ?_
    repeat (first | ((with_reducible show opt _ _); refine opt_in rfl ?_) | ((with_reducible show isI _ _ _); refine isI_in ?_) | ((with_reducible show isTup _ _); refine isTup_in ?_))
    refine opt_in (idx _) ?_
    repeat (first | ((with_reducible show opt _ _); refine opt_in rfl ?_) | ((with_reducible show isI _ _ _); refine isI_in ?_) | ((with_reducible show isTup _ _); refine isTup_in ?_))
    rw [wrap_i64 (n := c.a + c.d) (by omega) (by omega)]
    refine Digits_spec (by omega) (by omega) (isS_in ⟨by simp only [List.length_cons, List.length_nil]; omega, ?_⟩)
    rw [wrap_i64 (n := names - _) (by omega) (by omega), wrap_i64 (n := digits - _) (by omega) (by omega)]
    refine times_spec (c := 32) L (by omega) (isS_in ⟨?_, ?_, times_spec (c := 32) L (by omega) (isS_in ⟨?_, ?_, ?_⟩)⟩)
    · simp only [List.length_append, List.length_cons, List.length_nil, List.length_replicate]; omega
    · simp only [List.length_append, List.length_cons, List.length_nil, List.length_replicate]; omega
    · simp only [List.length_append, List.length_cons, List.length_nil, List.length_replicate]; omega
    · simp only [List.length_append, List.length_cons, List.length_nil, List.length_replicate]; omega
    refine opt2_in (bS_append (t := headF names digits c) rfl (by omega)) ?_
    refine opt_in (idx _) ?_
    repeat (first | ((with_reducible show opt _ _); refine opt_in rfl ?_) | ((with_reducible show isI _ _ _); refine isI_in ?_) | ((with_reducible show isTup _ _); refine isTup_in ?_))
    refine opt_in (idx _) ?_
    repeat (first | ((with_reducible show opt _ _); refine opt_in rfl ?_) | ((with_reducible show isI _ _ _); refine isI_in ?_) | ((with_reducible show isTup _ _); refine isTup_in ?_))
    refine refBar_spec ?_
    repeat (first | ((with_reducible show opt _ _); refine opt_in rfl ?_) | ((with_reducible show isI _ _ _); refine isI_in ?_) | ((with_reducible show isTup _ _); refine isTup_in ?_))
    rw [wrap_i64 (n := (refB c.a c.d bar most).1 + (refB c.a c.d bar most).2) (by omega) (by omega), condB_decide]
    refine ite_split (fun g => ?_) (fun g => last' _ ?_)
    · have e : barF bar most c = ([32] ++ rep 43 (refB c.a c.d bar most).1) ++ rep 45 (refB c.a c.d bar most).2 := if_pos g
      refine times_spec (c := 43) L (by omega) (isS_in ⟨?_, times_spec (c := 45) L (by omega) (isS_in ⟨?_, ?_⟩)⟩)
      · simp only [List.length_append, List.length_cons, List.length_nil, List.length_replicate]; omega
      · simp only [List.length_append, List.length_cons, List.length_nil, List.length_replicate]; omega
      refine opt2_in (bS_append (t := barF bar most c) (by rw [e]; rfl) (by rw [List.length_append]; omega)) ?_
      refine last' _ ?_
      rw [List.append_assoc]
    · have e : barF bar most c = [] := if_neg g
      rw [e, List.append_nil]
end
end
section
open Go Go.RowKit Go.Proofs
section
variable {w0 : Base} {σ : Store} {R : AV → Store → Prop}
theorem rTable_spec (L : Laid w0.w) {l : List Cnt} {width : Int} (hn : ∀ c ∈ l, c.nm.length ≤ 1048576) (hR : R (tabR l width) σ) : SCalls (cx w0) selvageref16_Table.id [cntsA l, .pv (.int .i64 width)] σ R := by
  refine SCalls.alone L rfl (fun w1 L1 => ?_) (by unfold tabR; split <;> rfl) hR
  clear hR
  refine selvageref16_Table.calls ?_
  rw [selvageref16_Table.b0_eq]
  refine rTotal_spec L1 ?_
  unfold totR tabR tabV
  rcases sums_same l with ⟨⟨a, d⟩, h1, h2, q1, q2, q3, q4, hl⟩ | ⟨h1, h2⟩
  · simp only at q1 q2 q3 q4
    rw [h1]
    have hf : ∀ c ∈ l, fineC c := fun c hc => by
      unfold sumsP at h2
      rw [if_neg (by omega)] at h2
      have := sumP_fine l 0 0 _ h2 c hc
      exact ⟨this.1, this.2.1, this.2.2.1, this.2.2.2, hn c hc⟩
    obtain ⟨n1, n2⟩ := names_le l 0 hf (by omega) (by omega)
    obtain ⟨m1, m2⟩ := most_le l 0 hf (by omega) (by omega)
    have dl := Lib.itoa_length_le (mostF l 0) (by omega) (by omega)
    repeat (first | ((with_reducible show opt _ _); refine opt_in rfl ?_) | ((with_reducible show isI _ _ _); refine isI_in ?_) | ((with_reducible show isTup _ _); refine isTup_in ?_))
    refine isS_in ?_
    repeat (first | ((with_reducible show opt _ _); refine opt_in rfl ?_) | ((with_reducible show isI _ _ _); refine isI_in ?_) | ((with_reducible show isTup _ _); refine isTup_in ?_))
    rw [condB_ibne, if_pos rfl]
    have N : ∀ t, t = decide (width < 0 ∨ width > 1020) → selvageref16_Table.n7 (selvageref16_Table.X w1 0) w1 0 (fun r' _ => r' = match (if width < 0 ∨ width > 1020 then none else some (tabT l width ++ totF l.length a d) : Option (List UInt8)) with
        | some s => .tup [.pv (.str s), .pv (.int .i64 0)]
        | none => .tup [.pv (.str []), .pv (.int .i64 1)]) [] (cntsA l) width (totF l.length a d) t := by
      rintro t rfl
      refine selvageref16_Table.n7_in ?_
      rw [selvageref16_Table.b7_eq, condB_decide]
      refine ite_split (fun g => ?_) (fun g => ?_)
      · rw [if_pos g]
        exact fin_keep (Nat.zero_le _) rfl
      · rw [if_neg g]
        refine rtab_loop1 L1 l hl width (totF l.length a d) l 0 0 0 rfl hf ?_
        refine selvageref16_Table.n31_in ?_
        rw [selvageref16_Table.b31_eq]
        refine Digits_spec (by omega) (by omega) (isS_in ?_)
        rw [wrap_i64 (n := width - namesF l 0) (by omega) (by omega), wrap_i64 (n := width - namesF l 0 - _) (by omega) (by omega), wrap_i64 (n := width - namesF l 0 - _ - 5) (by omega) (by omega)]
        have hb : 0 ≤ barW width (namesF l 0) (Lib.itoa (mostF l 0)).length ∧ barW width (namesF l 0) (Lib.itoa (mostF l 0)).length ≤ 1020 := by unfold barW; split <;> omega
        have := rtab_loop2 L1 l hl (names := namesF l 0) (digits := (Lib.itoa (mostF l 0)).length) (bar := barW width (namesF l 0) (Lib.itoa (mostF l 0)).length) (most := mostF l 0) (totF l.length a d) (totF_len (by omega) (by omega) q2 q4) n1 (by omega) hb.1 hb.2 l 0 [] rfl (fun c hc => ⟨hf c hc, (names_ge l 0).2 c hc, by have := itoa_mono (x := c.a + c.d) (by have := hf c hc; unfold fineC at this; omega) ((most_ge l 0).2 c hc); omega⟩) (by simp only [List.length_nil]; omega)
        exact this
    rw [condB_decide]
    refine ite_split (fun g => N _ ?_) (fun g => N _ ?_)
    · exact (decide_eq_true (.inl g)).symm
    · rw [decide_eq_decide]; omega
  · rw [h1]
    repeat (first | ((with_reducible show opt _ _); refine opt_in rfl ?_) | ((with_reducible show isI _ _ _); refine isI_in ?_) | ((with_reducible show isTup _ _); refine isTup_in ?_))
    refine isS_in ?_
    repeat (first | ((with_reducible show opt _ _); refine opt_in rfl ?_) | ((with_reducible show isI _ _ _); refine isI_in ?_) | ((with_reducible show isTup _ _); refine isTup_in ?_))
    rw [condB_ibne, if_neg (by decide)]
    refine selvageref16_Table.n7_in ?_
    rw [selvageref16_Table.b7_eq]
    refine condB_split (fun _ => ?_) (fun h => absurd h (by decide))
    exact fin_keep (Nat.zero_le _) rfl
end
end
section
open Go Go.RowKit Go.Proofs
theorem tables12 {w0 : Base} {b : Bool} (hb : b = true) : selvagelaw16_StatTables.n12 (selvagelaw16_StatTables.X w0 0) w0 0 (fun r _ => r = .pv (.bool true)) [] b := by
  subst hb
  refine selvagelaw16_StatTables.n12_in ?_
  rw [selvagelaw16_StatTables.b12_eq]
  exact fin_keep (Nat.zero_le _) rfl
theorem tables_law {w0 : Base} (L : Laid w0.w) {l : List Cnt} {width : Int} (hl : l.length ≤ 1048576) (hn : ∀ c ∈ l, c.nm.length ≤ 1048576) : SCalls (cx w0) selvagelaw16_StatTables.id [cntsA l, .pv (.int .i64 width)] [] fun r _ => r = .pv (.bool true) := by
  refine selvagelaw16_StatTables.calls ?_
  rw [selvagelaw16_StatTables.b0_eq]
  refine mine_spec L (by omega) ?_
  refine Table_spec L hn ?_
  have e1 : ∃ s e n, tabP l width = .tup [.pv (.str s), e] ∧ tabR l width = .tup [.pv (.str s), .pv (.int .i64 n)] ∧ ((e = .pv (.raw .nilIface) ∧ n = 0) ∨ (e = .pv (.iface 59 (.int .i64 1)) ∧ n = 1)) := by
    unfold tabP tabR
    cases tabV l width with
    | some s => exact ⟨s, _, _, rfl, rfl, .inl ⟨rfl, rfl⟩⟩
    | none => exact ⟨[], _, _, rfl, rfl, .inr ⟨rfl, rfl⟩⟩
  have e2 : ∃ s e n, totP l = .tup [.pv (.str s), e] ∧ totR l = .tup [.pv (.str s), .pv (.int .i64 n)] ∧ ((e = .pv (.raw .nilIface) ∧ n = 0) ∨ (e = .pv (.iface 59 (.int .i64 1)) ∧ n = 1)) := by
    unfold totP totR
    cases sumsR l with
    | some s => exact ⟨_, _, _, rfl, rfl, .inl ⟨rfl, rfl⟩⟩
    | none => exact ⟨[], _, _, rfl, rfl, .inr ⟨rfl, rfl⟩⟩
  obtain ⟨s, e, n, p1, p2, p3⟩ := e1
  obtain ⟨s', e', n', p1', p2', p3'⟩ := e2
  have num : ∀ (e : AV) (n : Int), ((e = .pv (.raw .nilIface) ∧ n = 0) ∨ (e = .pv (.iface 59 (.int .i64 1)) ∧ n = 1)) → ∀ {R : AV → Store → Prop}, R (.pv (.int .i64 n)) [] → SCalls (cx w0) selvagelaw16_num.id [e] [] R := by
    rintro e n (⟨rfl, rfl⟩ | ⟨rfl, rfl⟩) R hR
    · exact num_nil L hR
    · exact num_err L hR
  rw [p1]
  repeat (first | ((with_reducible show opt _ _); refine opt_in rfl ?_) | ((with_reducible show isI _ _ _); refine isI_in ?_) | ((with_reducible show isTup _ _); refine isTup_in ?_))
  refine isS_in ?_
  repeat (first | ((with_reducible show opt _ _); refine opt_in rfl ?_) | ((with_reducible show isI _ _ _); refine isI_in ?_) | ((with_reducible show isTup _ _); refine isTup_in ?_))
  refine rTable_spec L hn ?_
  rw [p2]
  repeat (first | ((with_reducible show opt _ _); refine opt_in rfl ?_) | ((with_reducible show isI _ _ _); refine isI_in ?_) | ((with_reducible show isTup _ _); refine isTup_in ?_))
  refine isS_in ?_
  repeat (first | ((with_reducible show opt _ _); refine opt_in rfl ?_) | ((with_reducible show isI _ _ _); refine isI_in ?_) | ((with_reducible show isTup _ _); refine isTup_in ?_))
  refine mine_spec L (by omega) ?_
  refine Total_spec L ?_
  rw [p1']
  repeat (first | ((with_reducible show opt _ _); refine opt_in rfl ?_) | ((with_reducible show isI _ _ _); refine isI_in ?_) | ((with_reducible show isTup _ _); refine isTup_in ?_))
  refine isS_in ?_
  repeat (first | ((with_reducible show opt _ _); refine opt_in rfl ?_) | ((with_reducible show isI _ _ _); refine isI_in ?_) | ((with_reducible show isTup _ _); refine isTup_in ?_))
  refine rTotal_spec L ?_
  rw [p2']
  repeat (first | ((with_reducible show opt _ _); refine opt_in rfl ?_) | ((with_reducible show isI _ _ _); refine isI_in ?_) | ((with_reducible show isTup _ _); refine isTup_in ?_))
  refine isS_in ?_
  repeat (first | ((with_reducible show opt _ _); refine opt_in rfl ?_) | ((with_reducible show isI _ _ _); refine isI_in ?_) | ((with_reducible show isTup _ _); refine isTup_in ?_))
  rw [condB_sbeq, if_pos rfl]
  refine num e n p3 (isI_in ?_)
  rw [condB_ibeq, if_pos rfl, condB_sbeq, if_pos rfl]
  refine num e' n' p3' (isI_in ?_)
  rw [condB_ibeq, if_pos rfl]
  exact works_spec L (isB_in (tables12 rfl))
end
section
open Go Go.Proofs Go.Proofs.YthkedonibhajbaaDoor
theorem cnt_list : ∀ xs : List PV, (∀ x ∈ xs, hasT tabS 11 47 x) → ∃ l : List Cnt, xs = l.map cntP
  | [], _ => ⟨[], rfl⟩
  | x :: r, h => by
    obtain ⟨l, rfl⟩ := cnt_list r fun y hy => h y (List.mem_cons_of_mem _ hy)
    obtain ⟨qs, rfl, g⟩ := hasT_struct tab47 ti47_td (h x (by simp))
    clear h
    obtain ⟨_, qs, rfl, h1, h⟩ := fields_cons g
    obtain ⟨_, qs, rfl, h2, h⟩ := fields_cons h
    obtain ⟨_, qs, rfl, h3, h⟩ := fields_cons h
    obtain rfl := fields_nil h
    obtain ⟨s, rfl, _⟩ := hasT_str tab9 ti9_td h1
    obtain ⟨a, rfl, _⟩ := hasT_int tab3 ti3_td h2
    obtain ⟨d, rfl, _⟩ := hasT_int tab3 ti3_td h3
    exact ⟨⟨s, a, d⟩ :: l, rfl⟩
theorem cnts_len : ∀ l : List Cnt, l.length ≤ pvBs (l.map cntP)
  | [] => Nat.zero_le _
  | c :: r => by
    have := cnts_len r
    simp only [List.map_cons, pvBs, pvB, List.length_cons]
    omega
theorem StatTables_spec {w0 : Base} (L : Laid w0.w) {H : Type} {d0 d1 : DataW H} {ds : List (DataW H)} (hT : hasT tabS 12 28 (toPV d0)) (hU : hasT tabS 12 3 (toPV d1)) (hk : Rows.uptoSmall H (d0 :: d1 :: ds) = true) : SCalls (cx w0) selvagelaw16_StatTables.id [.pv (toPV d0), .pv (toPV d1)] [] fun r _ => r = .pv (.bool true) := by
  obtain ⟨xs, e, hx⟩ := hasT_slice tab28 ti28_td hT
  obtain ⟨w, e', _⟩ := hasT_int tab3 ti3_td hU
  obtain ⟨l, rfl⟩ := cnt_list xs hx
  have hb : Rows.uptoBulkAll (d0 :: d1 :: ds) ≤ 1048576 := of_decide_eq_true hk
  have h0 := pvB_le d0
  simp only [Rows.uptoBulkAll] at hb
  rw [e] at h0
  simp only [pvB] at h0
  have hl := cnts_len l
  rw [e, e']
  refine tables_law L (by omega) fun c hc => ?_
  have := pvBs_mem _ _ (List.mem_map_of_mem (f := cntP) hc)
  simp only [pvB, pvBs] at this
  omega
end
end Go.Sv
