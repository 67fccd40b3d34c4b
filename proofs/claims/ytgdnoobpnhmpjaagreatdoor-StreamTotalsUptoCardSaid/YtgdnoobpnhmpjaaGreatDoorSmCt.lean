/- How many lines come and go, section by section, on both sides. -/
import Derived.Test.YtgdnoobpnhmpjaaGreatDoorSmSr
import Derived.Test.YtgdnoobpnhmpjaaGreatDoorSmD
set_option linter.unusedVariables false
set_option linter.unusedSimpArgs false
set_option maxRecDepth 100000
namespace Go.Sv
open Go Go.RowKit Go.Proofs
def findN : List (List UInt8) → List UInt8
  | [] => []
  | x :: r => if isNm x = true then x else findN r
section
variable {w0 : Base} {σ : Store} {R : AV → Store → Prop}
theorem nm_loop {σ : Store} {n : Nat} (hn : n ≤ σ.length) (l : List (List UInt8)) (hl : l.length ≤ 1000) : ∀ (r : List (List UInt8)) (k : Nat), (l.map PV.str).drop k = r.map PV.str → R (.tup [.pv (.str (findN r)), .pv (.bool (!(findN r == [])))]) σ →
    stream_named.n6 (stream_named.X w0 n) w0 n R σ (.pv (.sl (l.map PV.str))) l.length k
  | [], k, hd, hR => by
    have hk := drop_end hd
    rw [List.length_map] at hk
    refine stream_named.n6_in ?_
    rw [stream_named.b7_eq, condB_decide, if_neg (by omega)]
    refine stream_named.n25_in ?_
    rw [stream_named.b25_eq]
    exact fin_keep hn hR
  | x :: r, k, hd, hR => by
    obtain ⟨h1, h2, h3⟩ := drop_facts hd
    rw [List.length_map] at h3
    have no : isNm x = false → stream_named.n19 (stream_named.X w0 n) w0 n R σ x (.pv (.sl (l.map PV.str))) l.length k false := by
      intro h
      refine stream_named.n19_in ?_
      rw [stream_named.b19_eq, condB_false', wrap_next h3 (by omega)]
      refine nm_loop hn l hl r (k + 1) h2 ?_
      unfold findN at hR
      rw [h] at hR
      exact hR
    refine stream_named.n6_in ?_
    rw [stream_named.b7_eq, condB_decide, if_pos (by omega)]
    refine opt_in (idx_ro tab9 h1 rfl) ?_
    repeat ((with_reducible first | apply opt_in | apply wI | apply wT | apply wP | apply wS | apply wB); exact rfl)
    cases e1 : (x == ([] : List UInt8)) with
    | true =>
      rw [show (!true) = false from rfl, condB_false']
      exact no (by unfold isNm; rw [e1]; rfl)
    | false =>
      rw [show (!false) = true from rfl, condB_true']
      cases e2 : (x == ([47, 100, 101, 118, 47, 110, 117, 108, 108] : List UInt8)) with
      | true =>
        exact no (by unfold isNm devN; rw [e1, e2]; rfl)
      | false =>
        have hy : isNm x = true := by unfold isNm devN; rw [e1, e2]; rfl
        refine stream_named.n19_in ?_
        rw [stream_named.b19_eq]
        refine condB_split (fun _ => ?_) (fun h => absurd h (by decide))
        unfold findN at hR
        rw [if_pos hy, e1] at hR
        exact fin_keep hn hR
theorem named_spec (Ld : Laid w0.w) {s : Sec} (hR : R (.tup [.pv (.str (nameN s)), .pv (.bool (!(nameN s == [])))]) σ) : SCalls (cx w0) stream_named.id [.pv (secP s)] σ R := by
  refine SCalls.alone Ld rfl (fun w1 L1 => ?_) rfl hR
  refine stream_named.calls ?_
  rw [stream_named.b0_eq]
  refine ⟨rfl, ?_⟩
  repeat ((with_reducible first | apply opt_in | apply wI | apply wT | apply wP | apply wS | apply wB); exact rfl)
  refine opt2_in (v := .pv (.sl [.str s.np, .str s.op, .str s.ix])) rfl ?_
  repeat ((with_reducible first | apply opt_in | apply wI | apply wT | apply wP | apply wS | apply wB); exact rfl)
  exact nm_loop (Nat.zero_le _) [s.np, s.op, s.ix] (by simp) [s.np, s.op, s.ix] 0 rfl rfl
theorem rnm_loop {σ : Store} {n : Nat} (hn : n ≤ σ.length) (l : List (List UInt8)) (hl : l.length ≤ 1000) : ∀ (r : List (List UInt8)) (k : Nat), (l.map PV.str).drop k = r.map PV.str → R (.pv (.str (findN r))) σ →
    selvageref28_named.n8 (selvageref28_named.X w0 n) w0 n R σ (.pv (.sl (l.map PV.str))) k
  | [], k, hd, hR => by
    have hk := drop_end hd
    rw [List.length_map] at hk
    refine selvageref28_named.n8_in ?_
    rw [selvageref28_named.b9_eq]
    repeat ((with_reducible first | apply opt_in | apply wI | apply wT | apply wP | apply wS | apply wB); exact rfl)
    rw [List.length_map, condB_decide, if_neg (by omega)]
    refine selvageref28_named.n25_in ?_
    rw [selvageref28_named.b25_eq]
    exact fin_keep hn hR
  | x :: r, k, hd, hR => by
    obtain ⟨h1, h2, h3⟩ := drop_facts hd
    rw [List.length_map] at h3
    have no : isNm x = false → selvageref28_named.n19 (selvageref28_named.X w0 n) w0 n R σ (.pv (.sl (l.map PV.str))) k false := by
      intro h
      refine selvageref28_named.n19_in ?_
      rw [selvageref28_named.b19_eq, condB_false', wrap_next h3 (by omega)]
      refine rnm_loop hn l hl r (k + 1) h2 ?_
      unfold findN at hR
      rw [h] at hR
      exact hR
    refine selvageref28_named.n8_in ?_
    rw [selvageref28_named.b9_eq]
    repeat ((with_reducible first | apply opt_in | apply wI | apply wT | apply wP | apply wS | apply wB); exact rfl)
    rw [List.length_map, condB_decide, if_pos (by omega)]
    refine opt_in (idx_ro tab9 h1 rfl) ?_
    repeat ((with_reducible first | apply opt_in | apply wI | apply wT | apply wP | apply wS | apply wB); exact rfl)
    cases e1 : (x == ([] : List UInt8)) with
    | true =>
      rw [show (!true) = false from rfl, condB_false']
      exact no (by unfold isNm; rw [e1]; rfl)
    | false =>
      rw [show (!false) = true from rfl, condB_true']
      refine opt_in (idx_ro tab9 h1 rfl) ?_
      repeat ((with_reducible first | apply opt_in | apply wI | apply wT | apply wP | apply wS | apply wB); exact rfl)
      cases e2 : (x == ([47, 100, 101, 118, 47, 110, 117, 108, 108] : List UInt8)) with
      | true =>
        exact no (by unfold isNm devN; rw [e1, e2]; rfl)
      | false =>
        have hy : isNm x = true := by unfold isNm devN; rw [e1, e2]; rfl
        refine selvageref28_named.n19_in ?_
        rw [selvageref28_named.b19_eq]
        refine condB_split (fun _ => ?_) (fun h => absurd h (by decide))
        refine opt_in (idx_ro tab9 h1 rfl) ?_
        repeat ((with_reducible first | apply opt_in | apply wI | apply wT | apply wP | apply wS | apply wB); exact rfl)
        unfold findN at hR
        rw [if_pos hy] at hR
        exact fin_keep hn hR
theorem rnamed_spec (Ld : Laid w0.w) {s : Sec} (hR : R (.pv (.str (nameN s))) σ) : SCalls (cx w0) selvageref28_named.id [.pv (secP s)] σ R := by
  refine SCalls.alone Ld rfl (fun w1 L1 => ?_) rfl hR
  refine selvageref28_named.calls ?_
  rw [selvageref28_named.b0_eq]
  refine ⟨rfl, ?_⟩
  repeat ((with_reducible first | apply opt_in | apply wI | apply wT | apply wP | apply wS | apply wB); exact rfl)
  refine opt2_in (v := .pv (.sl [.str s.np, .str s.op, .str s.ix])) rfl ?_
  exact rnm_loop (Nat.zero_le _) [s.np, s.op, s.ix] (by simp) [s.np, s.op, s.ix] 0 rfl rfl
def cntP : Except Int (List Ct) → AV
  | .error e => .tup [.pv (.sl []), .pv (.iface 61 (.int .i64 e))]
  | .ok l => .tup [.pv (.sl (l.map ctP)), .pv (.raw .nilIface)]
def cntR : Except Int (List Ct) → AV
  | .error e => .tup [.pv (.sl []), .pv (.int .i64 e)]
  | .ok l => .tup [.pv (.sl (l.map ctP)), .pv (.int .i64 0)]
def putC (done : List Ct) : Except Int (List Ct) → Except Int (List Ct)
  | .error e => .error e
  | .ok l => .ok (done ++ l)
theorem cntP_under (x : Except Int (List Ct)) : AV.under 0 (cntP x) = true := by cases x <;> rfl
theorem cntR_under (x : Except Int (List Ct)) : AV.under 0 (cntR x) = true := by cases x <;> rfl
theorem ct_loop (Ld : Laid w0.w) {L : List Sec} (hL : L.length ≤ 1048576) (hall : ∀ s ∈ L, SecOK s) : ∀ (r : List Sec) (k : Nat) (done : List Ct), L.drop k = r → done.length = k → k ≤ L.length → R (cntP (putC done (allN r))) [] →
    stream_Counts.n33 (stream_Counts.X w0 0) w0 0 R [.arr 3 (done.map ctP) false] (.arr 0 k 0 k) (secsA L) L.length k
  | [], k, done, hd, hdl, hk, hR => by
    have hl : L.length ≤ k := List.drop_eq_nil_iff.1 hd
    refine stream_Counts.n33_in ?_
    rw [stream_Counts.b34_eq, condB_decide, if_neg (by omega)]
    refine stream_Counts.n58_in ?_
    rw [stream_Counts.b58_eq]
    rw [allN, putC, List.append_nil, cntP] at hR
    exact fin_seal (σ := []) (L := _) glob0 rfl (seal_two (σ := [.arr 3 (done.map ctP) false]) (k := 0) (id := 0) (es := 3) (n := k) (xs := done.map ctP) rfl (by rw [List.length_map]; exact hdl) rfl) hR
  | s :: r, k, done, hd, hdl, hk, hR => by
    obtain ⟨h1, h2, h3⟩ := drop_facts hd
    have hsk := hall s (List.mem_of_getElem? h1)
    refine stream_Counts.n33_in ?_
    rw [stream_Counts.b34_eq, condB_decide, if_pos (by omega)]
    refine opt_in (idx_ro tab31 (show (L.map secP)[k]? = some (secP s) by rw [List.getElem?_map, h1]; rfl) rfl) ?_
    repeat ((with_reducible first | apply opt_in | apply wI | apply wT | apply wP | apply wS | apply wB); exact rfl)
    refine named_spec Ld ?_
    repeat ((with_reducible first | apply opt_in | apply wI | apply wT | apply wP | apply wS | apply wB); exact rfl)
    refine Of_spec Ld hsk.n hsk.h ?_
    unfold allN oneN at hR
    cases ho : ofR s.hs with
    | none =>
      rw [ho] at hR
      unfold outOP outO
      repeat ((with_reducible first | apply opt_in | apply wI | apply wT | apply wP | apply wS | apply wB); exact rfl)
      rw [neq_raw]
      refine opt_in rfl (opt_in (v := false) rfl (isB_in ?_))
      refine condB_split (fun _ => ?_) (fun h => absurd h (by decide))
      exact fin_seal (σ := []) (L := _) glob0 rfl rfl hR
    | some p =>
      obtain ⟨a, d⟩ := p
      rw [ho] at hR
      unfold outOP outO
      dsimp only at hR ⊢
      by_cases g : a > 2147483647 ∨ d > 2147483647
      · rw [if_pos g] at hR ⊢
        repeat ((with_reducible first | apply opt_in | apply wI | apply wT | apply wP | apply wS | apply wB); exact rfl)
        rw [neq_raw]
        refine opt_in rfl (opt_in (v := false) rfl (isB_in ?_))
        refine condB_split (fun _ => ?_) (fun h => absurd h (by decide))
        exact fin_seal (σ := []) (L := _) glob0 rfl rfl hR
      · rw [if_neg g] at hR ⊢
        repeat ((with_reducible first | apply opt_in | apply wI | apply wT | apply wP | apply wS | apply wB); exact rfl)
        rw [neq_raw]
        refine opt_in rfl (opt_in (v := true) rfl (isB_in ?_))
        refine condB_split (fun h => absurd h (by decide)) (fun _ => ?_)
        repeat ((with_reducible first | apply opt_in | apply wI | apply wT | apply wP | apply wS | apply wB); exact rfl)
        refine opt2_in (v := .pv (.sl [ctP (⟨nameN s, a, d⟩ : Ct)])) rfl ?_
        refine opt2_in (row_append (es := 3) (xs := done.map ctP) rfl rfl (by rw [List.length_map]; exact hdl) rfl (roomy_of (B := 1048577) (by rw [List.length_map, hdl]; show k + 1 ≤ _; omega) (by decide) (by decide))) ?_
        have e1 : done.map ctP ++ [ctP (⟨nameN s, a, d⟩ : Ct)] = (done ++ [(⟨nameN s, a, d⟩ : Ct)]).map ctP := by rw [List.map_append]; rfl
        rw [e1, List.length_map, List.length_append, List.length_singleton, hdl, wrap_next h3 (by omega)]
        refine stream_Counts.n33_weak (EWeak.drop (τ := [.arr 3 ((done ++ [(⟨nameN s, a, d⟩ : Ct)]).map ctP) false]) glob0 (Nat.zero_le _) rfl rfl) ?_
        refine ct_loop Ld hL hall r (k + 1) _ h2 (by rw [List.length_append, List.length_singleton, hdl]) (by omega) ?_
        dsimp only at hR
        cases ha : allN r with
        | error e => rw [ha] at hR; exact hR
        | ok l =>
          rw [ha] at hR
          show R (cntP (.ok (done ++ [(⟨nameN s, a, d⟩ : Ct)] ++ l))) []
          rw [List.append_assoc]
          exact hR
theorem c1_loop (Ld : Laid w0.w) {L : List Sec} (hL : L.length ≤ 1048576) (next : L.any badS = false → stream_Counts.n27 (stream_Counts.X w0 0) w0 0 R [] (secsA L)) (hE : L.any badS = true → R (cntP (.error 1)) []) : ∀ (r : List Sec) (k : Nat), L.drop k = r → k ≤ L.length → L.any badS = r.any badS →
    stream_Counts.n6 (stream_Counts.X w0 0) w0 0 R [] (secsA L) (secsA L) L.length k
  | [], k, hd, hk, he => by
    have hl : L.length ≤ k := List.drop_eq_nil_iff.1 hd
    refine stream_Counts.n6_in ?_
    rw [stream_Counts.b7_eq, condB_decide, if_neg (by omega)]
    exact next he
  | s :: r, k, hd, hk, he => by
    obtain ⟨h1, h2, h3⟩ := drop_facts hd
    rw [List.any_cons] at he
    have bad : badS s = true → ∀ Lx, stream_Counts.n21 (stream_Counts.X w0 0) w0 0 R Lx (secsA L) (secsA L) L.length k true := by
      intro hb Lx
      rw [hb, Bool.true_or] at he
      refine stream_Counts.n21_in ?_
      rw [stream_Counts.b21_eq, condB_true']
      repeat ((with_reducible first | apply opt_in | apply wI | apply wT | apply wP | apply wS | apply wB); exact rfl)
      exact fin_seal (σ := []) (L := Lx) glob0 rfl rfl (hE he)
    refine stream_Counts.n6_in ?_
    rw [stream_Counts.b7_eq, condB_decide, if_pos (by omega)]
    refine opt_in (idx_ro tab31 (show (L.map secP)[k]? = some (secP s) by rw [List.getElem?_map, h1]; rfl) rfl) ?_
    repeat ((with_reducible first | apply opt_in | apply wI | apply wT | apply wP | apply wS | apply wB); exact rfl)
    refine named_spec Ld ?_
    repeat ((with_reducible first | apply opt_in | apply wI | apply wT | apply wP | apply wS | apply wB); exact rfl)
    cases e1 : (nameN s == ([] : List UInt8)) with
    | true =>
      rw [show (!(!true)) = true from rfl, condB_true']
      exact bad (by unfold badS; rw [e1, Bool.or_true]) _
    | false =>
      rw [show (!(!false)) = false from rfl, condB_false']
      repeat ((with_reducible first | apply opt_in | apply wI | apply wT | apply wP | apply wS | apply wB); exact rfl)
      cases e2 : (s.f == 4) with
      | true => exact bad (by unfold badS; rw [e2, Bool.true_or]) _
      | false =>
        have hb : badS s = false := by unfold badS; rw [e1, e2]; rfl
        rw [hb, Bool.false_or] at he
        refine stream_Counts.n21_in ?_
        rw [stream_Counts.b21_eq, condB_false', wrap_next h3 (by omega)]
        refine stream_Counts.n6_weak (EWeak.drop (τ := []) glob0 (Nat.zero_le _) rfl rfl) ?_
        exact c1_loop Ld hL next hE r (k + 1) h2 (by omega) he
theorem SCounts_spec (Ld : Laid w0.w) {L : List Sec} (hL : L.length ≤ 1048576) (hall : ∀ s ∈ L, SecOK s) (hR : R (cntP (cntsN L)) σ) : SCalls (cx w0) stream_Counts.id [secsA L] σ R := by
  refine SCalls.alone Ld rfl (fun w1 L1 => ?_) (cntP_under _) hR
  refine stream_Counts.calls ?_
  rw [stream_Counts.b0_eq]
  repeat ((with_reducible first | apply opt_in | apply wI | apply wT | apply wP | apply wS | apply wB); exact rfl)
  rw [List.length_map]
  refine c1_loop L1 hL (fun h => ?_) (fun h => by unfold cntsN; rw [if_pos h]) L 0 rfl (Nat.zero_le _) rfl
  refine stream_Counts.n27_in ?_
  rw [stream_Counts.b27_eq]
  repeat ((with_reducible first | apply opt_in | apply wI | apply wT | apply wP | apply wS | apply wB); exact rfl)
  rw [List.length_map]
  refine stream_Counts.n33_weak (out' := .arr 0 0 0 0) (t35' := secsA L) (t36' := L.length) (t37' := (0 : Nat)) (τ := [.arr 3 [] false]) (EWeak.nil (t := 8) (es := 3) rfl rfl) ?_
  refine ct_loop L1 hL hall L 0 [] rfl rfl (Nat.zero_le _) ?_
  unfold cntsN
  rw [h, if_neg (by decide)]
  cases allN L <;> rfl
theorem rct_loop (Ld : Laid w0.w) {L : List Sec} (hL : L.length ≤ 1048576) (hall : ∀ s ∈ L, SecOK s) : ∀ (r : List Sec) (k : Nat) (done : List Ct), L.drop k = r → done.length = k → k ≤ L.length → R (cntR (putC done (allN r))) [] →
    selvageref28_Counts.n29 (selvageref28_Counts.X w0 0) w0 0 R [.arr 3 (done.map ctP) false] (secsA L) (.arr 0 k 0 k) k
  | [], k, done, hd, hdl, hk, hR => by
    have hl : L.length ≤ k := List.drop_eq_nil_iff.1 hd
    refine selvageref28_Counts.n29_in ?_
    rw [selvageref28_Counts.b30_eq]
    repeat ((with_reducible first | apply opt_in | apply wI | apply wT | apply wP | apply wS | apply wB); exact rfl)
    rw [List.length_map, condB_decide, if_neg (by omega)]
    refine selvageref28_Counts.n50_in ?_
    rw [selvageref28_Counts.b50_eq]
    rw [allN, putC, List.append_nil, cntR] at hR
    exact fin_seal (σ := []) (L := _) glob0 rfl (seal_two (σ := [.arr 3 (done.map ctP) false]) (k := 0) (id := 0) (es := 3) (n := k) (xs := done.map ctP) rfl (by rw [List.length_map]; exact hdl) rfl) hR
  | s :: r, k, done, hd, hdl, hk, hR => by
    obtain ⟨h1, h2, h3⟩ := drop_facts hd
    have hsk := hall s (List.mem_of_getElem? h1)
    have hix : (L.map secP)[k]? = some (secP s) := by rw [List.getElem?_map, h1]; rfl
    refine selvageref28_Counts.n29_in ?_
    rw [selvageref28_Counts.b30_eq]
    repeat ((with_reducible first | apply opt_in | apply wI | apply wT | apply wP | apply wS | apply wB); exact rfl)
    rw [List.length_map, condB_decide, if_pos (by omega)]
    refine opt_in (idx_ro tab31 hix rfl) ?_
    repeat ((with_reducible first | apply opt_in | apply wI | apply wT | apply wP | apply wS | apply wB); exact rfl)
    refine opt_in (idx_ro tab31 hix rfl) ?_
    repeat ((with_reducible first | apply opt_in | apply wI | apply wT | apply wP | apply wS | apply wB); exact rfl)
    refine alone_in Ld rfl rfl (fun w1 L1 => rnamed_spec (s := s) L1 rfl) ?_
    repeat ((with_reducible first | apply opt_in | apply wI | apply wT | apply wP | apply wS | apply wB); exact rfl)
    refine alone_in Ld rfl (outOR_under (nameN s) (ofR s.hs)) (fun w1 L1 => rOf_spec (nm := nameN s) (l := s.hs) L1 hsk.n hsk.h rfl) ?_
    unfold allN oneN at hR
    cases ho : ofR s.hs with
    | none =>
      rw [ho] at hR
      unfold outOR outO
      repeat ((with_reducible first | apply opt_in | apply wI | apply wT | apply wP | apply wS | apply wB); exact rfl)
      rw [condB_ibne, if_neg (by decide)]
      exact fin_seal (σ := []) (L := _) glob0 rfl rfl hR
    | some p =>
      obtain ⟨a, d⟩ := p
      rw [ho] at hR
      unfold outOR outO
      dsimp only at hR ⊢
      by_cases g : a > 2147483647 ∨ d > 2147483647
      · rw [if_pos g] at hR ⊢
        repeat ((with_reducible first | apply opt_in | apply wI | apply wT | apply wP | apply wS | apply wB); exact rfl)
        rw [condB_ibne, if_neg (by decide)]
        exact fin_seal (σ := []) (L := _) glob0 rfl rfl hR
      · rw [if_neg g] at hR ⊢
        repeat ((with_reducible first | apply opt_in | apply wI | apply wT | apply wP | apply wS | apply wB); exact rfl)
        rw [condB_ibne, if_pos rfl]
        repeat ((with_reducible first | apply opt_in | apply wI | apply wT | apply wP | apply wS | apply wB); exact rfl)
        refine opt2_in (v := .pv (.sl [ctP (⟨nameN s, a, d⟩ : Ct)])) rfl ?_
        refine opt2_in (row_append (es := 3) (xs := done.map ctP) rfl rfl (by rw [List.length_map]; exact hdl) rfl (roomy_of (B := 1048577) (by rw [List.length_map, hdl]; show k + 1 ≤ _; omega) (by decide) (by decide))) ?_
        have e1 : done.map ctP ++ [ctP (⟨nameN s, a, d⟩ : Ct)] = (done ++ [(⟨nameN s, a, d⟩ : Ct)]).map ctP := by rw [List.map_append]; rfl
        rw [e1, List.length_map, List.length_append, List.length_singleton, hdl, wrap_next h3 (by omega)]
        refine selvageref28_Counts.n29_weak (EWeak.drop (τ := [.arr 3 ((done ++ [(⟨nameN s, a, d⟩ : Ct)]).map ctP) false]) glob0 (Nat.zero_le _) rfl rfl) ?_
        refine rct_loop Ld hL hall r (k + 1) _ h2 (by rw [List.length_append, List.length_singleton, hdl]) (by omega) ?_
        dsimp only at hR
        cases ha : allN r with
        | error e => rw [ha] at hR; exact hR
        | ok l =>
          rw [ha] at hR
          show R (cntR (.ok (done ++ [(⟨nameN s, a, d⟩ : Ct)] ++ l))) []
          rw [List.append_assoc]
          exact hR
theorem rc1_loop (Ld : Laid w0.w) {L : List Sec} (hL : L.length ≤ 1048576) (next : L.any badS = false → selvageref28_Counts.n23 (selvageref28_Counts.X w0 0) w0 0 R [] (secsA L)) (hE : L.any badS = true → R (cntR (.error 1)) []) : ∀ (r : List Sec) (k : Nat), L.drop k = r → k ≤ L.length → L.any badS = r.any badS →
    selvageref28_Counts.n6 (selvageref28_Counts.X w0 0) w0 0 R [] (secsA L) k
  | [], k, hd, hk, he => by
    have hl : L.length ≤ k := List.drop_eq_nil_iff.1 hd
    refine selvageref28_Counts.n6_in ?_
    rw [selvageref28_Counts.b7_eq]
    repeat ((with_reducible first | apply opt_in | apply wI | apply wT | apply wP | apply wS | apply wB); exact rfl)
    rw [List.length_map, condB_decide, if_neg (by omega)]
    exact next he
  | s :: r, k, hd, hk, he => by
    obtain ⟨h1, h2, h3⟩ := drop_facts hd
    have hix : (L.map secP)[k]? = some (secP s) := by rw [List.getElem?_map, h1]; rfl
    rw [List.any_cons] at he
    have bad : badS s = true → selvageref28_Counts.n17 (selvageref28_Counts.X w0 0) w0 0 R [] (secsA L) k true := by
      intro hb
      rw [hb, Bool.true_or] at he
      refine selvageref28_Counts.n17_in ?_
      rw [selvageref28_Counts.b17_eq, condB_true']
      exact fin_seal (σ := []) (L := []) glob0 rfl rfl (hE he)
    refine selvageref28_Counts.n6_in ?_
    rw [selvageref28_Counts.b7_eq]
    repeat ((with_reducible first | apply opt_in | apply wI | apply wT | apply wP | apply wS | apply wB); exact rfl)
    rw [List.length_map, condB_decide, if_pos (by omega)]
    refine opt_in (idx_ro tab31 hix rfl) ?_
    repeat ((with_reducible first | apply opt_in | apply wI | apply wT | apply wP | apply wS | apply wB); exact rfl)
    cases e2 : (s.f == 4) with
    | true =>
      rw [condB_true']
      exact bad (by unfold badS; rw [e2, Bool.true_or])
    | false =>
      rw [condB_false']
      refine opt_in (idx_ro tab31 hix rfl) ?_
      repeat ((with_reducible first | apply opt_in | apply wI | apply wT | apply wP | apply wS | apply wB); exact rfl)
      refine rnamed_spec Ld ?_
      repeat ((with_reducible first | apply opt_in | apply wI | apply wT | apply wP | apply wS | apply wB); exact rfl)
      cases e1 : (nameN s == ([] : List UInt8)) with
      | true => exact bad (by unfold badS; rw [e1, Bool.or_true])
      | false =>
        have hb : badS s = false := by unfold badS; rw [e1, e2]; rfl
        rw [hb, Bool.false_or] at he
        refine selvageref28_Counts.n17_in ?_
        rw [selvageref28_Counts.b17_eq, condB_false', wrap_next h3 (by omega)]
        exact rc1_loop Ld hL next hE r (k + 1) h2 (by omega) he
theorem rCounts_spec (Ld : Laid w0.w) {L : List Sec} (hL : L.length ≤ 1048576) (hall : ∀ s ∈ L, SecOK s) (hR : R (cntR (cntsN L)) σ) : SCalls (cx w0) selvageref28_Counts.id [secsA L] σ R := by
  refine SCalls.alone Ld rfl (fun w1 L1 => ?_) (cntR_under _) hR
  refine selvageref28_Counts.calls ?_
  rw [selvageref28_Counts.b0_eq]
  refine rc1_loop L1 hL (fun h => ?_) (fun h => by unfold cntsN; rw [if_pos h]) L 0 rfl (Nat.zero_le _) rfl
  refine selvageref28_Counts.n23_in ?_
  rw [selvageref28_Counts.b23_eq]
  refine selvageref28_Counts.n29_weak (l_' := secsA L) (out' := .arr 0 0 0 0) (i' := (0 : Nat)) (τ := [.arr 3 [] false]) (EWeak.nil (t := 5) (es := 3) rfl rfl) ?_
  refine rct_loop L1 hL hall L 0 [] rfl rfl (Nat.zero_le _) ?_
  unfold cntsN
  rw [h, if_neg (by decide)]
  cases allN L <;> rfl
end
end Go.Sv
