/- The computed run, where the answers of some functions are handed out for good. Package filediff's small samples, worked out: 'moved' is true. How much of two texts is the same: as a plain number, and what both sides answer. Files that went and came elsewhere, as plain data: which pair is the best, which ones are taken, what is answered. -/
import Derived.Test.YtimmjplgogpglaaDoorSvAs
import Derived.Test.YtimmjplgogpglaaDoorFdA
import Derived.Test.YtimmjplgogpglaaDoorFdB
import Derived.Test.YtimmjplgogpglaaDoorFdC
import Derived.Test.YtimmjplgogpglaaDoorFdV
import Derived.Test.YtimmjplgogpglaaDoorFrA
import Derived.KernelRfl
import Derived.Test.YtimmjplgogpglaaDoorFdG
set_option linter.unusedVariables false
set_option linter.unusedSimpArgs false
set_option maxRecDepth 100000
section
namespace Go.Sv
open Go Go.RowKit
def rEndS (b : Bool) (n : Nat) (r : AV) (σ : Store) : AV × Store := match b with
  | false => rEnd n r σ
  | true => match storeUnder n (σ.take n) with
    | true => match sealR n σ r with
      | some r' => (r', σ.take n)
      | none => rEnd n r σ
    | false => rEnd n r σ
theorem rEndS_in {C : Ctx} (hC : ∀ g a, C.glob g = some a → AV.under 0 a = true) {b : Bool} {n : Nat} {r : AV} {σ : Store} {R : AV → Store → Prop} (hn : n ≤ σ.length) (h : R (rEndS b n r σ).1 (rEndS b n r σ).2) : FinK C n r σ R := by
  unfold rEndS at h
  split at h
  · exact rEnd_in hC hn h
  · split at h
    · rename_i h2
      split at h
      · rename_i r' hr
        exact FinK.sealed hC rfl hn h2 hr h
      · exact rEnd_in hC hn h
    · exact rEnd_in hC hn h
def rcallS (S : FuncId → Bool) (C : Ctx) (T : FuncId → Option FE) (prim : Caller) (depth : Nat) : Nat → Caller
  | 0, _, _, _ => none
  | fuel + 1, f, args, σ => match prim f args σ with
    | some r => some r
    | none => match T f with
      | none => none
      | some x => match Nat.ble args.length x.fn.ntmps with
        | false => none
        | true => match rcode C (rcallS S C T prim depth fuel) x.fn.ntmps x.L depth x.c 0 (argsE 0 args) σ with
          | some (e, env, σ') => match e with
            | .ret | .normal => match rRes C env σ' x.fn.results.toList, Nat.ble σ.length σ'.length with
              | some vs, true => some (rEndS (S f) σ.length (one vs) σ')
              | _, _ => none
            | _ => none
          | none => none
theorem rcallS_in {S : FuncId → Bool} {C : Ctx} (hC : CtxOK C) (hG : ∀ g a, C.glob g = some a → AV.under 0 a = true) {T : FuncId → Option FE} (hT : ∀ f x, T f = some x → FOK C f x) {prim : Caller} (hp : CallerOK C prim) {depth : Nat} : ∀ fuel : Nat, CallerOK C (rcallS S C T prim depth fuel)
  | 0 => fun f args σ r σ' h => by cases h
  | fuel + 1 => fun f args σ r σ' h R hR => by
    unfold rcallS at h
    split at h
    · rename_i q hq
      cases h
      exact hp _ _ _ _ _ hq R hR
    · split at h
      · cases h
      · rename_i x hx
        split at h
        · cases h
        · rename_i hn
          obtain ⟨h1, h2, h3⟩ := hT f x hx
          split at h
          · rename_i e env σ1 hrun
            refine SCalls.enter hC h1 h2 h3 hn (L := x.L) (rcode_in hC (rcallS_in hC hG hT hp fuel) depth x.c 0 _ _ _ _ _ _ hrun ?_)
            have fin : (match rRes C env σ1 x.fn.results.toList, Nat.ble σ.length σ1.length with
              | some vs, true => some (rEndS (S f) σ.length (one vs) σ1)
              | _, _ => none) = some (r, σ') → aRes C env σ1 x.fn.results.toList fun vs => FinK C σ.length (one vs) σ1 R := by
              intro h
              split at h
              · rename_i vs hvs hle
                simp only [Option.some.injEq] at h
                refine rRes_in _ vs _ hvs (rEndS_in hG (b := S f) (Nat.le_of_ble_eq_true hle) ?_)
                rw [h]
                exact hR
              · cases h
            cases e with
            | ret => exact fin h
            | normal => exact fin h
            | exit _ => cases h
            | _ => cases h
          · cases h
theorem run_callsS {S : FuncId → Bool} {w0 : Base} (L : Laid w0.w) {T : List (FuncId × FE)} (hT : FEsOK (cx w0) T) {depth fuel : Nat} {f : FuncId} {args : List AV} {σ : Store} {r : AV} {σ' : Store} (h : rcallS S (cx w0) (feTab T) (primOf prims) depth fuel f args σ = some (r, σ')) {R : AV → Store → Prop} (hR : R r σ') : SCalls (cx w0) f args σ R :=
  rcallS_in (cxOK w0) (cxG w0) (feTab_ok T hT) (primOf_ok prims (prims_ok L)) fuel f args σ r σ' h R hR
end Go.Sv
end
section
namespace Go.Sv
open Go Go.RowKit Go.Proofs
noncomputable def feM : List (FuncId × FE) := [(selvagelaw25_moved.id, selvagelaw25_moved.fe), (filediff_Similarity.id, filediff_Similarity.fe), (filediff_Renames.id, filediff_Renames.fe), (filediff_file.id, filediff_file.fe), (intern_Ids.id, intern_Ids.fe), (intern_Ids_1.id, intern_Ids_1.fe), (intern_Key.id, intern_Key.fe), (lines_Split.id, lines_Split.fe), (lines_Bare.id, lines_Bare.fe), (myers_Common.id, myers_Common.fe), (myers_Distance.id, myers_Distance.fe), (myers_Diff.id, myers_Diff.fe), (myers_mark.id, myers_mark.fe), (myers_box_trim.id, myers_box_trim.fe), (myers_snake.id, myers_snake.fe), (myers_wrap.id, myers_wrap.fe), (selvagelaw25_num.id, selvagelaw25_num.fe)]
theorem feM_ok (w0 : Base) : FEsOK (cx w0) feM := ⟨selvagelaw25_moved.ok w0, filediff_Similarity.ok w0, filediff_Renames.ok w0, filediff_file.ok w0, intern_Ids.ok w0, intern_Ids_1.ok w0, intern_Key.ok w0, lines_Split.ok w0, lines_Bare.ok w0, myers_Common.ok w0, myers_Distance.ok w0, myers_Diff.ok w0, myers_mark.ok w0, myers_box_trim.ok w0, myers_snake.ok w0, myers_wrap.ok w0, selvagelaw25_num.ok w0, trivial⟩
def sealM (f : FuncId) : Bool := Nat.beq f intern_Ids.id
theorem moved_run (w0 : Base) : rcallS sealM (cx w0) (feTab feM) (primOf prims) 1000 30 selvagelaw25_moved.id [] [] = some (.pv (.bool true), []) := by kernel_rfl
theorem moved_spec {w0 : Base} {σ : Store} {R : AV → Store → Prop} (L : Laid w0.w) (hR : R (.pv (.bool true)) σ) : SCalls (cx w0) selvagelaw25_moved.id [] σ R :=
  SCalls.alone L rfl (fun w1 L1 => run_callsS L1 (feM_ok w1) (moved_run w1) rfl) rfl hR
end Go.Sv
end
section
namespace Go.Sv
theorem atF_ext {s : Ln} : ∀ (kn ext : List Ln), atF s kn < kn.length → atF s (kn ++ ext) = atF s kn
  | [], ext, h => by cases h
  | k :: r, ext, h => by
    unfold atF at h
    rw [List.cons_append]
    unfold atF
    by_cases e : k = s
    · rw [if_pos e, if_pos e]
    · rw [if_neg e] at h
      rw [if_neg e, if_neg e, atF_ext r ext (by simpa using h)]
theorem atF_new {s : Ln} : ∀ (kn : List Ln), atF s kn = kn.length → atF s (kn ++ [s]) = kn.length
  | [], _ => by simp [atF]
  | k :: r, h => by
    unfold atF at h
    rw [List.cons_append]
    unfold atF
    by_cases e : k = s
    · rw [if_pos e] at h; simp at h
    · rw [if_neg e] at h
      rw [if_neg e, atF_new r (by simpa using h)]; rfl
theorem addK_at (kn : List Ln) (s : Ln) : atF s (addK kn s) = atF s kn ∧ atF s kn < (addK kn s).length := by
  unfold addK
  have := atF_le s kn
  split
  · rename_i h
    rw [atF_new kn h, List.length_append, List.length_singleton]
    omega
  · exact ⟨rfl, by omega⟩
theorem addK_ext (kn : List Ln) (s : Ln) : ∃ ext, addK kn s = kn ++ ext := by
  unfold addK
  split
  · exact ⟨[s], rfl⟩
  · exact ⟨[], (List.append_nil _).symm⟩
theorem knF_ext : ∀ (l kn : List Ln), ∃ ext, knF kn l = kn ++ ext
  | [], kn => ⟨[], (List.append_nil _).symm⟩
  | s :: r, kn => by
    obtain ⟨e1, h1⟩ := addK_ext kn s
    obtain ⟨e2, h2⟩ := knF_ext r (addK kn s)
    exact ⟨e1 ++ e2, by show knF (addK kn s) r = _; rw [h2, h1, List.append_assoc]⟩
theorem knF_mem : ∀ (l kn : List Ln) (s : Ln), s ∈ l → atF s (knF kn l) < (knF kn l).length
  | [], kn, s, h => by cases h
  | t :: r, kn, s, h => by
    show atF s (knF (addK kn t) r) < (knF (addK kn t) r).length
    rcases List.mem_cons.1 h with rfl | h
    · obtain ⟨ext, he⟩ := knF_ext r (addK kn s)
      have h1 := addK_at kn s
      rw [he, atF_ext _ _ (by rw [h1.1]; exact h1.2), h1.1, List.length_append]
      omega
    · exact knF_mem r (addK kn t) s h
theorem xsF_map : ∀ (l kn : List Ln), xsF kn l = l.map fun s => (atF s (knF kn l) : Int)
  | [], kn => rfl
  | s :: r, kn => by
    have h1 := addK_at kn s
    obtain ⟨ext, he⟩ := knF_ext r (addK kn s)
    have h2 : atF s (knF (addK kn s) r) = atF s kn := by rw [he, atF_ext _ _ (by rw [h1.1]; exact h1.2), h1.1]
    show (atF s kn : Int) :: xsF (addK kn s) r = _
    rw [xsF_map r (addK kn s), List.map_cons]
    show _ = (atF s (knF (addK kn s) r) : Int) :: _
    rw [h2]; rfl
theorem xsF_len (l kn : List Ln) : (xsF kn l).length = l.length := by rw [xsF_map, List.length_map]
def eqS (a b : List Ln) (i j : Nat) : Bool := match a[i]?, b[j]? with
  | some u, some v => u == v
  | _, _ => false
def lcsS (a b : List Ln) : Nat := lcsF (eqS a b) a.length b.length
def numF (K : List Ln) (l : List Ln) : List Int := l.map fun s => (atF s K : Int)
structure NumOK (K a b : List Ln) : Prop where
  a : ∀ s ∈ a, atF s K < K.length
  b : ∀ s ∈ b, atF s K < K.length
theorem num_two (a b : List Ln) : ∃ K, NumOK K a b ∧ xsF [] a = numF K a ∧ xsF (knF [] a) b = numF K b := by
  obtain ⟨ext, he⟩ := knF_ext b (knF [] a)
  have hm : ∀ s ∈ a, atF s (knF (knF [] a) b) = atF s (knF [] a) := fun s hs => by rw [he, atF_ext _ _ (knF_mem a [] s hs)]
  refine ⟨knF (knF [] a) b, ⟨fun s hs => ?_, fun s hs => knF_mem b (knF [] a) s hs⟩, ?_, xsF_map b (knF [] a)⟩
  · rw [hm s hs, he, List.length_append]
    have := knF_mem a [] s hs
    omega
  · rw [xsF_map]
    exact List.map_congr_left fun s hs => by rw [hm s hs]
theorem num_inj {K : List Ln} {s t : Ln} (h1 : atF s K < K.length) (h2 : atF t K < K.length) (h : atF s K = atF t K) : s = t := by
  have g1 := atF_get s K h1
  have g2 := atF_get t K h2
  rw [h, g2] at g1
  simpa using g1.symm
theorem num_eq {K a b : List Ln} (h : NumOK K a b) : eqL (numF K a) (numF K b) = eqS a b := by
  funext i j
  unfold eqL eqS numF
  rw [List.getElem?_map, List.getElem?_map]
  cases ha : a[i]? with
  | none => rfl
  | some s =>
    cases hb : b[j]? with
    | none => rfl
    | some t =>
      have m1 := h.a s (List.mem_of_getElem? ha)
      have m2 := h.b t (List.mem_of_getElem? hb)
      simp only [Option.map_some]
      rw [Bool.eq_iff_iff, beq_iff_eq, beq_iff_eq]
      constructor
      · intro e; exact num_inj m1 m2 (by omega)
      · intro e; rw [e]
theorem num_lcs {K a b : List Ln} (h : NumOK K a b) : lcsL (numF K a) (numF K b) = lcsS a b := by
  unfold lcsL lcsS
  rw [num_eq h]
  unfold numF
  rw [List.length_map, List.length_map]
theorem ids_lcs (a b : List Ln) : lcsL (xsF [] a) (xsF (knF [] a) b) = lcsS a b := by
  obtain ⟨K, h, h1, h2⟩ := num_two a b
  rw [h1, h2, num_lcs h]
theorem num_same {K : List Ln} : ∀ {a b : List Ln}, NumOK K a b → numF K a = numF K b → a = b
  | [], [], _, _ => rfl
  | [], t :: b, _, h => by simp [numF] at h
  | s :: a, [], _, h => by simp [numF] at h
  | s :: a, t :: b, ho, h => by
    simp only [numF, List.map_cons, List.cons.injEq] at h
    have e1 := num_inj (ho.a s (by simp)) (ho.b t (by simp)) (by omega)
    have e2 := num_same (a := a) (b := b) ⟨fun x hx => ho.a x (by simp [hx]), fun x hx => ho.b x (by simp [hx])⟩ h.2
    rw [e1, e2]
theorem lcsS_all (a b : List Ln) : 2 * lcsS a b ≤ a.length + b.length ∧ (2 * lcsS a b = a.length + b.length ↔ a = b) := by
  obtain ⟨K, h, _, _⟩ := num_two a b
  have h1 := lcs_cnt (numF K a) (numF K b)
  rw [num_lcs h] at h1
  have l1 : (numF K a).length = a.length := List.length_map _
  have l2 : (numF K b).length = b.length := List.length_map _
  rw [l1, l2] at h1
  refine ⟨by omega, fun e => ?_, fun e => ?_⟩
  · exact num_same h ((cnt_zero _ _).1 (by omega))
  · have : cntL (numF K a) (numF K b) = 0 := (cnt_zero _ _).2 (by rw [e])
    omega
def simN (s t : List UInt8) : Nat := if (splitF s).length + (splitF t).length = 0 then 100 else 200 * lcsS (splitF s) (splitF t) / ((splitF s).length + (splitF t).length)
theorem mem_flat : ∀ (L : List Ln) (l : Ln), l ∈ L → l.length ≤ L.flatten.length
  | [], l, h => by cases h
  | x :: L, l, h => by
    rw [List.flatten_cons, List.length_append]
    rcases List.mem_cons.1 h with rfl | h
    · omega
    · have := mem_flat L l h; omega
theorem splitF_mem {s l : Ln} (h : l ∈ splitF s) : l.length ≤ s.length := by
  have := mem_flat _ _ h
  rwa [splitF_flat] at this
open Go Go.RowKit Go.Proofs
section
variable {w0 : Base} {σ : Store} {R : AV → Store → Prop}
theorem per_cent {c n : Nat} (h : 2 * c ≤ n) (hn : n ≤ 8388608) : IntKind.wrap .i64 (Int.tdiv (IntKind.wrap .i64 (200 * (c : Int))) (n : Int)) = ((200 * c / n : Nat) : Int) := by
  have h2 : 200 * c / n ≤ 200 * c := Nat.div_le_self _ _
  have e : Int.tdiv (200 * (c : Int)) (n : Int) = ((200 * c / n : Nat) : Int) := by
    rw [Int.tdiv_eq_ediv_of_nonneg (by omega)]
    exact_mod_cast rfl
  have w1 : IntKind.wrap .i64 (200 * (c : Int)) = 200 * (c : Int) := wrap_i64 (by omega) (by omega)
  rw [w1, e]
  clear e w1
  generalize 200 * c / n = q at h2 ⊢
  exact wrap_i64 (by omega) (by omega)
def simA (s t : List UInt8) : AV := if s.length ≤ 4194304 ∧ t.length ≤ 4194304 then .tup [.pv (.int .i64 (simN s t : Int)), .pv (.raw .nilIface)] else .tup [.pv (.int .i64 0), .pv (.iface 42 (.int .i64 2))]
def simD (s t : List UInt8) : AV := if s.length ≤ 4194304 ∧ t.length ≤ 4194304 then .tup [.pv (.int .i64 (simN s t : Int)), .pv (.int .i64 0)] else .tup [.pv (.int .i64 0), .pv (.int .i64 2)]
theorem Similarity_spec (L : Laid w0.w) {s t : List UInt8} (hR : R (simA s t) σ) : SCalls (cx w0) filediff_Similarity.id [.pv (.str s), .pv (.str t)] σ R := by
  have h5 : ∀ q : Bool, (q = false ↔ (s.length ≤ 4194304 ∧ t.length ≤ 4194304)) → filediff_Similarity.n5 (filediff_Similarity.X w0 σ.length) w0 σ.length R σ s t q := by
    intro q hq
    refine filediff_Similarity.n5_in ?_
    rw [filediff_Similarity.b5_eq]
    refine condB_split (fun g => ?_) (fun g => ?_)
    · repeat ((with_reducible first | apply opt_in | apply wI | apply wT | apply wP | apply wS | apply wB); exact rfl)
      refine fin_same ?_
      unfold simA at hR
      rwa [if_neg (fun h => by rw [hq.2 h] at g; cases g)] at hR
    · obtain ⟨h1, h2⟩ := hq.1 g
      have l1 := splitF_len s
      have l2 := splitF_len t
      unfold simA at hR
      rw [if_pos ⟨h1, h2⟩] at hR
      refine Split_spec L (by omega) ?_
      refine Split_spec L (by omega) ?_
      refine Ids_spec L (by omega) (by omega) (fun l hl => by have := splitF_mem hl; omega) (fun l hl => by have := splitF_mem hl; omega) ?_
      repeat ((with_reducible first | apply opt_in | apply wI | apply wT | apply wP | apply wS | apply wB); exact rfl)
      rw [neq_raw]
      refine opt_in rfl (opt_in (v := true) rfl (isB_in ?_))
      rw [Bool.not_true, condB_false']
      repeat ((with_reducible first | apply opt_in | apply wI | apply wT | apply wP | apply wS | apply wB); exact rfl)
      rw [List.length_map, List.length_map, xsF_len, xsF_len, wrap_i64 (by omega) (by omega), condB_ibeq]
      refine ite_split (fun g0 => ?_) (fun g0 => ?_)
      · refine fin_same ?_
        unfold simN at hR
        rw [if_pos (by omega)] at hR
        exact hR
      · refine Common_spec L (by rw [xsF_len]; omega) (by rw [xsF_len]; omega) ?_
        repeat ((with_reducible first | apply opt_in | apply wI | apply wT | apply wP | apply wS | apply wB); exact rfl)
        rw [List.length_map, List.length_map, xsF_len, xsF_len, wrap_i64 (n := ((splitF s).length : Int) + _) (by omega) (by omega), ids_lcs]
        refine ⟨g0, ?_⟩
        refine fin_same ?_
        unfold simN at hR
        rw [if_neg (by omega)] at hR
        have := per_cent (lcsS_all (splitF s) (splitF t)).1 (by omega)
        rw [Int.natCast_add] at this
        rw [this]
        exact hR
  refine filediff_Similarity.calls ?_
  rw [filediff_Similarity.b0_eq, condB_decide]
  refine ite_split (fun g => ?_) (fun g => ?_)
  · refine h5 true ⟨nofun, fun h => absurd h.1 (by omega)⟩
  · refine h5 _ ?_
    rw [decide_eq_false_iff_not]
    omega
theorem rSimilarity_spec (L : Laid w0.w) {s t : List UInt8} (hR : R (simD s t) σ) : SCalls (cx w0) selvageref25_Similarity.id [.pv (.str s), .pv (.str t)] σ R := by
  have h5 : ∀ q : Bool, (q = false ↔ (s.length ≤ 4194304 ∧ t.length ≤ 4194304)) → selvageref25_Similarity.n5 (selvageref25_Similarity.X w0 σ.length) w0 σ.length R σ s t q := by
    intro q hq
    refine selvageref25_Similarity.n5_in ?_
    rw [selvageref25_Similarity.b5_eq]
    refine condB_split (fun g => ?_) (fun g => ?_)
    · refine fin_same ?_
      unfold simD at hR
      rwa [if_neg (fun h => by rw [hq.2 h] at g; cases g)] at hR
    · obtain ⟨h1, h2⟩ := hq.1 g
      have l1 := splitF_len s
      have l2 := splitF_len t
      unfold simD at hR
      rw [if_pos ⟨h1, h2⟩] at hR
      refine rSplit_spec L (by omega) ?_
      refine rSplit_spec L (by omega) ?_
      repeat ((with_reducible first | apply opt_in | apply wI | apply wT | apply wP | apply wS | apply wB); exact rfl)
      rw [List.length_map, List.length_map, wrap_i64 (by omega) (by omega), condB_ibeq]
      refine ite_split (fun g0 => ?_) (fun g0 => ?_)
      · refine fin_same ?_
        unfold simN at hR
        rw [if_pos (by omega)] at hR
        exact hR
      · refine rIds_spec L (by omega) (by omega) (fun l hl => by have := splitF_mem hl; omega) (fun l hl => by have := splitF_mem hl; omega) ?_
        repeat ((with_reducible first | apply opt_in | apply wI | apply wT | apply wP | apply wS | apply wB); exact rfl)
        refine rCommon_spec L (by rw [xsF_len]; omega) (by rw [xsF_len]; omega) ?_
        repeat ((with_reducible first | apply opt_in | apply wI | apply wT | apply wP | apply wS | apply wB); exact rfl)
        rw [List.length_map, List.length_map, wrap_i64 (n := ((splitF s).length : Int) + _) (by omega) (by omega), ids_lcs]
        refine ⟨g0, ?_⟩
        refine fin_same ?_
        unfold simN at hR
        rw [if_neg (by omega)] at hR
        have := per_cent (lcsS_all (splitF s) (splitF t)).1 (by omega)
        rw [Int.natCast_add] at this
        rw [this]
        exact hR
  refine selvageref25_Similarity.calls ?_
  rw [selvageref25_Similarity.b0_eq, condB_decide]
  refine ite_split (fun g => ?_) (fun g => ?_)
  · refine h5 true ⟨nofun, fun h => absurd h.1 (by omega)⟩
  · refine h5 _ ?_
    rw [decide_eq_false_iff_not]
    omega
theorem fnum_nil (L : Laid w0.w) (hR : R (.pv (.int .i64 0)) σ) : SCalls (cx w0) selvagelaw25_num.id [.pv (.raw .nilIface)] σ R := by
  refine SCalls.alone L rfl (fun w1 L1 => ?_) rfl hR
  refine selvagelaw25_num.calls ?_
  rw [selvagelaw25_num.b0_eq, eql_raw]
  refine opt_in rfl (opt_in (v := true) rfl (isB_in ?_))
  refine condB_split (fun _ => ?_) (fun h => absurd h (by decide))
  exact fin_keep (Nat.zero_le _) rfl
theorem fnum_err (L : Laid w0.w) {n : Int} (hR : R (.pv (.int .i64 n)) σ) : SCalls (cx w0) selvagelaw25_num.id [.pv (.iface 42 (.int .i64 n))] σ R := by
  refine SCalls.alone L rfl (fun w1 L1 => ?_) rfl hR
  refine selvagelaw25_num.calls ?_
  rw [selvagelaw25_num.b0_eq, eql_raw]
  refine opt_in rfl (opt_in (v := false) rfl (isB_in ?_))
  refine condB_split (fun h => absurd h (by decide)) (fun _ => ?_)
  refine opt_in rfl ?_
  refine As_spec (id := 0) L1 rfl (isB_in ?_)
  refine condB_split (fun _ => ?_) (fun h => absurd h (by decide))
  refine opt_in (v := .pv (.int .i64 n)) rfl (isI_in ?_)
  exact fin_keep (Nat.zero_le _) rfl
end
end Go.Sv
end
section
namespace Go.Sv
open Go
structure Ent where
  p : Ln
  k : Int
  t : Ln
abbrev entP (e : Ent) : PV := .agg [.str e.p, .int .i64 e.k, .str e.t]
def fileB (e : Ent) : Bool := if e.k = 1 then !(e.t == []) else false
def likeM (x y : Ent) : Int := if fileB x = true ∧ fileB y = true then (simN x.t y.t : Int) else 0
structure Bst where
  b : Int
  x : Int
  y : Int
def stB (v : Nat → Nat → Int) (i k : Nat) (s : Bst) : Bst := if v i k > s.b then ⟨v i k, i, k⟩ else s
def inB (v : Nat → Nat → Int) (i : Nat) : Nat → Nat → Bst → Bst
  | 0, _, s => s
  | f + 1, k, s => inB v i f (k + 1) (stB v i k s)
def outB (v : Nat → Nat → Int) (m : Nat) : Nat → Nat → Bst → Bst
  | 0, _, s => s
  | f + 1, i, s => outB v m f (i + 1) (inB v i m 0 s)
def RelB (c : Int) (s t : Bst) : Prop := (s.b ≤ c ∧ t = ⟨c, -1, -1⟩) ∨ (s = t ∧ c < s.b)
theorem stB_rel {c : Int} {v : Nat → Nat → Int} {i k : Nat} {s t : Bst} (h : RelB c s t) : RelB c (stB v i k s) (stB v i k t) := by
  rcases h with ⟨h1, rfl⟩ | ⟨rfl, h2⟩
  · unfold stB
    by_cases g : v i k > c
    · rw [if_pos (by omega), if_pos (show v i k > c from g)]
      exact .inr ⟨rfl, g⟩
    · rw [if_neg (show ¬ v i k > c from g)]
      by_cases g2 : v i k > s.b
      · rw [if_pos g2]; exact .inl ⟨by show v i k ≤ c; omega, rfl⟩
      · rw [if_neg g2]; exact .inl ⟨h1, rfl⟩
  · refine .inr ⟨rfl, ?_⟩
    unfold stB
    split
    · rename_i g; show c < v i k; omega
    · exact h2
theorem inB_rel {c : Int} {v : Nat → Nat → Int} {i : Nat} : ∀ (f k : Nat) {s t : Bst}, RelB c s t → RelB c (inB v i f k s) (inB v i f k t)
  | 0, _, _, _, h => h
  | f + 1, k, _, _, h => inB_rel f (k + 1) (stB_rel h)
theorem outB_rel {c : Int} {v : Nat → Nat → Int} {m : Nat} : ∀ (f i : Nat) {s t : Bst}, RelB c s t → RelB c (outB v m f i s) (outB v m f i t)
  | 0, _, _, _, h => h
  | f + 1, i, _, _, h => outB_rel f (i + 1) (inB_rel m 0 h)
def OkB (v : Nat → Nat → Int) (n m : Nat) (s : Bst) : Prop := s.b = 0 ∨ ∃ i k : Nat, i < n ∧ k < m ∧ s = ⟨v i k, i, k⟩ ∧ 0 < v i k
theorem OkB.nonneg {v : Nat → Nat → Int} {n m : Nat} {s : Bst} (h : OkB v n m s) : 0 ≤ s.b := by
  rcases h with h | ⟨i, k, _, _, rfl, h⟩
  · omega
  · show 0 ≤ v i k; omega
theorem stB_ok {v : Nat → Nat → Int} {n m i k : Nat} (hi : i < n) (hk : k < m) {s : Bst} (h : OkB v n m s) : OkB v n m (stB v i k s) := by
  have h0 := h.nonneg
  unfold stB
  split
  · exact .inr ⟨i, k, hi, hk, rfl, by omega⟩
  · exact h
theorem inB_ok {v : Nat → Nat → Int} {n m i : Nat} (hi : i < n) : ∀ (f k : Nat), k + f = m → ∀ {s : Bst}, OkB v n m s → OkB v n m (inB v i f k s)
  | 0, _, _, _, h => h
  | f + 1, k, e, _, h => inB_ok hi f (k + 1) (by omega) (stB_ok hi (by omega) h)
theorem outB_ok {v : Nat → Nat → Int} {n m : Nat} : ∀ (f i : Nat), i + f = n → ∀ {s : Bst}, OkB v n m s → OkB v n m (outB v m f i s)
  | 0, _, _, _, h => h
  | f + 1, i, e, _, h => outB_ok f (i + 1) (by omega) (inB_ok (by omega) m 0 (Nat.zero_add _) h)
section
variable (gone come : List Ent) (least : Int)
def vF (to : List Int) (tk : List Bool) (i k : Nat) : Int := if to[i]? = some 0 ∧ tk[k]? = some false then (match gone[i]?, come[k]? with
  | some x, some y => likeM x y
  | _, _ => 0) else 0
def pickF (to : List Int) (tk : List Bool) : Bst := outB (vF gone come to tk) come.length gone.length 0 ⟨0, 0, 0⟩
def matchF : Nat → List Int → List Bool → List Int
  | 0, to, _ => to
  | f + 1, to, tk => if (pickF gone come to tk).b < least then to else matchF f (to.set (pickF gone come to tk).x.toNat ((pickF gone come to tk).y + 1)) (tk.set (pickF gone come to tk).y.toNat true)
end
variable {gone come : List Ent} {least : Int}
structure PickIs (gone come : List Ent) (to : List Int) (tk : List Bool) (s : Bst) (i k : Nat) (x y : Ent) : Prop where
  is : s = ⟨likeM x y, i, k⟩
  hi : gone[i]? = some x
  hk : come[k]? = some y
  free : to[i]? = some 0
  tk : tk[k]? = some false
theorem pick_is {to : List Int} {tk : List Bool} (h : 0 < (pickF gone come to tk).b) : ∃ i k x y, PickIs gone come to tk (pickF gone come to tk) i k x y := by
  rcases outB_ok (v := vF gone come to tk) (n := gone.length) (m := come.length) gone.length 0 (Nat.zero_add _) (s := ⟨0, 0, 0⟩) (.inl rfl) with e | ⟨i, k, _, _, e1, e2⟩
  · rw [pickF] at h; omega
  · change pickF gone come to tk = _ at e1
    have e3 := e2
    unfold vF at e3
    split at e3
    · rename_i hf
      split at e3
      · rename_i x y hx hy
        refine ⟨i, k, x, y, ⟨?_, hx, hy, hf.1, hf.2⟩⟩
        rw [e1]
        unfold vF
        rw [if_pos hf, hx, hy]
      · omega
    · omega
def zerosF (to : List Int) : Nat := to.count 0
theorem zeros_set : ∀ {to : List Int} {i : Nat} {t : Int}, to[i]? = some 0 → t ≠ 0 → zerosF (to.set i t) + 1 = zerosF to
  | [], i, t, h, _ => by simp at h
  | a :: r, 0, t, h, ht => by
    simp only [List.getElem?_cons_zero, Option.some.injEq] at h
    subst h
    unfold zerosF
    simp only [List.set_cons_zero, List.count_cons]
    simp [ht]
  | a :: r, i + 1, t, h, ht => by
    have ih := zeros_set (to := r) (i := i) (t := t) (by simpa using h) ht
    unfold zerosF at ih ⊢
    simp only [List.set_cons_succ, List.count_cons]
    omega
theorem zeros_le (to : List Int) : zerosF to ≤ to.length := List.count_le_length
def InTo (m : Nat) (to : List Int) : Prop := ∀ t ∈ to, t = 0 ∨ (1 ≤ t ∧ t ≤ (m : Int))
theorem InTo.set {m : Nat} {to : List Int} (h : InTo m to) {i : Nat} {k : Nat} (hk : k < m) : InTo m (to.set i ((k : Int) + 1)) := by
  intro t ht
  rcases List.mem_or_eq_of_mem_set ht with h1 | h1
  · exact h t h1
  · exact .inr (by omega)
structure Mv where
  a : Ln
  b : Ln
  n : Int
abbrev mvP (v : Mv) : PV := .agg [.str v.a, .str v.b, .int .i64 v.n]
def mvF (come : List Ent) (x : Ent) (t : Int) : List Mv := if t = 0 then [] else match come[(t - 1).toNat]? with
  | some y => [⟨x.p, y.p, likeM x y⟩]
  | none => []
def movF (come : List Ent) : List Ent → List Int → List Mv
  | x :: g, t :: r => mvF come x t ++ movF come g r
  | _, _ => []
theorem movF_len (come : List Ent) : ∀ (g : List Ent) (r : List Int), (movF come g r).length ≤ g.length
  | [], r => by simp [movF]
  | x :: g, [] => by simp [movF]
  | x :: g, t :: r => by
    have := movF_len come g r
    have h1 : (mvF come x t).length ≤ 1 := by
      unfold mvF
      split
      · exact Nat.zero_le _
      · split <;> simp
    simp only [movF, List.length_append, List.length_cons]
    omega
def pcA (come : List Ent) (x : Ent) (t : Int) : Int := if t = 0 then 0 else match come[(t - 1).toNat]? with
  | some y => likeM x y
  | none => 0
def pcF (come gone : List Ent) (to : List Int) : List Int := List.zipWith (pcA come) gone to
theorem pcF_len {to : List Int} (h : to.length = gone.length) : (pcF come gone to).length = gone.length := by unfold pcF; rw [List.length_zipWith]; omega
theorem pcF_get {to : List Int} {i : Nat} {x : Ent} {t : Int} (h1 : gone[i]? = some x) (h2 : to[i]? = some t) : (pcF come gone to)[i]? = some (pcA come x t) := by
  unfold pcF
  rw [List.getElem?_zipWith, h1, h2]
theorem pcF_first (n : Nat) (h : n = gone.length) : pcF come gone (List.replicate n 0) = List.replicate n 0 := by
  subst h
  refine ext_rows (n := gone.length) (pcF_len List.length_replicate) List.length_replicate fun j hj => ?_
  rw [pcF_get (List.getElem?_eq_getElem hj) (by rw [List.getElem?_replicate, if_pos hj]), List.getElem?_replicate, if_pos hj]
  rfl
theorem pcF_set {to : List Int} (h : to.length = gone.length) {i k : Nat} {x y : Ent} (h1 : gone[i]? = some x) (h2 : come[k]? = some y) : (pcF come gone to).set i (likeM x y) = pcF come gone (to.set i ((k : Int) + 1)) := by
  have hlt := (List.getElem?_eq_some_iff.1 h1).1
  refine ext_rows (n := gone.length) (by rw [List.length_set, pcF_len h]) (pcF_len (by rw [List.length_set]; exact h)) fun j hj => ?_
  by_cases e : j = i
  · subst e
    rw [List.getElem?_set_self (by rw [pcF_len h]; exact hj), pcF_get h1 (List.getElem?_set_self (by omega))]
    unfold pcA
    rw [if_neg (by omega), show ((k : Int) + 1 - 1).toNat = k by omega, h2]
  · have g1 : gone[j]? = some gone[j] := List.getElem?_eq_getElem hj
    have g2 : to[j]? = some (to[j]'(by omega)) := List.getElem?_eq_getElem _
    rw [List.getElem?_set_ne (fun h => e h.symm), pcF_get g1 g2, pcF_get g1 (by rw [List.getElem?_set_ne (fun h => e h.symm)]; exact g2)]
end Go.Sv
end
