/- Marks of what goes and comes, as plain rows: boxes that are left to do, from right to left. -/
import Derived.Test.YtimmjplgogpglaaDoorMyC
set_option linter.unusedVariables false
set_option linter.unusedSimpArgs false
namespace Go.Sv
structure Bx where
  a : List Int
  b : List Int
  x : Nat
  y : Nat
def trueN (l : List Bool) : Nat := l.count true
theorem trueN_set {l : List Bool} {j : Nat} (h : l[j]? = some false) : trueN (l.set j true) = trueN l + 1 := by
  induction l generalizing j with
  | nil => simp at h
  | cons c l ih =>
    cases j with
    | zero =>
      simp at h
      subst h
      simp [trueN]
    | succ j =>
      have := ih (j := j) (by simpa using h)
      unfold trueN at this ⊢
      rw [List.set_cons_succ, List.count_cons, List.count_cons, this]
      omega
def setN : List Bool → Nat → Nat → List Bool
  | l, _, 0 => l
  | l, x, k + 1 => (setN l x k).set (x + k) true
theorem setN_len (l : List Bool) (x : Nat) : ∀ k, (setN l x k).length = l.length
  | 0 => rfl
  | k + 1 => by rw [setN, List.length_set, setN_len l x k]
theorem setN_get {l : List Bool} {x i : Nat} : ∀ k, (i < x ∨ x + k ≤ i) → (setN l x k)[i]? = l[i]?
  | 0, _ => rfl
  | k + 1, h => by
    rw [setN, List.getElem?_set_ne (by omega)]
    exact setN_get k (by omega)
theorem setN_true {l : List Bool} {x : Nat} : ∀ k, (∀ i, x ≤ i → i < x + k → l[i]? = some false) → trueN (setN l x k) = trueN l + k
  | 0, _ => rfl
  | k + 1, h => by
    have ih := setN_true (l := l) (x := x) k (fun i h1 h2 => h i h1 (by omega))
    rw [setN, trueN_set (by rw [setN_get k (by omega)]; exact h (x + k) (by omega) (by omega)), ih]
    omega
structure Todo (a b : List Int) (G C : List Bool) (st : List Bx) : Prop where
  g : G.length = a.length
  c : C.length = b.length
  sum : trueN G + trueN C + (st.map (fun p => cntL p.a p.b)).sum = cntL a b
  inG : ∀ p ∈ st.head?, p.x + p.a.length ≤ a.length ∧ ∀ i, i < p.x + p.a.length → G[i]? = some false
  inC : ∀ p ∈ st.head?, p.y + p.b.length ≤ b.length ∧ ∀ i, i < p.y + p.b.length → C[i]? = some false
  ord : st.Pairwise (fun p q => q.x + q.a.length ≤ p.x ∧ q.y + q.b.length ≤ p.y)
theorem todo_first (a b : List Int) : Todo a b (List.replicate a.length false) (List.replicate b.length false) [⟨a, b, 0, 0⟩] := by
  refine ⟨by simp, by simp, ?_, ?_, ?_, by simp⟩
  · have h : ∀ n, trueN (List.replicate n false) = 0 := fun n => by
      unfold trueN
      rw [List.count_replicate]
      rfl
    rw [h, h]; simp
  · intro p hp
    simp only [List.head?_cons, Option.mem_some_iff] at hp
    subst hp
    refine ⟨by simp, fun i hi => ?_⟩
    rw [List.getElem?_replicate, if_pos (by simpa using hi)]
  · intro p hp
    simp only [List.head?_cons, Option.mem_some_iff] at hp
    subst hp
    refine ⟨by simp, fun i hi => ?_⟩
    rw [List.getElem?_replicate, if_pos (by simpa using hi)]
theorem head_mem {st : List Bx} {q : Bx} (h : q ∈ st.head?) : q ∈ st := List.mem_of_mem_head? h
theorem Todo.mark {a b : List Int} {G C : List Bool} {st : List Bx} {p : Bx} (t : Todo a b G C (p :: st)) (he : p.a = [] ∨ p.b = []) : Todo a b (setN G p.x p.a.length) (setN C p.y p.b.length) st := by
  obtain ⟨g1, g2⟩ := t.inG p rfl
  obtain ⟨c1, c2⟩ := t.inC p rfl
  have ho := List.pairwise_cons.1 t.ord
  have hs := t.sum
  simp only [List.map_cons, List.sum_cons] at hs
  have hc : cntL p.a p.b = p.a.length + p.b.length := by
    rcases he with e | e
    · rw [e, cnt_nil]; simp
    · rw [e, cnt_nil2]; simp
  refine ⟨by rw [setN_len]; exact t.g, by rw [setN_len]; exact t.c, ?_, ?_, ?_, ho.2⟩
  · rw [setN_true _ (fun i h1 h2 => g2 i h2), setN_true _ (fun i h1 h2 => c2 i h2)]
    omega
  · intro q hq
    obtain ⟨o1, o2⟩ := ho.1 q (head_mem hq)
    exact ⟨by omega, fun i hi => by rw [setN_get _ (by omega)]; exact g2 i (by omega)⟩
  · intro q hq
    obtain ⟨o1, o2⟩ := ho.1 q (head_mem hq)
    exact ⟨by omega, fun i hi => by rw [setN_get _ (by omega)]; exact c2 i (by omega)⟩
theorem Todo.trim {a b : List Int} {G C : List Bool} {st : List Bx} {p p' : Bx} {i : Nat} (t : Todo a b G C (p :: st)) (hc : cntL p'.a p'.b = cntL p.a p.b) (hx : p'.x = p.x + i) (hy : p'.y = p.y + i) (hla : i + p'.a.length ≤ p.a.length) (hlb : i + p'.b.length ≤ p.b.length) : Todo a b G C (p' :: st) := by
  obtain ⟨g1, g2⟩ := t.inG p rfl
  obtain ⟨c1, c2⟩ := t.inC p rfl
  have ho := List.pairwise_cons.1 t.ord
  have hs := t.sum
  simp only [List.map_cons, List.sum_cons] at hs
  refine ⟨t.g, t.c, by simp only [List.map_cons, List.sum_cons]; omega, ?_, ?_, List.pairwise_cons.2 ⟨fun q hq => ?_, ho.2⟩⟩
  · intro q hq
    simp only [List.head?_cons, Option.mem_some_iff] at hq
    subst hq
    exact ⟨by omega, fun j hj => g2 j (by omega)⟩
  · intro q hq
    simp only [List.head?_cons, Option.mem_some_iff] at hq
    subst hq
    exact ⟨by omega, fun j hj => c2 j (by omega)⟩
  · have := ho.1 q hq
    omega
theorem Todo.split {a b : List Int} {G C : List Bool} {st : List Bx} {p : Bx} {s u x v : Nat} (t : Todo a b G C (p :: st)) (h1 : s ≤ x) (h2 : u ≤ v) (h3 : x ≤ p.a.length) (h4 : v ≤ p.b.length)
    (hc : cntL p.a p.b = cntL (p.a.take s) (p.b.take u) + cntL (p.a.drop x) (p.b.drop v)) : Todo a b G C (⟨p.a.drop x, p.b.drop v, p.x + x, p.y + v⟩ :: ⟨p.a.take s, p.b.take u, p.x, p.y⟩ :: st) := by
  obtain ⟨g1, g2⟩ := t.inG p rfl
  obtain ⟨c1, c2⟩ := t.inC p rfl
  have ho := List.pairwise_cons.1 t.ord
  have hs := t.sum
  simp only [List.map_cons, List.sum_cons] at hs
  have l1 : (p.a.take s).length ≤ s := by rw [List.length_take]; omega
  have l2 : (p.b.take u).length ≤ u := by rw [List.length_take]; omega
  refine ⟨t.g, t.c, by simp only [List.map_cons, List.sum_cons]; omega, ?_, ?_, List.pairwise_cons.2 ⟨fun q hq => ?_, List.pairwise_cons.2 ⟨fun q hq => ?_, ho.2⟩⟩⟩
  · intro q hq
    simp only [List.head?_cons, Option.mem_some_iff] at hq
    subst hq
    simp only [List.length_drop]
    exact ⟨by omega, fun j hj => g2 j (by omega)⟩
  · intro q hq
    simp only [List.head?_cons, Option.mem_some_iff] at hq
    subst hq
    simp only [List.length_drop]
    exact ⟨by omega, fun j hj => c2 j (by omega)⟩
  · rcases List.mem_cons.1 hq with rfl | hq
    · simp only; omega
    · have := ho.1 q hq
      simp only; omega
  · have := ho.1 q hq
    simp only; omega
def fuelB (p : Bx) : Nat := if p.a.length + p.b.length = 0 then 1 else 2 * (p.a.length + p.b.length) - 1
def fuelS (st : List Bx) : Nat := (st.map fuelB).sum
end Go.Sv
