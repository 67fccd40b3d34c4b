/- What it is for a world to bear a store, a value of the model to stand for an abstract one; a call and a piece of code over stores; the executor. No program stands in this text. -/
import Derived.Test.YthkedonibhajbaaDoorSvA
set_option linter.unusedVariables false
set_option linter.unusedSimpArgs false
namespace Go.Sv
open Go Go.RowKit

inductive Loc where
  | at (b cap es : Nat)
  | nil
abbrev Mp := Nat → Nat → Option Loc
abbrev KS := Nat → Nat → Value → Prop

/-- A value of the model stands for a value without references, over cells that stay. -/
inductive PRep (K : KS) : PV → Value → Prop
  | int (k : IntKind) (n : Int) : PRep K (.int k n) (.int k n)
  | bool (b : Bool) : PRep K (.bool b) (.bool b)
  | str (s : List UInt8) : PRep K (.str s) (.string ⟨s.toArray⟩)
  | raw (v : Value) (h : v.oneCell' = true) : PRep K (.raw v) v
  | slNil (a : Option Addr) (c : Nat) : PRep K (.sl []) (.slice a 0 c)
  | sl (xs : List PV) (es b o c : Nat) (vs : List Value) (hc : xs.length ≤ c) (he : ∀ x ∈ xs, x.cells.length = es) (hl : (flat xs).length = vs.length)
      (hr : ∀ (j : Nat) p v, (flat xs)[j]? = some p → vs[j]? = some v → PRep K p v) (hk : ∀ (j : Nat) (v : Value), vs[j]? = some v → K b (o + j) v) :
      PRep K (.sl xs) (.slice (some ⟨b, o, none⟩) xs.length c)
  | agg (cs : List PV) (vs : Array Value) (hl : cs.length = vs.size) (hr : ∀ (j : Nat) p v, cs[j]? = some p → vs[j]? = some v → PRep K p v)
      (h1 : ∀ (j : Nat) (v : Value), vs[j]? = some v → v.oneCell' = true) : PRep K (.agg cs) (.agg vs)
  | iface (t : TypeId) (p : PV) (v : Value) (h : PRep K p v) : PRep K (.iface t p) (.iface t v)

inductive ARep (m : Mp) (K : KS) : AV → Value → Prop
  | pv (p : PV) (v : Value) (h : PRep K p v) : ARep m K (.pv p) v
  | nilsl : ARep m K .nilsl (.slice none 0 0)
  | ptr (id off b cap es : Nat) (h : m id 0 = some (.at b cap es)) : ARep m K (.ptr id off) (.pointer (some ⟨b, off, none⟩))
  | eptr (id ver i off b cap es : Nat) (h : m id ver = some (.at b cap es)) (hi : i < ver) : ARep m K (.eptr id ver i off) (.pointer (some ⟨b, i * es + off, none⟩))
  | ro (p : PV) (off b o : Nat) (vs : List Value) (hl : p.cells.length = vs.length) (hr : ∀ (j : Nat) q v, p.cells[j]? = some q → vs[j]? = some v → PRep K q v)
      (hk : ∀ (j : Nat) (v : Value), vs[j]? = some v → K b (o + j) v) : ARep m K (.ro p off) (.pointer (some ⟨b, o + off, none⟩))
  | arr (id ver off len b cap es c : Nat) (a : Option Addr) (h : m id ver = some (.at b cap es)) (hc : c + off = cap) (hl : off + len ≤ ver) (hv : ver ≤ cap)
      (ha : c = 0 ∨ a = some ⟨b, off * es, none⟩) : ARep m K (.arr id ver off len) (.slice a len c)
  | arrNil (id : Nat) (h : m id 0 = some .nil) : ARep m K (.arr id 0 0 0) (.slice none 0 0)
  | agg (cs : List AV) (vs : Array Value) (hl : cs.length = vs.size) (hr : ∀ (j : Nat) p v, cs[j]? = some p → vs[j]? = some v → ARep m K p v)
      (h1 : ∀ (j : Nat) (v : Value), vs[j]? = some v → v.oneCell' = true) : ARep m K (.agg cs) (.agg vs)
  | tup (cs : List AV) (vs : Array Value) (hl : cs.length = vs.size) (hr : ∀ (j : Nat) p v, cs[j]? = some p → vs[j]? = some v → ARep m K p v) : ARep m K (.tup cs) (.tuple vs)
  | iface (t : TypeId) (p : AV) (v : Value) (h : ARep m K p v) : ARep m K (.iface t p) (.iface t v)
  | func (fn : Fn) (as bs : List AV) (us vs : Array Value) (hl : as.length = us.size) (hr : ∀ (j : Nat) p v, as[j]? = some p → us[j]? = some v → ARep m K p v)
      (hl' : bs.length = vs.size) (hr' : ∀ (j : Nat) p v, bs[j]? = some p → vs[j]? = some v → ARep m K p v) : ARep m K (.func fn as bs) (.func fn us vs)
  | dead (v : Value) : ARep m K .dead v

def Reps (m : Mp) (K : KS) (as : List AV) (vs : Array Value) : Prop :=
  as.length = vs.size ∧ ∀ (j : Nat) a v, as[j]? = some a → vs[j]? = some v → ARep m K a v

def Loc.blk : Option Loc → List Nat
  | some (.at b _ _) => [b]
  | _ => []
def blk (m : Mp) (id : Nat) : SObj → List Nat
  | .cells _ _ => Loc.blk (m id 0)
  | .arr _ xs _ => Loc.blk (m id xs.length)
  | .bld _ _ s => Loc.blk (m id 0) ++ Loc.blk (m id (s.length + 1))
  | .gone => []

def OInv (m : Mp) (K : KS) (w : World) (id : Nat) : SObj → Prop
  | .cells ty cs => ∃ b cap es arr, m id 0 = some (.at b cap es) ∧ w.heap[b]? = some (.cells arr ty (0, 0)) ∧ cs.length = arr.size ∧
      (∀ (j : Nat) a v, cs[j]? = some a → arr[j]? = some v → ARep m K a v ∧ v.oneCell' = true) ∧ ∀ o v, ¬ K b o v
  | .arr es xs fz => (∀ ver l, m id ver = some l → ver ≤ xs.length) ∧ ((xs = [] ∧ m id 0 = some .nil) ∨ ∃ b cap arr ty fr, m id xs.length = some (.at b cap es) ∧ w.heap[b]? = some (.cells arr ty fr) ∧
      xs.length ≤ cap ∧ cap ≤ maxLen ∧ arr.size = cap * es ∧ (∀ x ∈ xs, x.cells.length = es) ∧
      (∀ (j : Nat) p v, (flat xs)[j]? = some p → arr[j]? = some v → PRep K p v ∧ v.oneCell' = true) ∧
      (∀ j, (if fz then xs.length * es else 0) ≤ j → j < cap * es → ¬ (fr.1 ≤ j ∧ j < fr.2)) ∧
      (∀ (j : Nat) (v : Value), K b j v → fz = true ∧ j < xs.length * es))
  | .bld ty el s => ∃ b cap es p v, m id 0 = some (.at b cap es) ∧ w.heap[b]? = some (.cells #[p, v] ty (0, 0)) ∧ (p = .pointer none ∨ p = .pointer (some ⟨b, 0, none⟩)) ∧ (∀ o v, ¬ K b o v) ∧
      (∀ ver l, m id ver = some l → ver ≤ s.length + 1) ∧
      ((s = [] ∧ m id 1 = some .nil ∧ v = .slice none 0 0) ∨ ∃ b2 cap arr fr, m id (s.length + 1) = some (.at b2 cap 1) ∧ b2 ≠ b ∧ v = .slice (some ⟨b2, 0, none⟩) s.length cap ∧ w.heap[b2]? = some (.cells arr el fr) ∧
        s.length ≤ cap ∧ cap ≤ maxLen ∧ arr.size = cap ∧ (∀ (j : Nat) c, s[j]? = some c → arr[j]? = some (.int .u8 (c.toNat : Int))) ∧
        fr.2 ≤ s.length ∧ ∀ o v, ¬ K b2 o v)
  | .gone => True

structure Bears (C : Ctx) (m : Mp) (K : KS) (σ : Store) (w : World) : Prop where
  below : Below C.w0.heap.size C.w0 w
  keep : ∀ b o v, K b o v → w.cell? ⟨b, o, none⟩ = some v ∧ v.oneCell' = true
  dom : ∀ id ver l, m id ver = some l → id < σ.length
  obj : ∀ (id : Nat) x, σ[id]? = some x → OInv m K w id x
  base : ∀ (id : Nat) x b, σ[id]? = some x → b ∈ blk m id x → C.w0.heap.size ≤ b
  apart : ∀ (id : Nat) x (id' : Nat) x' b, σ[id]? = some x → σ[id']? = some x' → b ∈ blk m id x → b ∈ blk m id' x' → id = id'
  glob : ∀ g a, C.glob g = some a → ARep m K a (.pointer (some ⟨g, 0, none⟩))
  old : ∀ b o v, K b o v → C.K0 b o v ∨ C.w0.heap.size ≤ b

def Le (n : Nat) (m : Mp) (K : KS) (m' : Mp) (K' : KS) : Prop :=
  (∀ id ver l, id < n → m id ver = some l → m' id ver = some l) ∧ ∀ b o v, K b o v → K' b o v

/-- What a frame's slots are known to hold. -/
def EReps (m : Mp) (K : KS) (env : Env) (vs : Array Value) : Prop := ∀ t, ARep m K (getE env t) (vs.getD t undef)

/-- What a call comes to, whether the function has a body or is the model's own. -/
def CallNext (P : Program) (f : FuncId) (args : Array Value) (w : World) (R : Value → World → Prop) : Prop :=
  match (callFunc f args).run P w with
  | .ok (.value v) w' => R v w'
  | .ok (.enter g as) w' => Calls P g as w' fun e w'' => ∃ v, e = .returned v ∧ R v w''
  | .ok (.row r as) w' => Rows P r as w' R
  | _ => False
/-- A call over stores. -/
def SCalls (C : Ctx) (f : FuncId) (args : List AV) (σ : Store) (R : AV → Store → Prop) : Prop :=
  ∀ m K w vs, Bears C m K σ w → Reps m K args vs → CallNext C.P f vs w fun v w' => ∃ r m' K' σ',
    Bears C m' K' σ' w' ∧ σ.length ≤ σ'.length ∧ Le σ.length m K m' K' ∧ ARep m' K' r v ∧ R r σ'

/-- What code comes to, over stores: 'n': how many objects were there when the function was entered; 'N': how many slots the frame has. -/
def SPost (C : Ctx) (N n : Nat) (m : Mp) (K : KS) (Q : Exit → Env → Store → Prop) (e : Exit) (a : Act) (w : World) : Prop :=
  ∃ env σ m' K', Bears C m' K' σ w ∧ n ≤ σ.length ∧ a.tmps.size = N ∧ EReps m' K' env a.tmps ∧ a.defers = [] ∧ Le n m K m' K' ∧ Q e env σ
/-- A piece of code over stores. -/
def Swp (C : Ctx) (N n : Nat) (c : Code) (env : Env) (σ : Store) (Q : Exit → Env → Store → Prop) : Prop :=
  ∀ m K w a, Bears C m K σ w → n ≤ σ.length → a.tmps.size = N → EReps m K env a.tmps → a.defers = [] → c.wp C.P (SPost C N n m K Q) a w

/-! ### The executor -/
def isGuard : List Oper → Nat → Bool
  | [], _ => false
  | o :: r, i => match o.guard with
    | some (j, _) => match Nat.beq j i with
      | true => true
      | false => isGuard r i
    | none => isGuard r i
/-- A value that a guard of the same region looks at is parted. -/
def splitB (needed : Bool) (v : AV) (k : AV → Prop) : Prop := match needed with
  | false => k v
  | true => isB v fun b => condB b (k (.pv (.bool true))) (k (.pv (.bool false)))
def calleeV (f : AV) (args : List AV) : Option (FuncId × List AV) := match f with
  | .pv (.raw (.func (.func g) x y)) => match Nat.beq x.size 0, Nat.beq y.size 0 with
    | true, true => some (g, args)
    | _, _ => none
  | .func (.func g) first captured => some (g, first ++ (args ++ captured))
  | _ => none
def calleeOf (C : Ctx) (e : Operand → AV) (o : Oper) : Option (FuncId × List AV) :=
  match o.op with
  | .call { callee := .value f, args, .. } => calleeV (e f) (args.toList.map e)
  | _ => none
def isCall (o : Oper) : Bool :=
  match o.op with
  | .call { callee := .value _, .. } => true
  | _ => false
def wantedA (ops : List Oper) (env : Env) (o : Oper) : Option Bool :=
  match o.guard with
  | none => some true
  | some (j, want) => match ops[j]? with
    | some oj => match oj.dst with
      | some d => match getE env d with
        | .pv (.bool b) => match b, want with
          | true, true => some true
          | false, false => some true
          | _, _ => some false
        | .tup [] => some false
        | _ => none
      | none => none
    | none => none
def putK (N : Nat) (env : Env) (dst : Option Tmp) (v : AV) (k : Env → Prop) : Prop := match dst with
  | none => k env
  | some d => match Nat.ble (d + 1) N with
    | true => k (putE env d v)
    | false => False
/-- The type by which an operation's value is shaped: a tuple's parts are shaped where they are taken out. -/
def tdOf (C : Ctx) (o : Oper) : TD := match o.dst with
  | none => .other
  | some _ => match C.tab o.type with
    | some ti => ti.td
    | none => .other
def opK (C : Ctx) (o : Oper) (e : Operand → AV) (σ : Store) (k : AV → Store → Prop) : Prop :=
  match isCall o with
  | true => opt (calleeOf C e o) fun p => SCalls C p.1 p.2 σ k
  | false => aopK C o e σ k
def pop (C : Ctx) (N : Nat) (ops : List Oper) (i : Nat) (o : Oper) (env : Env) (σ : Store) (k : Env → Store → Prop) : Prop :=
  opK C o (ev C env) σ fun v σ' => shaped (tdOf C o) v fun v => splitB (isGuard ops i) v fun v => putK N env o.dst v fun env => k env σ'
def pops (C : Ctx) (N : Nat) (ops : List Oper) : List Oper → Nat → Env → Store → (Env → Store → Prop) → Prop
  | [], _, env, σ, k => k env σ
  | o :: r, i, env, σ, k => match wantedA ops env o with
    | some true => pop C N ops i o env σ fun env σ => pops C N ops r (i + 1) env σ k
    | some false => putK N env o.dst (.tup []) fun env => pops C N ops r (i + 1) env σ k
    | none => False

/-! ### Regions that draw their order -/
def convKind : TD → Nat
  | .slice _ => 3
  | .str => 1
  | _ => 0
/-- 0: it looks at its operands alone; 1: it reads the store too, and leaves it; 2: it lays a variable; 3: whatever else. -/
def opKind (C : Ctx) (o : Oper) : Nat := match o.op with
  | .move _ | .pick .. | .build .. | .nilCheck _ | .binOp .. | .unOp .. | .makeInterface .. | .makeFunc .. | .fieldAddr .. | .field .. | .index .. | .typeAssert .. | .extract .. => 0
  | .call { callee := .builtin .len, .. } | .call { callee := .builtin .min, .. } | .call { callee := .builtin .max, .. } => 0
  | .load .. | .slice .. | .indexAddr .. => 1
  | .convert _ dst _ => match C.tab dst with
    | some ti => convKind ti.td
    | none => 3
  | .alloc _ | .box .. => 2
  | _ => 3
/-- The temporaries that an operation's operands name. -/
def tmpOf : Operand → List Nat
  | .tmp t => [t]
  | _ => []
def tmpsOf : List Operand → List Nat
  | [] => []
  | x :: r => tmpOf x ++ tmpsOf r
def optTmps : Option Operand → List Nat
  | some x => tmpOf x
  | none => []
def opTmps : Op → List Nat
  | .move x | .assign x | .nilCheck x => tmpOf x
  | .pick c a b => tmpOf c ++ (tmpOf a ++ tmpOf b)
  | .box _ x => tmpOf x
  | .build _ ps | .buildSlice _ _ ps => tmpsOf (ps.toList.map (·.2))
  | .load _ a => tmpOf a
  | .store _ a x => tmpOf a ++ tmpOf x
  | .binOp _ _ x y _ => tmpOf x ++ tmpOf y
  | .unOp _ _ x => tmpOf x
  | .convert _ _ x => tmpOf x
  | .makeInterface _ x => tmpOf x
  | .makeFunc _ as bs => tmpsOf as.toList ++ tmpsOf bs.toList
  | .makeSlice _ l c => tmpOf l ++ tmpOf c
  | .slice _ x lo hi _ => tmpOf x ++ (optTmps lo ++ optTmps hi)
  | .fieldAddr _ x _ | .field _ x _ => tmpOf x
  | .indexAddr _ x i | .index _ x i => tmpOf x ++ tmpOf i
  | .typeAssert x _ _ _ => tmpOf x
  | .extract t _ => tmpOf t
  | .call { callee := .value f, args, .. } => tmpOf f ++ tmpsOf args.toList
  | .call { args, .. } => tmpsOf args.toList
  | _ => []
def bindsAny (e : Edge) : Bool := match e.ground with
  | .textOnly _ => false
  | .gcOnly _ => false
  | _ => true
def nthN : List Nat → Nat → Nat
  | [], _ => 0
  | x :: _, 0 => x
  | _ :: r, k + 1 => nthN r k
/-- What must stand ahead of an operation, in bits; none if it hangs on one that stands behind it. -/
def befOf (acc : List Nat) (i : Nat) : List Edge → Option Nat
  | [] => some 0
  | e :: r => match bindsAny e with
    | false => befOf acc i r
    | true => match Nat.ble (e.on + 1) i with
      | true => match befOf acc i r with
        | some s => some (Nat.lor (Nat.lor s (Nat.pow 2 e.on)) (nthN acc e.on))
        | none => none
      | false => none
def befs (i : Nat) : List Oper → List Nat → Option (List Nat)
  | [], acc => some acc
  | o :: r, acc => match befOf acc i o.after.toList with
    | some s => befs (i + 1) r (acc ++ [s])
    | none => none
def hasBit (m i : Nat) : Bool := Nat.beq (Nat.land (Nat.shiftRight m i) 1) 1
def guardTmp (ops : List Oper) (o : Oper) : List Nat := match o.guard with
  | none => []
  | some (j, _) => match ops[j]? with
    | some oj => match oj.dst with
      | some d => [d]
      | none => []
    | none => []
def looks (ops : List Oper) (o : Oper) : List Nat := opTmps o.op ++ guardTmp ops o
/-- Of one operation 'o' (with what stands ahead of it) and another one, number j: what 'o' looks at is not written by the other, unless that stands ahead; they write different slots; what counts stands ahead or behind. -/
def pairOK (C : Ctx) (ops : List Oper) (i : Nat) (o : Oper) (bi : Nat) (j : Nat) (p : Oper) (bj : Nat) : Bool :=
  match Nat.beq i j with
  | true => match o.dst with
    | some d => !memN d (looks ops o)
    | none => true
  | false =>
    (match p.dst with
      | some d => (hasBit bi j || !memN d (looks ops o) || (hasBit bj i && Nat.beq (opKind C p) 3)) && (match o.dst with
        | some d' => !Nat.beq d d'
        | none => true)
      | none => true) &&
    (match Nat.beq (opKind C o) 3, Nat.beq (opKind C p) 0 || Nat.beq (opKind C p) 1 with
      | true, false => hasBit bi j || hasBit bj i
      | _, _ => true)
def rowOK (C : Ctx) (ops : List Oper) (i : Nat) (o : Oper) (bi : Nat) : Nat → List Oper → List Nat → Bool
  | j, p :: r, bj :: br => pairOK C ops i o bi j p bj && rowOK C ops i o bi (j + 1) r br
  | _, _, _ => true
def rowsOK (C : Ctx) (ops : List Oper) (bs : List Nat) : Nat → List Oper → List Nat → Bool
  | i, o :: r, bi :: br => rowOK C ops i o bi 0 ops bs && rowsOK C ops bs (i + 1) r br
  | _, _, _ => true
def noSel : List Oper → Bool
  | [] => true
  | o :: r => match o.op with
    | .select .. => false
    | _ => noSel r
/-- The loud operations, in bits. -/
def loudBits (C : Ctx) : Nat → List Oper → Nat
  | _, [] => 0
  | i, o :: r => match Nat.beq (opKind C o) 3 with
    | true => Nat.lor (Nat.pow 2 i) (loudBits C (i + 1) r)
    | false => loudBits C (i + 1) r
/-- The quiet operations that come next: not done yet, and every loud one ahead of them is done. -/
def nextQuiet (C : Ctx) (loud done : Nat) : Nat → List Oper → List Nat → List (Nat × Oper)
  | i, o :: r, b :: br => match !hasBit done i && !Nat.beq (opKind C o) 3 && Nat.beq (Nat.land (Nat.land b loud) done) (Nat.land b loud) with
    | true => (i, o) :: nextQuiet C loud done (i + 1) r br
    | false => nextQuiet C loud done (i + 1) r br
  | _, _, _ => []
def nextLoud (C : Ctx) (done : Nat) : Nat → List Oper → List Nat → Option (Nat × Oper × Nat)
  | i, o :: r, b :: br => match !hasBit done i && Nat.beq (opKind C o) 3 with
    | true => some (i, o, b)
    | false => nextLoud C done (i + 1) r br
  | _, _, _ => none
def bitsOf : List (Nat × Oper) → Nat
  | [] => 0
  | (i, _) :: r => Nat.lor (Nat.pow 2 i) (bitsOf r)
/-- What was read and need not stand ahead of a loud operation is read behind it as well. -/
def stays (C : Ctx) (ops : List Oper) (b done : Nat) (env : Env) (σ : Store) : Nat → List Oper → Prop → Prop
  | _, [], k => k
  | i, o :: r, k => match hasBit done i && Nat.beq (opKind C o) 1 && !hasBit b i with
    | true => (match wantedA ops env o with
      | some true => aopK C o (ev C env) σ fun v _ => match o.dst with
        | some d => v = getE env d
        | none => True
      | _ => True) ∧ stays C ops b done env σ (i + 1) r k
    | false => stays C ops b done env σ (i + 1) r k
def allocObj (C : Ctx) (o : Oper) (e : Operand → AV) : Option SObj := match o.op with
  | .alloc t => match C.tab t with
    | some ti => some (newObj C t ti)
    | none => none
  | .box t x => match (e x).cells.all AV.one with
    | true => some (.cells t (e x).cells)
    | false => none
  | _ => none
def appS (σ S : Store) : Store := match S with
  | [] => σ
  | _ => σ ++ S
def pquiet (C : Ctx) (N : Nat) (ops : List Oper) (σ : Store) : List (Nat × Oper) → Env → List SObj → (Env → List SObj → Prop) → Prop
  | [], env, S, k => k env S
  | (i, o) :: r, env, S, k => match wantedA ops env o with
    | some true => match Nat.beq (opKind C o) 2 with
      | true => match o.guard with
        | none => opt (allocObj C o (ev C env)) fun ob => putK N env o.dst (.ptr (σ.length + S.length) 0) fun env => pquiet C N ops σ r env (S ++ [ob]) k
        | some _ => False
      | false => aopK C o (ev C env) σ fun v _ => shaped (tdOf C o) v fun v => splitB (isGuard ops i) v fun v => putK N env o.dst v fun env => pquiet C N ops σ r env S k
    | some false => putK N env o.dst (.tup []) fun env => pquiet C N ops σ r env S k
    | none => False
/-- A loud operation behind which the reads that are beside it stay. -/
def ploud (C : Ctx) (N : Nat) (ops : List Oper) (i : Nat) (o : Oper) (b done : Nat) (env : Env) (σ : Store) (k : Env → Store → Prop) : Prop :=
  match wantedA ops env o with
  | some true => pop C N ops i o env σ fun env σ => stays C ops b done env σ 0 ops (k env σ)
  | some false => putK N env o.dst (.tup []) fun env => k env σ
  | none => False
def prounds (C : Ctx) (N : Nat) (ops : List Oper) (bs : List Nat) (loud : Nat) : Nat → Nat → Env → Store → (Env → Store → Prop) → Prop
  | 0, _, _, _, _ => False
  | fuel + 1, done, env, σ, k =>
    pquiet C N ops σ (nextQuiet C loud done 0 ops bs) env [] fun env S =>
      match nextLoud C done 0 ops bs with
      | none => k env (appS σ S)
      | some (i, o, b) => ploud C N ops i o b (Nat.lor done (bitsOf (nextQuiet C loud done 0 ops bs))) env (appS σ S) fun env σ =>
          prounds C N ops bs loud fuel (Nat.lor (Nat.lor done (bitsOf (nextQuiet C loud done 0 ops bs))) (Nat.pow 2 i)) env σ k
def pdraw (C : Ctx) (N : Nat) (ops : List Oper) (env : Env) (σ : Store) (k : Env → Store → Prop) : Prop :=
  match befs 0 ops [] with
  | some bs => match noSel ops && rowsOK C ops bs 0 ops bs with
    | true => prounds C N ops bs (loudBits C 0 ops) (ops.length + 1) 0 env σ k
    | false => False
  | none => False

/-! ### Code -/
/-- A loop at the beginning of a round. -/
def loopAt (P : Program) (c : Code) (Q : Exit → Act → World → Prop) (a : Act) (w : World) : Prop :=
  ∀ (b : Frame) (k : List Item) (cs : List Frame), ∃ e a' w', Q e a' w' ∧ Arrives P (lone (b.at a (.code c :: .inLoop c :: k)) cs w) b k cs e a' w'
def SLoop (C : Ctx) (N n : Nat) (c : Code) (env : Env) (σ : Store) (Q : Exit → Env → Store → Prop) : Prop :=
  ∀ m K w a, Bears C m K σ w → n ≤ σ.length → a.tmps.size = N → EReps m K env a.tmps → a.defers = [] → loopAt C.P c (SPost C N n m K Q) a w
def thenQ (k : Env → Store → Prop) (Q : Exit → Env → Store → Prop) : Exit → Env → Store → Prop
  | .normal, env, σ => k env σ
  | e, env, σ => Q e env σ
def blockQ (id : Nat) (Q : Exit → Env → Store → Prop) : Exit → Env → Store → Prop
  | .exit j, env, σ => match Nat.beq j id with
    | true => Q .normal env σ
    | false => Q (.exit j) env σ
  | e, env, σ => Q e env σ
def csize : Code → Nat
  | .seq a b => csize a + csize b + 1
  | .cond _ a b => csize a + csize b + 1
  | .block _ c => csize c + 1
  | .loop c => csize c + 1
  | .scope c => csize c + 1
  | _ => 1
/-- The piece of code with this number: pieces are numbered as they stand. -/
def cAt : Code → Nat → Code
  | c, 0 => c
  | .seq a b, k + 1 => match Nat.ble (k + 1) (csize a) with
    | true => cAt a k
    | false => cAt b (k - csize a)
  | .cond _ a b, k + 1 => match Nat.ble (k + 1) (csize a) with
    | true => cAt a k
    | false => cAt b (k - csize a)
  | .block _ c, k + 1 => cAt c k
  | .loop c, k + 1 => cAt c k
  | .scope c, k + 1 => cAt c k
  | c, _ => c
/-- 'N': the frame's slots; 'L': which slots are kept at which piece. -/
def pcode (C : Ctx) (N : Nat) (L : Nat → List Nat) (n : Nat) : Code → Nat → Env → Store → (Exit → Env → Store → Prop) → Prop
  | .skip, _, env, σ, Q => Q .normal env σ
  | .label _, _, env, σ, Q => Q .normal env σ
  | .region _ ops draw, _, env, σ, Q => match draw with
    | true => pdraw C N ops.toList env σ (Q .normal)
    | false => pops C N ops.toList ops.toList 0 env σ (Q .normal)
  | .seq a b, k, env, σ, Q => pcode C N L n a (k + 1) env σ (thenQ (fun env σ => pcode C N L n b (k + 1 + csize a) (prune (L (k + 1 + csize a)) env) σ Q) Q)
  | .cond c t f, k, env, σ, Q => isB (ev C env c) fun b => condB b (pcode C N L n t (k + 1) env σ Q) (pcode C N L n f (k + 1 + csize t) env σ Q)
  | .block id c, k, env, σ, Q => pcode C N L n c (k + 1) env σ (blockQ id Q)
  | .loop c, k, env, σ, Q => SLoop C N n c (prune (L k) env) σ Q
  | .exit id, _, env, σ, Q => Q (.exit id) env σ
  | .ret, _, env, σ, Q => Q .ret env σ
  | _, _, _, _, _ => False

/-! ### A call's end -/
/-- What is known of a value and a store may be forgotten in part: what the end of a call tells. -/
def Weak (C : Ctx) (n : Nat) (r : AV) (σ : Store) (r' : AV) (σ' : Store) : Prop :=
  ∀ m K w v, Bears C m K σ w → ARep m K r v → ∃ m' K', Bears C m' K' σ' w ∧ ARep m' K' r' v ∧ Le n m K m' K' ∧ n ≤ σ'.length
def FinK (C : Ctx) (n : Nat) (r : AV) (σ : Store) (R : AV → Store → Prop) : Prop := ∃ r' σ', Weak C n r σ r' σ' ∧ R r' σ'
def aRes (C : Ctx) (env : Env) (σ : Store) : List ResultVar → (List AV → Prop) → Prop
  | [], k => k []
  | .tmp t :: r, k => aRes C env σ r fun vs => k (getE env t :: vs)
  | .cell a t :: r, k => opt (C.tab t) fun ti => opt (aLoad σ ti (getE env a)) fun v => aRes C env σ r fun vs => k (v :: vs)
def one (vs : List AV) : AV := match vs with
  | [v] => v
  | vs => .tup vs
def finQ (C : Ctx) (fn : Func) (n : Nat) (R : AV → Store → Prop) : Exit → Env → Store → Prop
  | .ret, env, σ => aRes C env σ fn.results.toList fun vs => FinK C n (one vs) σ R
  | .normal, env, σ => aRes C env σ fn.results.toList fun vs => FinK C n (one vs) σ R
  | _, _, _ => False
def argsE : Nat → List AV → Env
  | _, [] => []
  | t, a :: r => (t, a) :: argsE (t + 1) r

def bodyOf (fn : Func) : Code := match fn.body with
  | some c => c
  | none => .skip

end Go.Sv
