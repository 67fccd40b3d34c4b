/- Abstract values and stores over the model's worlds, and the executor's small functions (what an operation does to them). No program stands in this text. -/
import Derived.Calls
import Derived.Below
import Derived.WalkKit
set_option linter.unusedVariables false
set_option linter.unusedSimpArgs false
namespace Go.Sv
open Go Go.RowKit

/-- Values without references into the store. -/
inductive PV where
  | int (k : IntKind) (n : Int)
  | bool (b : Bool)
  | str (s : List UInt8)
  | sl (xs : List PV)
  | agg (cs : List PV)
  | iface (t : TypeId) (p : PV)
  | raw (v : Value)
  deriving Inhabited

def PV.cells : PV → List PV
  | .agg cs => cs
  | p => [p]
def flat (xs : List PV) : List PV := xs.flatMap PV.cells

/-- Values that may refer to the store. -/
inductive AV where
  | pv (p : PV)
  | nilsl
  | ptr (id off : Nat)
  | eptr (id ver i off : Nat)
  | ro (p : PV) (off : Nat)
  | arr (id ver off len : Nat)
  | agg (cs : List AV)
  | tup (vs : List AV)
  | iface (t : TypeId) (a : AV)
  | func (fn : Fn) (first captured : List AV)
  | dead
  deriving Inhabited

inductive SObj where
  | cells (ty : TypeId) (cs : List AV)
  | arr (es : Nat) (xs : List PV) (fz : Bool)
  | bld (ty el : TypeId) (s : List UInt8)
  | gone
  deriving Inhabited

abbrev Store := List SObj

inductive TD where
  | int (k : IntKind) | bool | str | ptr (e : TypeId) | slice (e : TypeId) | array (n : Nat) (e : TypeId)
  | struct (fs : List (Nat × TypeId)) | map (k v : TypeId) | func | iface (nm : Nat) | unsafeptr | other
  deriving Inhabited
def TD.of : TypeDesc → TD
  | .int k => .int k
  | .bool => .bool
  | .string => .str
  | .pointer e => .ptr e
  | .slice e => .slice e
  | .array n e => .array n e
  | .struct fs => .struct (fs.toList.map fun f => (f.offset, f.type))
  | .map k v => .map k v
  | .func .. => .func
  | .interface ms => .iface ms.size
  | .unsafePointer => .unsafeptr
  | _ => .other
def TD.isAgg : TD → Bool
  | .array .. | .struct .. => true
  | _ => false
structure TI where
  td : TD
  size : Nat
  bytes : Nat
  zero : Value
  deriving Inhabited

/-- What a proof is over: the program, the world in which the law began, tables. -/
structure Ctx where
  P : Program
  w0 : World
  K0 : Nat → Nat → Value → Prop
  tab : TypeId → Option TI
  glob : Nat → Option AV
  lits : List String
  isB : TypeId → Bool
  u8 : TypeId

/-! ### Values out of constants -/
def AV.ofLeaf : Value → AV
  | .int k n => .pv (.int k n)
  | .bool b => .pv (.bool b)
  | .string s => .pv (.str s.data.toList)
  | .slice none 0 0 => .nilsl
  | .pointer none => .pv (.raw (.pointer none))
  | .nilIface => .pv (.raw .nilIface)
  | .nilFunc => .pv (.raw .nilFunc)
  | .map none => .pv (.raw (.map none))
  | .func (.func f) first captured => if first.size = 0 ∧ captured.size = 0 then .pv (.raw (.func (.func f) #[] #[])) else .dead
  | _ => .dead
def allPv : List AV → Option (List PV)
  | [] => some []
  | .pv p :: r => match allPv r with
    | some ps => some (p :: ps)
    | none => none
  | _ :: _ => none
def mkAgg (cs : List AV) : AV := match allPv cs with
  | some ps => .pv (.agg ps)
  | none => .agg cs
def AV.ofValue : Value → AV
  | .agg cs => match cs.toList.all Value.oneCell' with
    | true => mkAgg (cs.toList.map AV.ofLeaf)
    | false => .dead
  | v => AV.ofLeaf v
def AV.cells : AV → List AV
  | .agg cs => cs
  | .pv p => p.cells.map .pv
  | a => [a]
/-- May a cell hold it? -/
def AV.one : AV → Bool
  | .pv (.agg _) | .agg _ | .tup _ | .dead => false
  | _ => true
def PV.one : PV → Bool
  | .agg _ => false
  | _ => true

/-! ### The frame: its slots that are known, by number -/
abbrev Env := List (Nat × AV)
def getE : Env → Nat → AV
  | [], _ => .dead
  | (u, a) :: r, t => match Nat.beq u t with
    | true => a
    | false => getE r t
def putE : Env → Nat → AV → Env
  | [], d, v => [(d, v)]
  | (u, a) :: r, d, v => match Nat.beq u d with
    | true => (d, v) :: r
    | false => match Nat.ble u d with
      | true => (u, a) :: putE r d v
      | false => (d, v) :: (u, a) :: r
def memN : Nat → List Nat → Bool
  | _, [] => false
  | t, u :: r => match Nat.beq t u with
    | true => true
    | false => memN t r
def prune (l : List Nat) : Env → Env
  | [] => []
  | (u, a) :: r => match memN u l with
    | true => (u, a) :: prune l r
    | false => prune l r
def ev (C : Ctx) (env : Env) : Operand → AV
  | .tmp t => getE env t
  | .const v => AV.ofValue v
  | .global g => (C.glob g).getD .dead
  | .func f => .pv (.raw (.func (.func f) #[] #[]))

/-! ### Shapes -/
def opt {α : Type} (x : Option α) (k : α → Prop) : Prop := match x with
  | some v => k v
  | none => False
def opt2 (x : Option (AV × Store)) (k : AV → Store → Prop) : Prop := match x with
  | some p => k p.1 p.2
  | none => False
def isI (kd : IntKind) (a : AV) (k : Int → Prop) : Prop := match a with
  | .pv (.int kd' n) => if kd' = kd then k n else False
  | _ => False
def isB (a : AV) (k : Bool → Prop) : Prop := match a with
  | .pv (.bool b) => k b
  | _ => False
def isS (a : AV) (k : List UInt8 → Prop) : Prop := match a with
  | .pv (.str s) => k s
  | _ => False
/-- Two ways by a bool. -/
def condB (b : Bool) (x y : Prop) : Prop := match b with
  | true => x
  | false => y
def isTup (a : AV) (k : List AV → Prop) : Prop := match a with
  | .tup vs => k vs
  | _ => False
/-- A value by its type: what is a number, a bool, a string by its type is one. -/
def shaped (td : TD) (v : AV) (k : AV → Prop) : Prop := match td with
  | .int kd => isI kd v fun n => k (.pv (.int kd n))
  | .bool => isB v fun b => k (.pv (.bool b))
  | .str => isS v fun s => k (.pv (.str s))
  | _ => k v

/-! ### What the operations answer -/
def splice {α : Type} (cs : List α) (off : Nat) (vs : List α) : List α := cs.take off ++ (vs ++ cs.drop (off + vs.length))
def partA (agg : Bool) (n off : Nat) (cs : List AV) : Option AV :=
  if agg then (if off + n ≤ cs.length then some (mkAgg ((cs.drop off).take n)) else none) else cs[off]?
def partP (agg : Bool) (n off : Nat) (p : PV) : Option PV :=
  if agg then
    match p with
    | .agg cs => if off = 0 ∧ cs.length = n then some p else if off + n ≤ cs.length then some (.agg ((cs.drop off).take n)) else none
    | _ => none
  else p.cells[off]?
def aLoad (σ : Store) (ti : TI) : AV → Option AV
  | .ptr id off => match σ[id]? with
    | some (.cells _ cs) => partA ti.td.isAgg ti.size off cs
    | _ => none
  | .eptr id ver i off => match σ[id]? with
    | some (.arr _ xs _) => if xs.length = ver then match xs[i]? with
      | some x => (partP ti.td.isAgg ti.size off x).map .pv
      | none => none else none
    | _ => none
  | .ro p off => (partP ti.td.isAgg ti.size off p).map .pv
  | _ => none
def aStore (σ : Store) (ti : TI) (addr v : AV) : Option Store :=
  let vs := v.cells
  if vs.length = ti.size ∧ vs.all AV.one = true then
    match addr with
    | .ptr id off => match σ[id]? with
      | some (.cells ty cs) => if off + vs.length ≤ cs.length then some (σ.set id (.cells ty (splice cs off vs))) else none
      | _ => none
    | .eptr id ver i off => match σ[id]?, allPv vs with
      | some (.arr es xs false), some ps =>
        if xs.length = ver then match xs[i]? with
          | some (.agg cs) => if off + ps.length ≤ cs.length then some (σ.set id (.arr es (xs.set i (.agg (splice cs off ps))) false)) else none
          | some _ => match ps with
            | [q] => if off = 0 then some (σ.set id (.arr es (xs.set i q) false)) else none
            | _ => none
          | none => none
        else none
      | _, _ => none
    | _ => none
  else none
/-- The elements that a slice (or a string, as bytes) stands for. -/
def elems (σ : Store) : AV → Option (List PV)
  | .pv (.sl xs) => some xs
  | .nilsl => some []
  | .arr id ver off len => match σ[id]? with
    | some (.arr _ xs _) => if xs.length = ver ∧ off + len ≤ ver then some ((xs.drop off).take len) else none
    | _ => none
  | .pv (.str s) => some (s.map fun b => .int .u8 b.toNat)
  | _ => none
def aLen (td : TD) : AV → Option AV
  | .pv (.str s) => if td matches .str then some (.pv (.int .i64 s.length)) else none
  | .pv (.sl xs) => if td matches .slice _ then some (.pv (.int .i64 xs.length)) else none
  | .nilsl => if td matches .slice _ then some (.pv (.int .i64 0)) else none
  | .arr _ _ _ len => if td matches .slice _ then some (.pv (.int .i64 len)) else none
  | _ => none
/-- All of one size. -/
def sized (n : Nat) (xs : List PV) : Bool := xs.all fun y => y.cells.length == n
def roomy (n bytes : Nat) : Prop := n ≤ 140737488355328 ∧ n * bytes ≤ 140737488355328
instance (n bytes : Nat) : Decidable (roomy n bytes) := inferInstanceAs (Decidable (_ ∧ _))
def aAppend (σ : Store) (ei : TI) (s x : AV) : Option (AV × Store) :=
  match elems σ x with
  | none => none
  | some ys =>
    if sized ei.size ys = true then
      match s with
      | .nilsl => if ys = [] then some (.nilsl, σ) else
          if roomy ys.length ei.bytes then some (.arr σ.length ys.length 0 ys.length, σ ++ [.arr ei.size ys false]) else none
      | .arr id ver off len => match σ[id]? with
        | some (.arr es xs fz) =>
          if xs.length = ver ∧ off = 0 ∧ len = ver ∧ es = ei.size ∧ roomy (xs.length + ys.length) ei.bytes then
            some (.arr id (xs.length + ys.length) 0 (xs.length + ys.length), σ.set id (.arr es (xs ++ ys) fz)) else none
        | _ => none
      | _ => none
    else none
def aCopy (σ : Store) (ei : TI) (d s : AV) : Option (AV × Store) :=
  match elems σ s with
  | none => none
  | some ys => match d with
    | .arr id ver off len => match σ[id]? with
      | some (.arr es xs false) =>
        if xs.length = ver ∧ off + len ≤ ver ∧ es = ei.size ∧ sized ei.size ys = true then
          some (.pv (.int .i64 (min ys.length len : Nat)), σ.set id (.arr es (splice xs off (ys.take (min ys.length len))) false)) else none
      | _ => none
    | _ => none
def aMakeSlice (σ : Store) (ei : TI) (n c : Int) : Option (AV × Store) :=
  match AV.ofValue ei.zero with
  | .pv z => if 0 ≤ n ∧ n ≤ c ∧ roomy c.toNat ei.bytes ∧ z.cells.length = ei.size then
      some (.arr σ.length n.toNat 0 n.toNat, σ ++ [.arr ei.size (List.replicate n.toNat z) false]) else none
  | _ => none
def aIndexAddr (σ : Store) (tab : TypeId → Option TI) (td : TD) (x : AV) (i : Int) : Option AV :=
  match td with
  | .slice e => match tab e with
    | none => none
    | some ei => match x with
      | .pv (.sl xs) => if 0 ≤ i ∧ i < xs.length then match xs[i.toNat]? with
          | some y => if y.cells.length = ei.size then some (.ro y 0) else none
          | none => none else none
      | .arr id ver off len => match σ[id]? with
        | some (.arr es xs _) => if 0 ≤ i ∧ i < len ∧ es = ei.size ∧ xs.length = ver then some (.eptr id ver (off + i.toNat) 0) else none
        | _ => none
      | _ => none
  | .array n e => match tab e with
    | none => none
    | some ei => if 0 ≤ i ∧ i < n then match x with
      | .ptr id o => some (.ptr id (o + i.toNat * ei.size))
      | .ro p o => some (.ro p (o + i.toNat * ei.size))
      | .eptr id ver j o => some (.eptr id ver j (o + i.toNat * ei.size))
      | _ => none else none
  | _ => none
def aIndex (tab : TypeId → Option TI) (td : TD) (x : AV) (i : Int) : Option AV :=
  match td, x with
  | .str, .pv (.str s) => if 0 ≤ i ∧ i < s.length then match s[i.toNat]? with
      | some b => some (.pv (.int .u8 b.toNat))
      | none => none else none
  | .array n e, x => match tab e with
    | none => none
    | some ei => if 0 ≤ i ∧ i < n then match x with
      | .pv p => match p with
        | .agg _ => (partP ei.td.isAgg ei.size (i.toNat * ei.size) p).map .pv
        | _ => none
      | .agg cs => partA ei.td.isAgg ei.size (i.toNat * ei.size) cs
      | _ => none else none
  | _, _ => none
def aFieldAddr (tab : TypeId → Option TI) (td : TD) (x : AV) (f : Nat) : Option AV :=
  match td with
  | .struct fs => match fs[f]? with
    | some (o, t) => match tab t with
      | some fi => if fi.size = 0 then none else match x with
        | .ptr id off => some (.ptr id (off + o))
        | .ro p off => some (.ro p (off + o))
        | .eptr id ver i off => some (.eptr id ver i (off + o))
        | _ => none
      | none => none
    | none => none
  | _ => none
def aField (tab : TypeId → Option TI) (td : TD) (x : AV) (f : Nat) : Option AV :=
  match td with
  | .struct fs => match fs[f]? with
    | some (o, t) => match tab t with
      | some fi => match x with
        | .pv p => match p with
          | .agg _ => (partP fi.td.isAgg fi.size o p).map .pv
          | _ => none
        | .agg cs => partA fi.td.isAgg fi.size o cs
        | _ => none
      | none => none
    | none => none
  | _ => none
/-- The cells of a struct (or an array) that is written out, part by part. -/
def fillA (place : Nat → Option (Nat × Nat)) : List (Nat × AV) → List AV → Option (List AV)
  | [], cs => some cs
  | (i, v) :: r, cs => match place i with
    | some (off, size) => if v.cells.length = size ∧ off + size ≤ cs.length ∧ v.cells.all AV.one = true then fillA place r (splice cs off v.cells) else none
    | none => none
def placeOf (tab : TypeId → Option TI) : TD → Nat → Option (Nat × Nat)
  | .struct fs, i => match fs[i]? with
    | some (o, t) => match tab t with
      | some fi => some (o, fi.size)
      | none => none
    | none => none
  | .array _ e, i => match tab e with
    | some ei => some (i * ei.size, ei.size)
    | none => none
  | _, _ => none
def aBuild (tab : TypeId → Option TI) (ti : TI) (parts : List (Nat × AV)) : Option AV :=
  match ti.td with
  | .struct fs => if fs.all (fun f => (tab f.2).isSome) = true then (fillA (placeOf tab ti.td) parts (AV.ofValue ti.zero).cells).map mkAgg else none
  | .array _ el => if (tab el).isSome = true then (fillA (placeOf tab ti.td) parts (AV.ofValue ti.zero).cells).map mkAgg else none
  | _ => none
def inOrder : Nat → List (Nat × AV) → Option (List AV)
  | _, [] => some []
  | k, (i, v) :: r => if i = k then match inOrder (k + 1) r with
      | some l => some (v :: l)
      | none => none else none
def aBuildSlice (σ : Store) (ei : TI) (own : Bool) (len : Nat) (parts : List (Nat × AV)) : Option (AV × Store) :=
  match inOrder 0 parts with
  | none => none
  | some vs => match allPv vs with
    | none => none
    | some ps => if ps.length = len ∧ sized ei.size ps = true ∧ len * ei.size ≤ 16777216 ∧ 0 < ei.size then
        (if own then some (.arr σ.length len 0 len, σ ++ [.arr ei.size ps false]) else some (.pv (.sl ps), σ)) else none
def asI (a : AV) : Option Int := match a with
  | .pv (.int _ i) => some i
  | _ => none
def bndA (d : Int) (x : Option AV) : Option Int := match x with
  | none => some d
  | some a => asI a
def lenA : AV → Option Nat
  | .pv (.str s) => some s.length
  | .pv (.sl xs) => some xs.length
  | .nilsl => some 0
  | .arr _ _ _ len => some len
  | _ => none
def aSlice (σ : Store) (tab : TypeId → Option TI) (td : TD) (x : AV) (lo hi : Option AV) : Option AV :=
  match lenA x with
  | none => none
  | some n =>
    match bndA 0 lo, bndA n hi with
    | some l, some h => if 0 ≤ l ∧ l ≤ h ∧ h ≤ n then
        match td, x with
        | .str, .pv (.str s) => some (.pv (.str ((s.take h.toNat).drop l.toNat)))
        | .slice el, .pv (.sl xs) => match tab el with
          | some ei => if sized ei.size xs = true then some (.pv (.sl ((xs.take h.toNat).drop l.toNat))) else none
          | none => none
        | .slice el, .nilsl => if (tab el).isSome = true then some .nilsl else none
        | .slice el, .arr id ver off _ => match tab el, σ[id]? with
          | some ei, some (.arr es xs _) => if xs.length = ver ∧ es = ei.size then some (.arr id ver (off + l.toNat) (h - l).toNat) else none
          | _, _ => none
        | _, _ => none
      else none
    | _, _ => none

/-! ### '==' -/
def isPtrA : AV → Option Bool
  | .pv (.raw (.pointer none)) => some false
  | .ptr _ _ | .ro _ _ | .eptr _ _ _ _ => some true
  | _ => none
def isIfA : AV → Option (Option TypeId)
  | .pv (.raw .nilIface) => some none
  | .pv (.iface t _) | .iface t _ => some (some t)
  | _ => none
def isFnA : AV → Option Bool
  | .pv (.raw .nilFunc) => some false
  | .pv (.raw (.func _ _ _)) | .func _ _ _ => some true
  | _ => none
def isSlA : AV → Option Bool
  | .nilsl => some false
  | .pv (.sl (_ :: _)) => some true
  | _ => none
def bothO (x y : Option Bool) : Option Bool := match x, y with
  | some false, some false => some true
  | some true, some false | some false, some true => some false
  | _, _ => none
/-- '==', where it is no number's and no string's; 'lit': one side is written out as a constant. -/
def aEq (td : TD) (lit : Bool) (x y : AV) : Option Bool :=
  match td with
  | .bool => match x, y with
    | .pv (.bool a), .pv (.bool b) => some (a == b)
    | _, _ => none
  | .ptr _ => bothO (isPtrA x) (isPtrA y)
  | .iface _ => match isIfA x, isIfA y with
    | some none, some none => if lit then some true else none
    | some (some _), some none => some false
    | some none, some (some _) => some false
    | some (some t), some (some u) => if t ≠ u then some false else none
    | _, _ => none
  | .slice _ => bothO (isSlA x) (isSlA y)
  | .func => bothO (isFnA x) (isFnA y)
  | _ => none
def isLit : Operand → Bool
  | .const _ => true
  | _ => false
def aEqK (tab : TypeId → Option TI) (t : TypeId) (lit : Bool) (op : BinOp) (x y : AV) (k : AV → Prop) : Prop :=
  match op with
  | .eql => opt (tab t) fun ti => opt (aEq ti.td lit x y) fun b => k (.pv (.bool b))
  | .neq => opt (tab t) fun ti => opt (aEq ti.td lit x y) fun b => k (.pv (.bool !b))
  | _ => False
/-- Binary operations; what must hold stands ahead. -/
def aBinK (tab : TypeId → Option TI) (t : TypeId) (lit : Bool) (op : BinOp) (x y : AV) (k : AV → Prop) : Prop :=
  match x, y with
  | .pv (.int kd a), .pv (.int kd' b) =>
    match op with
    | .shl => 0 ≤ b ∧ k (.pv (.int kd (kd.wrap (a * 2 ^ (min b.toNat kd.bits)))))
    | .shr => 0 ≤ b ∧ k (.pv (.int kd (a.fdiv (2 ^ (min b.toNat kd.bits)))))
    | op => if kd = kd' then
      match op with
      | .add => k (.pv (.int kd (kd.wrap (a + b))))
      | .sub => k (.pv (.int kd (kd.wrap (a - b))))
      | .mul => k (.pv (.int kd (kd.wrap (a * b))))
      | .quo => b ≠ 0 ∧ k (.pv (.int kd (kd.wrap (a.tdiv b))))
      | .rem => b ≠ 0 ∧ k (.pv (.int kd (a.tmod b)))
      | .and => k (.pv (.int kd (kd.wrap (BitVec.ofInt kd.bits a &&& BitVec.ofInt kd.bits b).toNat)))
      | .or => k (.pv (.int kd (kd.wrap (BitVec.ofInt kd.bits a ||| BitVec.ofInt kd.bits b).toNat)))
      | .eql => k (.pv (.bool (a == b)))
      | .neq => k (.pv (.bool (a != b)))
      | .lss => k (.pv (.bool (decide (a < b))))
      | .leq => k (.pv (.bool (decide (a ≤ b))))
      | .gtr => k (.pv (.bool (decide (a > b))))
      | .geq => k (.pv (.bool (decide (a ≥ b))))
      | _ => False
      else False
  | .pv (.str a), .pv (.str b) =>
    match op with
    | .add => a.length + b.length ≤ 9223372036854775807 ∧ k (.pv (.str (a ++ b)))
    | .eql => k (.pv (.bool (a == b)))
    | .neq => k (.pv (.bool !(a == b)))
    | .lss => k (.pv (.bool (Op.bytesLess a b)))
    | .leq => k (.pv (.bool (Op.bytesLess a b || a == b)))
    | .gtr => k (.pv (.bool !(Op.bytesLess a b || a == b)))
    | .geq => k (.pv (.bool !(Op.bytesLess a b)))
    | _ => False
  | x, y => aEqK tab t lit op x y k
def aUn (op : UnOp) (x : AV) : Option AV :=
  match op, x with
  | .neg, .pv (.int k n) => some (.pv (.int k (k.wrap (0 - n))))
  | .not, .pv (.bool b) => some (.pv (.bool !b))
  | _, _ => none
def bytesPV (s : List UInt8) : List PV := s.map fun b => .int .u8 b.toNat
def byteOfPV : PV → Option UInt8
  | .int .u8 n => some (UInt8.ofNat n.toNat)
  | _ => none
def bytesOf : List PV → Option (List UInt8)
  | [] => some []
  | p :: r => match byteOfPV p, bytesOf r with
    | some b, some bs => some (b :: bs)
    | _, _ => none
def aConvert (σ : Store) (tab : TypeId → Option TI) (src dst : TD) (x : AV) : Option (AV × Store) :=
  match src, dst, x with
  | _, .int k, .pv (.int _ n) => some (.pv (.int k (k.wrap n)), σ)
  | _, .str, .pv (.str s) => some (.pv (.str s), σ)
  | .str, .slice e, .pv (.str s) => match tab e with
    | some ei => match ei.td with
      | .int .u8 => if roomy s.length 1 then some (.arr σ.length s.length 0 s.length, σ ++ [.arr 1 (bytesPV s) false]) else none
      | _ => none
    | none => none
  | .slice e, .str, x => match tab e with
    | some ei => match ei.td, x with
      | .int .u8, .pv (.sl xs) => (bytesOf xs).map fun b => (.pv (.str b), σ)
      | .int .u8, .nilsl => some (.pv (.str []), σ)
      | .int .u8, .arr id ver off len => match elems σ (.arr id ver off len) with
        | some xs => (bytesOf xs).map fun b => (.pv (.str b), σ)
        | none => none
      | _, _ => none
    | none => none
  | _, _, _ => none
def aMin2 : AV → AV → Option AV
  | .pv (.int k x), .pv (.int _ y) => some (.pv (.int k (if y < x then y else x)))
  | _, _ => none
def aMax2 : AV → AV → Option AV
  | .pv (.int k x), .pv (.int _ y) => some (.pv (.int k (if y > x then y else x)))
  | _, _ => none
def foldO (f : AV → AV → Option AV) : AV → List AV → Option AV
  | x, [] => some x
  | x, y :: r => match f x y with
    | some z => foldO f z r
    | none => none
def aTypeAssert (tab : TypeId → Option TI) (x : AV) (asserted : TypeId) (commaOk : Bool) : Option AV :=
  match tab asserted with
  | none => none
  | some ti => match ti.td with
    | .iface _ => none
    | _ => match x with
      | .pv (.iface t p) => if t = asserted then some (if commaOk then .tup [.pv p, .pv (.bool true)] else .pv p)
          else if commaOk then some (.tup [AV.ofValue ti.zero, .pv (.bool false)]) else none
      | .iface t a => if t = asserted then some (if commaOk then .tup [a, .pv (.bool true)] else a)
          else if commaOk then some (.tup [AV.ofValue ti.zero, .pv (.bool false)]) else none
      | .pv (.raw .nilIface) => if commaOk then some (.tup [AV.ofValue ti.zero, .pv (.bool false)]) else none
      | _ => none
def aMakeInterface (t : TypeId) : AV → Option AV
  | .pv p => some (.pv (.iface t p))
  | .dead => none
  | a => some (.iface t a)
def aNilCheck : AV → Option AV
  | .ptr id off => some (.ptr id off)
  | .ro p off => some (.ro p off)
  | .eptr id ver i off => some (.eptr id ver i off)
  | .func (.func g) as bs => some (.func (.func g) as bs)
  | .pv (.raw (.func (.func g) as bs)) => some (.pv (.raw (.func (.func g) as bs)))
  | .iface t a => some (.iface t a)
  | .pv (.iface t p) => some (.pv (.iface t p))
  | _ => none

def newObj (C : Ctx) (t : TypeId) (ti : TI) : SObj := match C.isB t with
  | true => .bld t C.u8 []
  | false => .cells t (AV.ofValue ti.zero).cells
/-- A plain operation: what holds of its value and of the store behind it. -/
def aopK (C : Ctx) (o : Oper) (e : Operand → AV) (σ : Store) (k : AV → Store → Prop) : Prop :=
  match o.op with
  | .move x => k (e x) σ
  | .assign x => k (e x) σ
  | .pick c a b => isB (e c) fun t => match t with
    | true => k (e a) σ
    | false => k (e b) σ
  | .alloc t => opt (C.tab t) fun ti => k (.ptr σ.length 0) (σ ++ [newObj C t ti])
  | .box t x => (e x).cells.all AV.one = true ∧ k (.ptr σ.length 0) (σ ++ [.cells t (e x).cells])
  | .build t parts => opt (C.tab t) fun ti => opt (aBuild C.tab ti (parts.toList.map fun p => (p.1, e p.2))) fun v => k v σ
  | .buildSlice t len parts => opt (C.tab t) fun ti => match ti.td with
    | .slice el => opt (C.tab el) fun ei => opt2 (aBuildSlice σ ei (C.lits.contains o.pos) len (parts.toList.map fun p => (p.1, e p.2))) k
    | _ => False
  | .load t a => opt (C.tab t) fun ti => opt (aLoad σ ti (e a)) fun v => k v σ
  | .store t a x => opt (C.tab t) fun ti => opt (aStore σ ti (e a) (e x)) fun σ' => k .dead σ'
  | .nilCheck x => opt (aNilCheck (e x)) fun v => k v σ
  | .binOp op t x y _ => aBinK C.tab t (isLit x || isLit y) op (e x) (e y) fun v => k v σ
  | .unOp op _ x => opt (aUn op (e x)) fun v => k v σ
  | .convert src dst x => opt (C.tab src) fun s => opt (C.tab dst) fun d => opt2 (aConvert σ C.tab s.td d.td (e x)) k
  | .makeInterface t x => opt (C.tab t) fun ti => match ti.td with
    | .iface _ => False
    | _ => opt (aMakeInterface t (e x)) fun v => k v σ
  | .makeFunc fn first captured => k (.func fn (first.toList.map e) (captured.toList.map e)) σ
  | .makeSlice t l c => opt (C.tab t) fun ti => match ti.td with
    | .slice el => opt (C.tab el) fun ei => isI .i64 (e l) fun n => isI .i64 (e c) fun m => opt2 (aMakeSlice σ ei n m) k
    | _ => False
  | .slice t x lo hi none => opt (C.tab t) fun ti => opt (aSlice σ C.tab ti.td (e x) (lo.map e) (hi.map e)) fun v => k v σ
  | .fieldAddr t x f => opt (C.tab t) fun ti => opt (aFieldAddr C.tab ti.td (e x) f) fun v => k v σ
  | .field t x f => opt (C.tab t) fun ti => opt (aField C.tab ti.td (e x) f) fun v => k v σ
  | .indexAddr t x i => opt (C.tab t) fun ti => match e i with
    | .pv (.int _ n) => opt (aIndexAddr σ C.tab ti.td (e x) n) fun v => k v σ
    | _ => False
  | .index t x i => opt (C.tab t) fun ti => match e i with
    | .pv (.int _ n) => opt (aIndex C.tab ti.td (e x) n) fun v => k v σ
    | _ => False
  | .typeAssert x _ t ok => opt (aTypeAssert C.tab (e x) t ok) fun v => k v σ
  | .extract t i => isTup (e t) fun vs => opt vs[i]? fun v => k v σ
  | .call { callee := .builtin .len, args, argTypes } => opt argTypes[0]? fun t => opt args[0]? fun x => opt (C.tab t) fun ti => opt (aLen ti.td (e x)) fun v => k v σ
  | .call { callee := .builtin .append, args, argTypes } => match argTypes.toList, args.toList with
    | [t, t2], [s, x] => opt (C.tab t) fun ti => opt (C.tab t2) fun ti2 => match ti2.td with
      | .int _ => False
      | _ => match ti.td with
        | .slice el => opt (C.tab el) fun ei => opt2 (aAppend σ ei (e s) (e x)) k
        | _ => False
    | _, _ => False
  | .call { callee := .builtin .copy, args, argTypes } => match argTypes.toList, args.toList with
    | [t, _], [d, x] => opt (C.tab t) fun ti => match ti.td with
        | .slice el => opt (C.tab el) fun ei => opt2 (aCopy σ ei (e d) (e x)) k
        | _ => False
    | _, _ => False
  | .call { callee := .builtin .min, args, .. } => match args.toList with
    | x :: r => opt (foldO aMin2 (e x) (r.map e)) fun v => k v σ
    | [] => False
  | .call { callee := .builtin .max, args, .. } => match args.toList with
    | x :: r => opt (foldO aMax2 (e x) (r.map e)) fun v => k v σ
    | [] => False
  | _ => False

end Go.Sv
