/- Abstract values and stores over the model's worlds, and the executor's small functions (what an operation does to them). No program stands in this text. What it is for a world to bear a store, a value of the model to stand for an abstract one; a call and a piece of code over stores; the executor. No program stands in this text. Representation: what is known of values stays as the store grows; frames; what a place in memory holds. No program stands in this text. How the store's objects change, and the worlds with them. No program stands in this text. Slices: what they read as; append, copy, make over stores. No program stands in this text. Slices: copy, make, literals, conversions, a store into an element. No program stands in this text. Structs and slices that are written out; conversions. No program stands in this text. What the executor says of a plain operation is true of the model. No program stands in this text. -/
import Derived.Calls
import Derived.Below
import Derived.WalkKit
import Derived.Laws.AppendOwn
import Derived.Laws.MakeOwn
import Derived.Laws.IdiomStrings
import Derived.Great.BuildSlice
import Derived.LaidEqlPtr
set_option linter.unusedVariables false
set_option linter.unusedSimpArgs false
namespace Go.Sv
section
open Go Go.RowKit
inductive PV where
 | int (k:IntKind) (n:Int)
 | bool (b:Bool)
 | str (s:List UInt8)
 | sl (xs:List PV)
 | agg (cs:List PV)
 | iface (t:TypeId) (p:PV)
 | raw (v:Value)
 deriving Inhabited
def PV.cells:PV→List PV
 | .agg cs=>cs
 | p=>[p]
def N8(xs:List PV):List PV:=xs.flatMap PV.cells
inductive AV where
 | pv (p:PV)
 | nilsl
 | ptr (id off:Nat)
 | eptr (id ver i off:Nat)
 | ro (p:PV) (off:Nat)
 | arr (id ver off len:Nat)
 | agg (cs:List AV)
 | tup (vs:List AV)
 | iface (t:TypeId) (a:AV)
 | func (fn:Fn) (first captured:List AV)
 | mref (id:Nat)
 | avs (id len:Nat)
 | dead
 deriving Inhabited
inductive M1 where
 | cells (ty:TypeId) (cs:List AV)
 | arr (es:Nat) (xs:List PV) (fz:Bool)
 | bld (ty el:TypeId) (s:List UInt8)
 | mp (es:List (PV×AV))
 | gone
 deriving Inhabited
abbrev A1:=List M1
inductive TD where
 | int (k:IntKind)|bool|str|ptr (e:TypeId)|slice (e:TypeId)|array (n:Nat) (e:TypeId)
 | struct (fs:List (Nat×TypeId))|map (k v:TypeId)|func|iface (nm:Nat)|unsafeptr|other
 deriving Inhabited
def TD.of:TypeDesc→TD
 | .int k=>.int k
 | .bool=>.bool
 | .string=>.str
 | .pointer e=>.ptr e
 | .slice e=>.slice e
 | .array n e=>.array n e
 | .struct fs=>.struct (fs.toList.map fun f=>(f.offset,f.type))
 | .map k v=>.map k v
 | .func ..=>.func
 | .interface ms=>.iface ms.size
 | .unsafePointer=>.unsafeptr
 | _=>.other
def TD.isAgg:TD→Bool
 | .array .. | .struct ..=>true
 | _=>false
structure TI where
 td:TD
 size:Nat
 bytes:Nat
 zero:Value
 /-- May such structs be compared,cell by cell? -/
 eqs:Bool
 deriving Inhabited
structure Ctx where
 P:Program
 w0:World
 K0:Nat→Nat→Value→Prop
 tab:TypeId→Option TI
 glob:Nat→Option AV
 lits:List String
 /-- Where elements are appended to nil and the slice is never changed. -/
 seals:List String
 isB:TypeId→Bool
 u8:TypeId
def AV.ofLeaf:Value→AV
 | .int k n=>.pv (.int k n)
 | .bool b=>.pv (.bool b)
 | .string s=>.pv (.str s.data.toList)
 | .slice none 0 0=>.nilsl
 | .pointer none=>.pv (.raw (.pointer none))
 | .nilIface=>.pv (.raw .nilIface)
 | .nilFunc=>.pv (.raw .nilFunc)
 | .map none=>.pv (.raw (.map none))
 | .func (.func f) first captured=>if first.size=0∧captured.size=0 then .pv (.raw (.func (.func f) #[] #[])) else .dead
 | _=>.dead
def aw:List AV→Option (List PV)
 | []=>some []
 | .pv p::r=>match aw r with
  | some ps=>some (p::ps)
  | none=>none
 | _::_=>none
def em(cs:List AV):AV:=match aw cs with
 | some ps=>.pv (.agg ps)
 | none=>.agg cs
def AV.ofValue:Value→AV
 | .agg cs=>match cs.toList.all Value.oneCell' with
  | true=>em (cs.toList.map AV.ofLeaf)
  | false=>.dead
 | v=>AV.ofLeaf v
def AV.cells:AV→List AV
 | .agg cs=>cs
 | .pv p=>p.cells.map .pv
 | a=>[a]
def AV.one:AV→Bool
 | .pv (.agg _)| .agg _| .tup _| .dead=>false
 | _=>true
def PV.one:PV→Bool
 | .agg _=>false
 | _=>true
abbrev Env:=List (Nat×AV)
def J6:Env→Nat→AV
 | [],_=>.dead
 | (u,a)::r,t=>match Nat.beq u t with
  | true=>a
  | false=>J6 r t
def kz:Env→Nat→AV→Env
 | [],d,v=>[(d,v)]
 | (u,a)::r,d,v=>match Nat.beq u d with
  | true=>(d,v)::r
  | false=>match Nat.ble u d with
   | true=>(u,a)::kz r d v
   | false=>(d,v)::(u,a)::r
def pm:Nat→List Nat→Bool
 | _,[]=>false
 | t,u::r=>match Nat.beq t u with
  | true=>true
  | false=>pm t r
def prune(l:List Nat):Env→Env
 | []=>[]
 | (u,a)::r=>match pm u l with
  | true=>(u,a)::prune l r
  | false=>prune l r
def ev(C:Ctx)(env:Env):Operand→AV
 | .tmp t=>J6 env t
 | .const v=>AV.ofValue v
 | .global g=>(C.glob g).getD .dead
 | .func f=>.pv (.raw (.func (.func f) #[] #[]))
def opt{α:Type}(x:Option α)(k:α→Prop):Prop:=match x with
 | some v=>k v
 | none=>False
def opt2(x:Option (AV×A1))(k:AV→A1→Prop):Prop:=match x with
 | some p=>k p.1 p.2
 | none=>False
def isI(kd:IntKind)(a:AV)(k:Int→Prop):Prop:=match a with
 | .pv (.int kd' n)=>if kd'=kd then k n else False
 | _=>False
def isB(a:AV)(k:Bool→Prop):Prop:=match a with
 | .pv (.bool b)=>k b
 | _=>False
def isS(a:AV)(k:List UInt8→Prop):Prop:=match a with
 | .pv (.str s)=>k s
 | _=>False
def B1(b:Bool)(x y:Prop):Prop:=match b with
 | true=>x
 | false=>y
def isTup(a:AV)(k:List AV→Prop):Prop:=match a with
 | .tup vs=>k vs
 | _=>False
def sn(td:TD)(v:AV)(k:AV→Prop):Prop:=match td with
 | .int kd=>isI kd v fun n=>k (.pv (.int kd n))
 | .bool=>isB v fun b=>k (.pv (.bool b))
 | .str=>isS v fun s=>k (.pv (.str s))
 | _=>k v
def P1{α:Type}(cs:List α)(off:Nat)(vs:List α):List α:=cs.take off++(vs++cs.drop (off+vs.length))
def ji(agg:Bool)(n off:Nat)(cs:List AV):Option AV:=
 if agg then (if off+n≤cs.length then some (em ((cs.drop off).take n)) else none) else cs[off]?
def ga(agg:Bool)(n off:Nat)(p:PV):Option PV:=
 if agg then
  match p with
  | .agg cs=>if off=0∧cs.length=n then some p else if off+n≤cs.length then some (.agg ((cs.drop off).take n)) else none
  | _=>none
 else p.cells[off]?
def A6(σ:A1)(ti:TI):AV→Option AV
 | .ptr id off=>match σ[id]? with
  | some (.cells _ cs)=>ji ti.td.isAgg ti.size off cs
  | _=>none
 | .eptr id ver i off=>match σ[id]? with
  | some (.arr _ xs _)=>if xs.length=ver then match xs[i]? with
   | some x=>(ga ti.td.isAgg ti.size off x).map .pv
   | none=>none else none
  | _=>none
 | .ro p off=>(ga ti.td.isAgg ti.size off p).map .pv
 | _=>none
def C2(σ:A1)(ti:TI)(addr v:AV):Option A1:=
 let vs:=v.cells
 if vs.length=ti.size∧vs.all AV.one=true then
  match addr with
  | .ptr id off=>match σ[id]? with
   | some (.cells ty cs)=>if off+vs.length≤cs.length then some (σ.set id (.cells ty (P1 cs off vs))) else none
   | _=>none
  | .eptr id ver i off=>match σ[id]?,aw vs with
   | some (.arr es xs false),some ps=>
    if xs.length=ver then match xs[i]? with
     | some (.agg cs)=>if off+ps.length≤cs.length then some (σ.set id (.arr es (xs.set i (.agg (P1 cs off ps))) false)) else none
     | some _=>match ps with
      | [q]=>if off=0 then some (σ.set id (.arr es (xs.set i q) false)) else none
      | _=>none
     | none=>none
    else none
   | _,_=>none
  | _=>none
 else none
def elems(σ:A1):AV→Option (List PV)
 | .pv (.sl xs)=>some xs
 | .nilsl=>some []
 | .arr id ver off len=>match σ[id]? with
  | some (.arr _ xs _)=>if xs.length=ver∧off+len≤ver then some ((xs.drop off).take len) else none
  | _=>none
 | .pv (.str s)=>some (s.map fun b=>.int .u8 b.toNat)
 | _=>none
def R5(td:TD):AV→Option AV
 | .pv (.str s)=>if td matches .str then some (.pv (.int .i64 s.length)) else none
 | .pv (.sl xs)=>if td matches .slice _ then some (.pv (.int .i64 xs.length)) else none
 | .nilsl=>if td matches .slice _ then some (.pv (.int .i64 0)) else none
 | .arr _ _ _ len=>if td matches .slice _ then some (.pv (.int .i64 len)) else none
 | _=>none
def aLenS(σ:A1)(td:TD)(a:AV):Option AV:=match td with
 | .map _ _=>match a with
  | .mref id=>match σ[id]? with
   | some (.mp es)=>some (.pv (.int .i64 es.length))
   | _=>none
  | _=>none
 | td=>R5 td a
def X6(n:Nat)(xs:List PV):Bool:=xs.all fun y=>y.cells.length==n
def gp(n bytes:Nat):Prop:=n≤140737488355328∧n*bytes≤140737488355328
instance (n bytes:Nat):Decidable (gp n bytes):=inferInstanceAs (Decidable (_∧_))
def L0(σ:A1)(ei:TI)(s x:AV):Option (AV×A1):=
 match elems σ x with
 | none=>none
 | some ys=>
  if X6 ei.size ys=true then
   match s with
   | .nilsl=>if ys = [] then some (.nilsl,σ) else
     if gp ys.length ei.bytes then some (.arr σ.length ys.length 0 ys.length,σ ++ [.arr ei.size ys false]) else none
   | .arr id ver off len=>match σ[id]? with
    | some (.arr es xs fz)=>
     if xs.length=ver∧off=0∧len=ver∧es=ei.size∧gp (xs.length+ys.length) ei.bytes then
      some (.arr id (xs.length+ys.length) 0 (xs.length+ys.length),σ.set id (.arr es (xs++ys) fz)) else none
    | _=>none
   | _=>none
  else none
def popS(σ:A1)(id es:Nat)(xs:List PV)(len:Nat):A1:=σ.set id .gone ++ [.arr es (xs.take len) false]
def qg(σ:A1)(ei:TI)(id ver len:Nat)(ys:List PV):Option (AV×A1):=match σ[id]? with
 | some (.arr es xs false)=>if xs.length=ver∧0<ver∧len≤ver then L0 (popS σ id es xs len) ei (.arr σ.length len 0 len) (.pv (.sl ys)) else none
 | _=>none
def ik(own:Bool)(σ:A1)(ei:TI)(s x:AV):Option (AV×A1):=match own with
 | false=>L0 σ ei s x
 | true=>match s with
  | .arr id ver 0 len=>match x with
   | .pv (.sl ys)=>qg σ ei id ver len ys
   | _=>none
  | _=>match s,elems σ x with
   | .nilsl,some ys=>if X6 ei.size ys=true∧gp ys.length ei.bytes then some (.pv (.sl ys),σ) else none
   | _,_=>none
def aCopy(σ:A1)(ei:TI)(d s:AV):Option (AV×A1):=
 match elems σ s with
 | none=>none
 | some ys=>match d with
  | .arr id ver off len=>match σ[id]? with
   | some (.arr es xs false)=>
    if xs.length=ver∧off+len≤ver∧es=ei.size∧X6 ei.size ys=true then
     some (.pv (.int .i64 (min ys.length len:Nat)),σ.set id (.arr es (P1 xs off (ys.take (min ys.length len))) false)) else none
   | _=>none
  | _=>none
def ah(σ:A1)(ei:TI)(n c:Int):Option (AV×A1):=
 match AV.ofValue ei.zero with
 | .pv z=>if 0≤n∧n≤c∧gp c.toNat ei.bytes∧z.cells.length=ei.size then
   some (.arr σ.length n.toNat 0 n.toNat,σ ++ [.arr ei.size (List.replicate n.toNat z) false]) else none
 | _=>none
def de(σ:A1)(el:TypeId)(ei:TI)(n c:Int):Option (AV×A1):=
 match AV.ofValue ei.zero with
 | .nilsl=>if 0≤n∧n=c∧gp c.toNat ei.bytes∧ei.size=1 then
   some (.avs σ.length n.toNat,σ ++ [.cells el (List.replicate n.toNat .nilsl)]) else none
 | _=>ah σ ei n c
def D1(σ:A1)(tab:TypeId→Option TI)(td:TD)(x:AV)(i:Int):Option AV:=
 match td with
 | .slice e=>match tab e with
  | none=>none
  | some ei=>match x with
   | .pv (.sl xs)=>if 0≤i∧i<xs.length then match xs[i.toNat]? with
     | some y=>if y.cells.length=ei.size then some (.ro y 0) else none
     | none=>none else none
   | .arr id ver off len=>match σ[id]? with
    | some (.arr es xs _)=>if 0≤i∧i<len∧es=ei.size∧xs.length=ver then some (.eptr id ver (off+i.toNat) 0) else none
    | _=>none
   | .avs id len=>if 0≤i∧i<len∧ei.size=1 then some (.ptr id i.toNat) else none
   | _=>none
 | .array n e=>match tab e with
  | none=>none
  | some ei=>if 0≤i∧i<n then match x with
   | .ptr id o=>some (.ptr id (o+i.toNat*ei.size))
   | .ro p o=>some (.ro p (o+i.toNat*ei.size))
   | .eptr id ver j o=>some (.eptr id ver j (o+i.toNat*ei.size))
   | _=>none else none
 | _=>none
def L7(tab:TypeId→Option TI)(td:TD)(x:AV)(i:Int):Option AV:=
 match td,x with
 | .str,.pv (.str s)=>if 0≤i∧i<s.length then match s[i.toNat]? with
   | some b=>some (.pv (.int .u8 b.toNat))
   | none=>none else none
 | .array n e,x=>match tab e with
  | none=>none
  | some ei=>if 0≤i∧i<n then match x with
   | .pv p=>match p with
    | .agg _=>(ga ei.td.isAgg ei.size (i.toNat*ei.size) p).map .pv
    | _=>none
   | .agg cs=>ji ei.td.isAgg ei.size (i.toNat*ei.size) cs
   | _=>none else none
 | _,_=>none
def A3(tab:TypeId→Option TI)(td:TD)(x:AV)(f:Nat):Option AV:=
 match td with
 | .struct fs=>match fs[f]? with
  | some (o,t)=>match tab t with
   | some fi=>if fi.size=0 then none else match x with
    | .ptr id off=>some (.ptr id (off+o))
    | .ro p off=>some (.ro p (off+o))
    | .eptr id ver i off=>some (.eptr id ver i (off+o))
    | _=>none
   | none=>none
  | none=>none
 | _=>none
def aField(tab:TypeId→Option TI)(td:TD)(x:AV)(f:Nat):Option AV:=
 match td with
 | .struct fs=>match fs[f]? with
  | some (o,t)=>match tab t with
   | some fi=>match x with
    | .pv p=>match p with
     | .agg _=>(ga fi.td.isAgg fi.size o p).map .pv
     | _=>none
    | .agg cs=>ji fi.td.isAgg fi.size o cs
    | _=>none
   | none=>none
  | none=>none
 | _=>none
def uq(place:Nat→Option (Nat×Nat)):List (Nat×AV)→List AV→Option (List AV)
 | [],cs=>some cs
 | (i,v)::r,cs=>match place i with
  | some (off,size)=>if v.cells.length=size∧off+size≤cs.length∧v.cells.all AV.one=true then uq place r (P1 cs off v.cells) else none
  | none=>none
def cp(tab:TypeId→Option TI):TD→Nat→Option (Nat×Nat)
 | .struct fs,i=>match fs[i]? with
  | some (o,t)=>match tab t with
   | some fi=>some (o,fi.size)
   | none=>none
  | none=>none
 | .array _ e,i=>match tab e with
  | some ei=>some (i*ei.size,ei.size)
  | none=>none
 | _,_=>none
def N3(tab:TypeId→Option TI)(ti:TI)(parts:List (Nat×AV)):Option AV:=
 match ti.td with
 | .struct fs=>if fs.all (fun f=>(tab f.2).isSome)=true then (uq (cp tab ti.td) parts (AV.ofValue ti.zero).cells).map em else none
 | .array _ el=>if (tab el).isSome=true then (uq (cp tab ti.td) parts (AV.ofValue ti.zero).cells).map em else none
 | _=>none
def ke:Nat→List (Nat×AV)→Option (List AV)
 | _,[]=>some []
 | k,(i,v)::r=>if i=k then match ke (k+1) r with
   | some l=>some (v::l)
   | none=>none else none
def R9(σ:A1)(ei:TI)(own:Bool)(len:Nat)(parts:List (Nat×AV)):Option (AV×A1):=
 match ke 0 parts with
 | none=>none
 | some vs=>match aw vs with
  | none=>none
  | some ps=>if ps.length=len∧X6 ei.size ps=true∧len*ei.size≤16777216∧0<ei.size then
    (if own then some (.arr σ.length len 0 len,σ ++ [.arr ei.size ps false]) else some (.pv (.sl ps),σ)) else none
def frz1(σ:A1):AV→Option (PV×A1)
 | .pv p=>some (p,σ)
 | .nilsl=>some (.sl [],σ)
 | .arr id ver off len=>match σ[id]? with
  | some (.arr es xs fz)=>if xs.length=ver∧off=0∧len=ver then some (.sl xs,σ.set id (.arr es xs true)) else none
  | _=>none
 | _=>none
def Y4:A1→List AV→Option (List PV×A1)
 | σ,[]=>some ([],σ)
 | σ,a::r=>match frz1 σ a with
  | some (p,σ1)=>match Y4 σ1 r with
   | some (ps,σ2)=>some (p::ps,σ2)
   | none=>none
  | none=>none
def frzV(σ:A1):AV→Option (PV×A1)
 | .agg cs=>match Y4 σ cs with
  | some (ps,σ1)=>some (.agg ps,σ1)
  | none=>none
 | a=>frz1 σ a
def cy:A1→List (Nat×AV)→Option (List (Nat×AV)×A1)
 | σ,[]=>some ([],σ)
 | σ,(i,a)::r=>match frzV σ a with
  | some (p,σ1)=>match cy σ1 r with
   | some (ps,σ2)=>some ((i,.pv p)::ps,σ2)
   | none=>none
  | none=>none
def H9(σ:A1)(ei:TI)(own:Bool)(len:Nat)(parts:List (Nat×AV)):Option (AV×A1):=
 match R9 σ ei own len parts with
 | some r=>some r
 | none=>match cy σ parts with
  | some (ps,σ1)=>R9 σ1 ei own len ps
  | none=>none
def asI(a:AV):Option Int:=match a with
 | .pv (.int _ i)=>some i
 | _=>none
def bndA(d:Int)(x:Option AV):Option Int:=match x with
 | none=>some d
 | some a=>asI a
def lenA:AV→Option Nat
 | .pv (.str s)=>some s.length
 | .pv (.sl xs)=>some xs.length
 | .nilsl=>some 0
 | .arr _ _ _ len=>some len
 | _=>none
def G7(σ:A1)(tab:TypeId→Option TI)(td:TD)(x:AV)(lo hi:Option AV):Option AV:=
 match lenA x with
 | none=>none
 | some n=>
  match bndA 0 lo,bndA n hi with
  | some l,some h=>if 0≤l∧l≤h∧h≤n then
    match td,x with
    | .str,.pv (.str s)=>some (.pv (.str ((s.take h.toNat).drop l.toNat)))
    | .slice el,.pv (.sl xs)=>match tab el with
     | some ei=>if X6 ei.size xs=true then some (.pv (.sl ((xs.take h.toNat).drop l.toNat))) else none
     | none=>none
    | .slice el,.nilsl=>if (tab el).isSome=true then some .nilsl else none
    | .slice el,.arr id ver off _=>match tab el,σ[id]? with
     | some ei,some (.arr es xs _)=>if xs.length=ver∧es=ei.size then some (.arr id ver (off+l.toNat) (h-l).toNat) else none
     | _,_=>none
    | _,_=>none
   else none
  | _,_=>none
def kg:AV→Option Bool
 | .pv (.raw (.pointer none))=>some false
 | .ptr _ _| .ro _ _| .eptr _ _ _ _=>some true
 | _=>none
def ug:AV→Option (Option TypeId)
 | .pv (.raw .nilIface)=>some none
 | .pv (.iface t _)| .iface t _=>some (some t)
 | _=>none
def isFnA:AV→Option Bool
 | .pv (.raw .nilFunc)=>some false
 | .pv (.raw (.func _ _ _))| .func _ _ _=>some true
 | _=>none
def uk:AV→Option Bool
 | .nilsl=>some false
 | .pv (.sl (_::_))=>some true
 | _=>none
def bothO(x y:Option Bool):Option Bool:=match x,y with
 | some false,some false=>some true
 | some true,some false|some false,some true=>some false
 | _,_=>none
def aEq(td:TD)(lit:Bool)(x y:AV):Option Bool:=
 match td with
 | .bool=>match x,y with
  | .pv (.bool a),.pv (.bool b)=>some (a==b)
  | _,_=>none
 | .ptr _=>bothO (kg x) (kg y)
 | .iface _=>match ug x,ug y with
  | some none,some none=>if lit then some true else none
  | some (some _),some none=>some false
  | some none,some (some _)=>some false
  | some (some t),some (some u)=>if t≠u then some false else none
  | _,_=>none
 | .slice _=>bothO (uk x) (uk y)
 | .func=>bothO (isFnA x) (isFnA y)
 | _=>none
def fo:Operand→Bool
 | .const _=>true
 | _=>false
def pi:TD→PV→PV→Option Bool
 | .str,.str a,.str b=>some (a==b)
 | .int _,.int k a,.int k' b=>if k=k' then some (a==b) else none
 | .bool,.bool a,.bool b=>some (a==b)
 | _,_,_=>none
def jw(tab:TypeId→Option TI):Nat→List (Nat×TypeId)→List PV→List PV→Option Bool
 | _,[],[],[]=>some true
 | i,(o,t)::fs,x::xs,y::ys=>match tab t with
  | some ti=>match decide (o=i∧ti.size=1),pi ti.td x y,jw tab (i+1) fs xs ys with
   | true,some a,some b=>some (a&&b)
   | _,_,_=>none
  | none=>none
 | _,_,_,_=>none
def aEqS(tab:TypeId→Option TI)(td:TD)(x y:AV):Option Bool:=match td,x,y with
 | .struct fs,.pv (.agg xs),.pv (.agg ys)=>jw tab 0 fs xs ys
 | _,_,_=>none
def aEqT(tab:TypeId→Option TI)(ti:TI)(lit:Bool)(x y:AV):Option Bool:=match ti.eqs with
 | true=>aEqS tab ti.td x y
 | false=>aEq ti.td lit x y
def aEqK(tab:TypeId→Option TI)(t:TypeId)(lit:Bool)(op:BinOp)(x y:AV)(k:AV→Prop):Prop:=
 match op with
 | .eql=>opt (tab t) fun ti=>opt (aEqT tab ti lit x y) fun b=>k (.pv (.bool b))
 | .neq=>opt (tab t) fun ti=>opt (aEqT tab ti lit x y) fun b=>k (.pv (.bool !b))
 | _=>False
def Q9(tab:TypeId→Option TI)(t:TypeId)(lit:Bool)(op:BinOp)(x y:AV)(k:AV→Prop):Prop:=
 match x,y with
 | .pv (.int kd a),.pv (.int kd' b)=>
  match op with
  | .shl=>0≤b∧k (.pv (.int kd (kd.wrap (a*2 ^ (min b.toNat kd.bits)))))
  | .shr=>0≤b∧k (.pv (.int kd (a.fdiv (2 ^ (min b.toNat kd.bits)))))
  | op=>if kd=kd' then
   match op with
   | .add=>k (.pv (.int kd (kd.wrap (a+b))))
   | .sub=>k (.pv (.int kd (kd.wrap (a-b))))
   | .mul=>k (.pv (.int kd (kd.wrap (a*b))))
   | .quo=>b≠0∧k (.pv (.int kd (kd.wrap (a.tdiv b))))
   | .rem=>b≠0∧k (.pv (.int kd (a.tmod b)))
   | .and=>k (.pv (.int kd (kd.wrap (BitVec.ofInt kd.bits a &&& BitVec.ofInt kd.bits b).toNat)))
   | .or=>k (.pv (.int kd (kd.wrap (BitVec.ofInt kd.bits a ||| BitVec.ofInt kd.bits b).toNat)))
   | .eql=>k (.pv (.bool (a==b)))
   | .neq=>k (.pv (.bool (a != b)))
   | .lss=>k (.pv (.bool (decide (a<b))))
   | .leq=>k (.pv (.bool (decide (a≤b))))
   | .gtr=>k (.pv (.bool (decide (a>b))))
   | .geq=>k (.pv (.bool (decide (a≥b))))
   | _=>False
   else False
 | .pv (.str a),.pv (.str b)=>
  match op with
  | .add=>a.length+b.length≤9223372036854775807∧k (.pv (.str (a++b)))
  | .eql=>k (.pv (.bool (a==b)))
  | .neq=>k (.pv (.bool !(a==b)))
  | .lss=>k (.pv (.bool (Op.bytesLess a b)))
  | .leq=>k (.pv (.bool (Op.bytesLess a b||a==b)))
  | .gtr=>k (.pv (.bool !(Op.bytesLess a b||a==b)))
  | .geq=>k (.pv (.bool !(Op.bytesLess a b)))
  | _=>False
 | x,y=>aEqK tab t lit op x y k
def aUn(op:UnOp)(x:AV):Option AV:=
 match op,x with
 | .neg,.pv (.int k n)=>some (.pv (.int k (k.wrap (0-n))))
 | .not,.pv (.bool b)=>some (.pv (.bool !b))
 | _,_=>none
def P4(s:List UInt8):List PV:=s.map fun b=>.int .u8 b.toNat
def mj:PV→Option UInt8
 | .int .u8 n=>some (UInt8.ofNat n.toNat)
 | _=>none
def af:List PV→Option (List UInt8)
 | []=>some []
 | p::r=>match mj p,af r with
  | some b,some bs=>some (b::bs)
  | _,_=>none
def W4(σ:A1)(tab:TypeId→Option TI)(src dst:TD)(x:AV):Option (AV×A1):=
 match src,dst,x with
 | _,.int k,.pv (.int _ n)=>some (.pv (.int k (k.wrap n)),σ)
 | _,.str,.pv (.str s)=>some (.pv (.str s),σ)
 | .str,.slice e,.pv (.str s)=>match tab e with
  | some ei=>match ei.td with
   | .int .u8=>if gp s.length 1 then some (.arr σ.length s.length 0 s.length,σ ++ [.arr 1 (P4 s) false]) else none
   | _=>none
  | none=>none
 | .slice e,.str,x=>match tab e with
  | some ei=>match ei.td,x with
   | .int .u8,.pv (.sl xs)=>(af xs).map fun b=>(.pv (.str b),σ)
   | .int .u8,.nilsl=>some (.pv (.str []),σ)
   | .int .u8,.arr id ver off len=>match elems σ (.arr id ver off len) with
    | some xs=>(af xs).map fun b=>(.pv (.str b),σ)
    | none=>none
   | _,_=>none
  | none=>none
 | _,_,_=>none
def aMin2:AV→AV→Option AV
 | .pv (.int k x),.pv (.int _ y)=>some (.pv (.int k (if y<x then y else x)))
 | _,_=>none
def aMax2:AV→AV→Option AV
 | .pv (.int k x),.pv (.int _ y)=>some (.pv (.int k (if y>x then y else x)))
 | _,_=>none
def th(f:AV→AV→Option AV):AV→List AV→Option AV
 | x,[]=>some x
 | x,y::r=>match f x y with
  | some z=>th f z r
  | none=>none
def gi(tab:TypeId→Option TI)(x:AV)(asserted:TypeId)(commaOk:Bool):Option AV:=
 match tab asserted with
 | none=>none
 | some ti=>match ti.td with
  | .iface _=>none
  | _=>match x with
   | .pv (.iface t p)=>if t=asserted then some (if commaOk then .tup [.pv p,.pv (.bool true)] else .pv p)
     else if commaOk then some (.tup [AV.ofValue ti.zero,.pv (.bool false)]) else none
   | .iface t a=>if t=asserted then some (if commaOk then .tup [a,.pv (.bool true)] else a)
     else if commaOk then some (.tup [AV.ofValue ti.zero,.pv (.bool false)]) else none
   | .pv (.raw .nilIface)=>if commaOk then some (.tup [AV.ofValue ti.zero,.pv (.bool false)]) else none
   | _=>none
def G4(t:TypeId):AV→Option AV
 | .pv p=>some (.pv (.iface t p))
 | .dead=>none
 | a=>some (.iface t a)
def B2:AV→Option AV
 | .ptr id off=>some (.ptr id off)
 | .ro p off=>some (.ro p off)
 | .eptr id ver i off=>some (.eptr id ver i off)
 | .func (.func g) as bs=>some (.func (.func g) as bs)
 | .pv (.raw (.func (.func g) as bs))=>some (.pv (.raw (.func (.func g) as bs)))
 | .iface t a=>some (.iface t a)
 | .pv (.iface t p)=>some (.pv (.iface t p))
 | _=>none
def keyEq:TD→PV→PV→Option Bool
 | .str,.str a,.str b=>some (a==b)
 | .int _,.int k a,.int k' b=>if k=k' then some (a==b) else none
 | _,_,_=>none
def tq(td:TD)(key:PV):List (PV×AV)→Nat→Option (Option (Nat×AV))
 | [],_=>some none
 | (k,v)::r,i=>match keyEq td key k with
  | some true=>some (some (i,v))
  | some false=>tq td key r (i+1)
  | none=>none
def rj:TD→PV→Bool
 | .str,.str _=>true
 | .int k,.int k' _=>decide (k=k')
 | _,_=>false
def vp(σ:A1)(tab:TypeId→Option TI)(td:TD)(x key:AV)(ok:Bool):Option AV:=
 match td with
 | .map kt et=>match tab kt,tab et with
  | some ki,some ei=>match x,key with
   | .mref id,.pv kp=>match σ[id]?,rj ki.td kp with
    | some (.mp es),true=>match tq ki.td kp es 0 with
     | some (some (_,v))=>some (if ok then .tup [v,.pv (.bool true)] else v)
     | some none=>some (if ok then .tup [AV.ofValue ei.zero,.pv (.bool false)] else AV.ofValue ei.zero)
     | none=>none
    | _,_=>none
   | _,_=>none
  | _,_=>none
 | _=>none
def nh(σ:A1)(tab:TypeId→Option TI)(td:TD)(x key v:AV):Option A1:=
 match td with
 | .map kt _=>match tab kt with
  | some ki=>match x,key with
   | .mref id,.pv kp=>match σ[id]?,rj ki.td kp with
    | some (.mp es),true=>match tq ki.td kp es 0 with
     | some (some (i,_))=>some (σ.set id (.mp (es.set i (kp,v))))
     | some none=>some (σ.set id (.mp (es ++ [(kp,v)])))
     | none=>none
    | _,_=>none
   | _,_=>none
  | none=>none
 | _=>none
def newObj(C:Ctx)(t:TypeId)(ti:TI):M1:=match C.isB t with
 | true=>.bld t C.u8 []
 | false=>.cells t (AV.ofValue ti.zero).cells
def Q3(C:Ctx)(o:Oper)(e:Operand→AV)(σ:A1)(k:AV→A1→Prop):Prop:=
 match o.op with
 | .move x=>k (e x) σ
 | .assign x=>k (e x) σ
 | .pick c a b=>isB (e c) fun t=>match t with
  | true=>k (e a) σ
  | false=>k (e b) σ
 | .alloc t=>opt (C.tab t) fun ti=>k (.ptr σ.length 0) (σ ++ [newObj C t ti])
 | .box t x=>(e x).cells.all AV.one=true∧k (.ptr σ.length 0) (σ ++ [.cells t (e x).cells])
 | .build t parts=>opt (C.tab t) fun ti=>opt (N3 C.tab ti (parts.toList.map fun p=>(p.1,e p.2))) fun v=>k v σ
 | .buildSlice t len parts=>opt (C.tab t) fun ti=>match ti.td with
  | .slice el=>opt (C.tab el) fun ei=>opt2 (H9 σ ei (C.lits.contains o.pos) len (parts.toList.map fun p=>(p.1,e p.2))) k
  | _=>False
 | .load t a=>opt (C.tab t) fun ti=>opt (A6 σ ti (e a)) fun v=>k v σ
 | .store t a x=>opt (C.tab t) fun ti=>opt (C2 σ ti (e a) (e x)) fun σ'=>k .dead σ'
 | .nilCheck x=>opt (B2 (e x)) fun v=>k v σ
 | .binOp op t x y _=>Q9 C.tab t (fo x||fo y) op (e x) (e y) fun v=>k v σ
 | .unOp op _ x=>opt (aUn op (e x)) fun v=>k v σ
 | .convert src dst x=>opt (C.tab src) fun s=>opt (C.tab dst) fun d=>opt2 (W4 σ C.tab s.td d.td (e x)) k
 | .makeInterface t x=>opt (C.tab t) fun ti=>match ti.td with
  | .iface _=>False
  | _=>opt (G4 t (e x)) fun v=>k v σ
 | .makeFunc fn first captured=>k (.func fn (first.toList.map e) (captured.toList.map e)) σ
 | .makeSlice t l c=>opt (C.tab t) fun ti=>match ti.td with
  | .slice el=>opt (C.tab el) fun ei=>isI .i64 (e l) fun n=>isI .i64 (e c) fun m=>opt2 (de σ el ei n m) k
  | _=>False
 | .slice t x lo hi none=>opt (C.tab t) fun ti=>opt (G7 σ C.tab ti.td (e x) (lo.map e) (hi.map e)) fun v=>k v σ
 | .fieldAddr t x f=>opt (C.tab t) fun ti=>opt (A3 C.tab ti.td (e x) f) fun v=>k v σ
 | .field t x f=>opt (C.tab t) fun ti=>opt (aField C.tab ti.td (e x) f) fun v=>k v σ
 | .indexAddr t x i=>opt (C.tab t) fun ti=>match e i with
  | .pv (.int _ n)=>opt (D1 σ C.tab ti.td (e x) n) fun v=>k v σ
  | _=>False
 | .index t x i=>opt (C.tab t) fun ti=>match e i with
  | .pv (.int _ n)=>opt (L7 C.tab ti.td (e x) n) fun v=>k v σ
  | _=>False
 | .typeAssert x _ t ok=>opt (gi C.tab (e x) t ok) fun v=>k v σ
 | .extract t i=>isTup (e t) fun vs=>opt vs[i]? fun v=>k v σ
 | .call { callee:=.builtin .len,args,argTypes }=>opt argTypes[0]? fun t=>opt args[0]? fun x=>opt (C.tab t) fun ti=>opt (aLenS σ ti.td (e x)) fun v=>k v σ
 | .call { callee:=.builtin .append,args,argTypes }=>match argTypes.toList,args.toList with
  | [t,t2],[s,x]=>opt (C.tab t) fun ti=>opt (C.tab t2) fun ti2=>match ti2.td with
   | .int _=>False
   | _=>match ti.td with
    | .slice el=>opt (C.tab el) fun ei=>opt2 (ik (C.seals.contains o.pos) σ ei (e s) (e x)) k
    | _=>False
  | _,_=>False
 | .call { callee:=.builtin .copy,args,argTypes }=>match argTypes.toList,args.toList with
  | [t,_],[d,x]=>opt (C.tab t) fun ti=>match ti.td with
    | .slice el=>opt (C.tab el) fun ei=>opt2 (aCopy σ ei (e d) (e x)) k
    | _=>False
  | _,_=>False
 | .call { callee:=.builtin .min,args,.. }=>match args.toList with
  | x::r=>opt (th aMin2 (e x) (r.map e)) fun v=>k v σ
  | []=>False
 | .call { callee:=.builtin .max,args,.. }=>match args.toList with
  | x::r=>opt (th aMax2 (e x) (r.map e)) fun v=>k v σ
  | []=>False
 | .makeMap _ none=>k (.mref σ.length) (σ ++ [.mp []])
 | .lookup t x i ok=>opt (C.tab t) fun ti=>opt (vp σ C.tab ti.td (e x) (e i) ok) fun v=>k v σ
 | .mapUpdate t x i v=>opt (C.tab t) fun ti=>opt (nh σ C.tab ti.td (e x) (e i) (e v)) fun σ'=>k .dead σ'
 | _=>False
end
section
open Go Go.RowKit
inductive Loc where
 | at (b cap es:Nat)
 | nil
abbrev Mp:=Nat→Nat→Option Loc
abbrev KS:=Nat→Nat→Value→Prop
inductive N7(K:KS):PV→Value→Prop
 | int (k:IntKind) (n:Int):N7 K (.int k n) (.int k n)
 | bool (b:Bool):N7 K (.bool b) (.bool b)
 | str (s:List UInt8):N7 K (.str s) (.string ⟨s.toArray⟩)
 | raw (v:Value) (h:v.oneCell'=true):N7 K (.raw v) v
 | slNil (a:Option Addr) (c:Nat):N7 K (.sl []) (.slice a 0 c)
 | sl (xs:List PV) (es b o c:Nat) (vs:List Value) (hc:xs.length≤c) (he:∀x∈xs,x.cells.length=es) (hl:(N8 xs).length=vs.length)
   (hr:∀(j:Nat) p v,(N8 xs)[j]? = some p→vs[j]? = some v→N7 K p v) (hk:∀(j:Nat) (v:Value),vs[j]? = some v→K b (o+j) v):
   N7 K (.sl xs) (.slice (some ⟨b,o,none⟩) xs.length c)
 | agg (cs:List PV) (vs:Array Value) (hl:cs.length=vs.size) (hr:∀(j:Nat) p v,cs[j]? = some p→vs[j]? = some v→N7 K p v)
   (h1:∀(j:Nat) (v:Value),vs[j]? = some v→v.oneCell'=true):N7 K (.agg cs) (.agg vs)
 | iface (t:TypeId) (p:PV) (v:Value) (h:N7 K p v):N7 K (.iface t p) (.iface t v)
inductive C7(m:Mp)(K:KS):AV→Value→Prop
 | pv (p:PV) (v:Value) (h:N7 K p v):C7 m K (.pv p) v
 | nilsl:C7 m K .nilsl (.slice none 0 0)
 | ptr (id off b cap es:Nat) (h:m id 0=some (.at b cap es)):C7 m K (.ptr id off) (.pointer (some ⟨b,off,none⟩))
 | eptr (id ver i off b cap es:Nat) (h:m id ver=some (.at b cap es)) (hi:i<ver):C7 m K (.eptr id ver i off) (.pointer (some ⟨b,i*es+off,none⟩))
 | ro (p:PV) (off b o:Nat) (vs:List Value) (hl:p.cells.length=vs.length) (hr:∀(j:Nat) q v,p.cells[j]? = some q→vs[j]? = some v→N7 K q v)
   (hk:∀(j:Nat) (v:Value),vs[j]? = some v→K b (o+j) v):C7 m K (.ro p off) (.pointer (some ⟨b,o+off,none⟩))
 | arr (id ver off len b cap es c:Nat) (a:Option Addr) (h:m id ver=some (.at b cap es)) (hc:c+off=cap) (hl:off+len≤ver) (hv:ver≤cap)
   (ha:c=0∨a=some ⟨b,off*es,none⟩):C7 m K (.arr id ver off len) (.slice a len c)
 | arrNil (id:Nat) (h:m id 0=some .nil):C7 m K (.arr id 0 0 0) (.slice none 0 0)
 | agg (cs:List AV) (vs:Array Value) (hl:cs.length=vs.size) (hr:∀(j:Nat) p v,cs[j]? = some p→vs[j]? = some v→C7 m K p v)
   (h1:∀(j:Nat) (v:Value),vs[j]? = some v→v.oneCell'=true):C7 m K (.agg cs) (.agg vs)
 | tup (cs:List AV) (vs:Array Value) (hl:cs.length=vs.size) (hr:∀(j:Nat) p v,cs[j]? = some p→vs[j]? = some v→C7 m K p v):C7 m K (.tup cs) (.tuple vs)
 | iface (t:TypeId) (p:AV) (v:Value) (h:C7 m K p v):C7 m K (.iface t p) (.iface t v)
 | func (fn:Fn) (as bs:List AV) (us vs:Array Value) (hl:as.length=us.size) (hr:∀(j:Nat) p v,as[j]? = some p→us[j]? = some v→C7 m K p v)
   (hl':bs.length=vs.size) (hr':∀(j:Nat) p v,bs[j]? = some p→vs[j]? = some v→C7 m K p v):C7 m K (.func fn as bs) (.func fn us vs)
 | mref (id b cap es:Nat) (h:m id 0=some (.at b cap es)):C7 m K (.mref id) (.map (some b))
 | avs (id len b cap es:Nat) (h:m id 0=some (.at b cap es)):C7 m K (.avs id len) (.slice (some ⟨b,0,none⟩) len len)
 | dead (v:Value):C7 m K .dead v
def jb(m:Mp)(K:KS)(as:List AV)(vs:Array Value):Prop:=
 as.length=vs.size ∧ ∀(j:Nat) a v,as[j]? = some a→vs[j]? = some v→C7 m K a v
def Loc.blk:Option Loc→List Nat
 | some (.at b _ _)=>[b]
 | _=>[]
def blk(m:Mp)(id:Nat):M1→List Nat
 | .cells _ _=>Loc.blk (m id 0)
 | .arr _ xs _=>Loc.blk (m id xs.length)
 | .bld _ _ s=>Loc.blk (m id 0)++Loc.blk (m id (s.length+1))
 | .mp _=>Loc.blk (m id 0)
 | .gone=>[]
def OInv(m:Mp)(K:KS)(w:World)(id:Nat):M1→Prop
 | .cells ty cs=>∃b cap es arr,m id 0=some (.at b cap es)∧w.heap[b]? = some (.cells arr ty (0,0))∧cs.length=arr.size ∧
   (∀ (j:Nat) a v,cs[j]? = some a→arr[j]? = some v→C7 m K a v∧v.oneCell'=true) ∧ ∀o v,¬K b o v
 | .arr es xs fz=>(∀ ver l,m id ver=some l→ver≤xs.length)∧((xs = []∧m id 0=some .nil) ∨ ∃b cap arr ty fr,m id xs.length=some (.at b cap es)∧w.heap[b]? = some (.cells arr ty fr) ∧
   xs.length≤cap∧cap≤maxLen∧arr.size=cap*es∧(∀ x∈xs,x.cells.length=es) ∧
   (∀ (j:Nat) p v,(N8 xs)[j]? = some p→arr[j]? = some v→N7 K p v∧v.oneCell'=true) ∧
   (∀ j,(if fz then xs.length*es else 0)≤j→j<cap*es → ¬(fr.1≤j∧j<fr.2)) ∧
   (∀ (j:Nat) (v:Value),K b j v→fz=true∧j<xs.length*es))
 | .bld ty el s=>∃b cap es p v,m id 0=some (.at b cap es)∧w.heap[b]? = some (.cells #[p,v] ty (0,0))∧(p = .pointer none∨p = .pointer (some ⟨b,0,none⟩))∧(∀ o v,¬K b o v) ∧
   (∀ ver l,m id ver=some l→ver≤s.length+1) ∧
   ((s = []∧m id 1=some .nil∧v = .slice none 0 0) ∨ ∃b2 cap arr fr,m id (s.length+1)=some (.at b2 cap 1)∧b2≠b∧v = .slice (some ⟨b2,0,none⟩) s.length cap∧w.heap[b2]? = some (.cells arr el fr) ∧
    s.length≤cap∧cap≤maxLen∧arr.size=cap∧(∀ (j:Nat) c,s[j]? = some c→arr[j]? = some (.int .u8 (c.toNat:Int))) ∧
    fr.2≤s.length ∧ ∀o v,¬K b2 o v)
 | .mp es=>∃b cap s arr clock,m id 0=some (.at b cap s)∧w.heap[b]? = some (.map arr clock)∧es.length=arr.size ∧
   ∀(j:Nat) e (a:MapEntry),es[j]? = some e→arr[j]? = some a→N7 K e.1 a.key∧C7 m K e.2 a.val
 | .gone=>True
structure C5(C:Ctx)(m:Mp)(K:KS)(σ:A1)(w:World):Prop where
 below:Below C.w0.heap.size C.w0 w
 keep:∀b o v,K b o v→w.cell? ⟨b,o,none⟩=some v∧v.oneCell'=true
 dom:∀id ver l,m id ver=some l→id<σ.length
 obj:∀(id:Nat) x,σ[id]? = some x→OInv m K w id x
 base:∀(id:Nat) x b,σ[id]? = some x→b∈blk m id x→C.w0.heap.size≤b
 apart:∀(id:Nat) x (id':Nat) x' b,σ[id]? = some x→σ[id']? = some x'→b∈blk m id x→b∈blk m id' x'→id=id'
 glob:∀g a,C.glob g=some a→C7 m K a (.pointer (some ⟨g,0,none⟩))
 old:∀b o v,K b o v→C.K0 b o v∨C.w0.heap.size≤b
def Le(n:Nat)(m:Mp)(K:KS)(m':Mp)(K':KS):Prop:=
 (∀ id ver l,id<n→m id ver=some l→m' id ver=some l) ∧ ∀b o v,K b o v→K' b o v
def U8(m:Mp)(K:KS)(env:Env)(vs:Array Value):Prop:=∀t,C7 m K (J6 env t) (vs.getD t undef)
def O1(P:Program)(f:FuncId)(args:Array Value)(w:World)(R:Value→World→Prop):Prop:=
 match (callFunc f args).run P w with
 | .ok (.value v) w'=>R v w'
 | .ok (.enter g as) w'=>Calls P g as w' fun e w''=>∃v,e = .returned v∧R v w''
 | .ok (.row r as) w'=>Rows P r as w' R
 | _=>False
def A2(C:Ctx)(f:FuncId)(args:List AV)(σ:A1)(R:AV→A1→Prop):Prop:=
 ∀m K w vs,C5 C m K σ w→jb m K args vs→O1 C.P f vs w fun v w'=>∃r m' K' σ',
  C5 C m' K' σ' w'∧σ.length≤σ'.length∧Le σ.length m K m' K'∧C7 m' K' r v∧R r σ'
def ma(C:Ctx)(N n:Nat)(m:Mp)(K:KS)(Q:Exit→Env→A1→Prop)(e:Exit)(a:Act)(w:World):Prop:=
 ∃env σ m' K',C5 C m' K' σ w∧n≤σ.length∧a.tmps.size=N∧U8 m' K' env a.tmps∧a.defers = []∧Le n m K m' K'∧Q e env σ
def Swp(C:Ctx)(N n:Nat)(c:Code)(env:Env)(σ:A1)(Q:Exit→Env→A1→Prop):Prop:=
 ∀m K w a,C5 C m K σ w→n≤σ.length→a.tmps.size=N→U8 m K env a.tmps→a.defers = []→c.wp C.P (ma C N n m K Q) a w
mutual
def AV.under(k:Nat):AV→Bool
 | .ptr id _=>Nat.ble (id+1) k
 | .eptr id _ _ _=>Nat.ble (id+1) k
 | .arr id _ _ _=>Nat.ble (id+1) k
 | .agg cs=>AV.unders k cs
 | .tup cs=>AV.unders k cs
 | .iface _ a=>AV.under k a
 | .func _ as bs=>AV.unders k as&&AV.unders k bs
 | .mref id=>Nat.ble (id+1) k
 | .avs id _=>Nat.ble (id+1) k
 | _=>true
def AV.unders(k:Nat):List AV→Bool
 | []=>true
 | a::r=>AV.under k a&&AV.unders k r
end
def AV.isPv:AV→Bool
 | .pv _=>true
 | _=>false
def Ctx.at(C:Ctx)(w:World)(K:KS):Ctx:={ C with w0:=w,K0:=K }
def gv:List Oper→Nat→Bool
 | [],_=>false
 | o::r,i=>match o.guard with
  | some (j,_)=>match Nat.beq j i with
   | true=>true
   | false=>gv r i
  | none=>gv r i
def rq(needed:Bool)(v:AV)(k:AV→Prop):Prop:=match needed with
 | false=>k v
 | true=>isB v fun b=>B1 b (k (.pv (.bool true))) (k (.pv (.bool false)))
def eg(f:AV)(args:List AV):Option (FuncId×List AV):=match f with
 | .pv (.raw (.func (.func g) x y))=>match Nat.beq x.size 0,Nat.beq y.size 0 with
  | true,true=>some (g,args)
  | _,_=>none
 | .func (.func g) first captured=>some (g,first++(args++captured))
 | _=>none
def V1(C:Ctx)(e:Operand→AV)(o:Oper):Option (FuncId×List AV):=
 match o.op with
 | .call { callee:=.value f,args,.. }=>eg (e f) (args.toList.map e)
 | _=>none
def jz(o:Oper):Bool:=
 match o.op with
 | .call { callee:=.value _,.. }=>true
 | _=>false
def P3(ops:List Oper)(env:Env)(o:Oper):Option Bool:=
 match o.guard with
 | none=>some true
 | some (j,want)=>match ops[j]? with
  | some oj=>match oj.dst with
   | some d=>match J6 env d with
    | .pv (.bool b)=>match b,want with
     | true,true=>some true
     | false,false=>some true
     | _,_=>some false
    | .tup []=>some false
    | _=>none
   | none=>none
  | none=>none
def nt(N:Nat)(env:Env)(dst:Option Tmp)(v:AV)(k:Env→Prop):Prop:=match dst with
 | none=>k env
 | some d=>match Nat.ble (d+1) N with
  | true=>k (kz env d v)
  | false=>False
def tdOf(C:Ctx)(o:Oper):TD:=match o.dst with
 | none=>.other
 | some _=>match C.tab o.type with
  | some ti=>ti.td
  | none=>.other
def opK(C:Ctx)(o:Oper)(e:Operand→AV)(σ:A1)(k:AV→A1→Prop):Prop:=
 match jz o with
 | true=>opt (V1 C e o) fun p=>A2 C p.1 p.2 σ k
 | false=>Q3 C o e σ k
def pop(C:Ctx)(N:Nat)(ops:List Oper)(i:Nat)(o:Oper)(env:Env)(σ:A1)(k:Env→A1→Prop):Prop:=
 opK C o (ev C env) σ fun v σ'=>sn (tdOf C o) v fun v=>rq (gv ops i) v fun v=>nt N env o.dst v fun env=>k env σ'
def pops(C:Ctx)(N:Nat)(ops:List Oper):List Oper→Nat→Env→A1→(Env→A1→Prop)→Prop
 | [],_,env,σ,k=>k env σ
 | o::r,i,env,σ,k=>match P3 ops env o with
  | some true=>pop C N ops i o env σ fun env σ=>pops C N ops r (i+1) env σ k
  | some false=>nt N env o.dst (.tup []) fun env=>pops C N ops r (i+1) env σ k
  | none=>False
def fw:TD→Nat
 | .slice _=>3
 | .str=>1
 | _=>0
def F7(C:Ctx)(o:Oper):Nat:=match o.op with
 | .move _| .pick .. | .build .. | .nilCheck _| .binOp .. | .unOp .. | .makeInterface .. | .makeFunc .. | .fieldAddr .. | .field .. | .index .. | .typeAssert .. | .extract ..=>0
 | .call { callee:=.builtin .len,argTypes,.. }=>match argTypes[0]? with
  | some t=>match C.tab t with
   | some ti=>match ti.td with
    | .map _ _=>1
    | _=>0
   | none=>0
  | none=>0
 | .call { callee:=.builtin .min,.. } | .call { callee:=.builtin .max,.. }=>0
 | .load .. | .slice .. | .indexAddr ..=>1
 | .convert _ dst _=>match C.tab dst with
  | some ti=>fw ti.td
  | none=>3
 | .alloc _| .box .. | .makeSlice ..=>2
 | _=>3
def S7:Operand→List Nat
 | .tmp t=>[t]
 | _=>[]
def dh:List Operand→List Nat
 | []=>[]
 | x::r=>S7 x++dh r
def vo:Option Operand→List Nat
 | some x=>S7 x
 | none=>[]
def I7:Op→List Nat
 | .move x| .assign x| .nilCheck x=>S7 x
 | .pick c a b=>S7 c++(S7 a++S7 b)
 | .box _ x=>S7 x
 | .build _ ps| .buildSlice _ _ ps=>dh (ps.toList.map (·.2))
 | .load _ a=>S7 a
 | .store _ a x=>S7 a++S7 x
 | .binOp _ _ x y _=>S7 x++S7 y
 | .unOp _ _ x=>S7 x
 | .convert _ _ x=>S7 x
 | .makeInterface _ x=>S7 x
 | .makeFunc _ as bs=>dh as.toList++dh bs.toList
 | .makeSlice _ l c=>S7 l++S7 c
 | .slice _ x lo hi _=>S7 x++(vo lo++vo hi)
 | .fieldAddr _ x _| .field _ x _=>S7 x
 | .indexAddr _ x i| .index _ x i=>S7 x++S7 i
 | .typeAssert x _ _ _=>S7 x
 | .lookup _ x i _=>S7 x++S7 i
 | .mapUpdate _ x i v=>S7 x++(S7 i++S7 v)
 | .extract t _=>S7 t
 | .call { callee:=.value f,args,.. }=>S7 f++dh args.toList
 | .call { args,.. }=>dh args.toList
 | _=>[]
def ab(e:Edge):Bool:=match e.ground with
 | .textOnly _=>false
 | .gcOnly _=>false
 | _=>true
def U7:List Nat→Nat→Nat
 | [],_=>0
 | x::_,0=>x
 | _::r,k+1=>U7 r k
def befOf(acc:List Nat)(i:Nat):List Edge→Option Nat
 | []=>some 0
 | e::r=>match ab e with
  | false=>befOf acc i r
  | true=>match Nat.ble (e.on+1) i with
   | true=>match befOf acc i r with
    | some s=>some (Nat.lor (Nat.lor s (Nat.pow 2 e.on)) (U7 acc e.on))
    | none=>none
   | false=>none
def befs(i:Nat):List Oper→List Nat→Option (List Nat)
 | [],acc=>some acc
 | o::r,acc=>match befOf acc i o.after.toList with
  | some s=>befs (i+1) r (acc ++ [s])
  | none=>none
def C8(m i:Nat):Bool:=Nat.beq (Nat.land (Nat.shiftRight m i) 1) 1
def lm(ops:List Oper)(o:Oper):List Nat:=match o.guard with
 | none=>[]
 | some (j,_)=>match ops[j]? with
  | some oj=>match oj.dst with
   | some d=>[d]
   | none=>[]
  | none=>[]
def looks(ops:List Oper)(o:Oper):List Nat:=I7 o.op++lm ops o
def softOp(o:Oper):Bool:=match o.op with
 | .store ..=>true
 | .assign _=>true
 | _=>false
def softO(o:Oper):Bool:=softOp o||jz o
def ng(C:Ctx)(i bi:Nat):Nat→List Oper→List Nat→Bool
 | j,p::r,bj::br=>match Nat.beq (F7 C p) 2 && !C8 bi j && !C8 bj i with
  | true=>true
  | false=>ng C i bi (j+1) r br
 | _,_,_=>false
def softB(C:Ctx)(ops:List Oper)(bs:List Nat)(i:Nat)(o:Oper)(bi:Nat):Bool:=softO o&&ng C i bi 0 ops bs
def ptrB:AV→Bool
 | .ptr _ _=>true
 | _=>false
def softAt(C:Ctx)(o:Oper)(env:Env):Bool:=match o.op with
 | .store _ a _=>ptrB (ev C env a)
 | _=>true
def ptrK:AV→Prop→Prop
 | .ptr _ _,x=>x
 | _,_=>False
def softK(C:Ctx)(o:Oper)(env:Env)(x:Prop):Prop:=match o.op with
 | .store _ a _=>ptrK (ev C env a) x
 | _=>x
theorem ptrK_iff{a:AV}{x:Prop}:ptrK a x↔ptrB a=true∧x:=by
 cases a<;>simp[ptrK,ptrB]
theorem softK_iff{C:Ctx}{o:Oper}{env:Env}{x:Prop}:softK C o env x↔softAt C o env=true∧x:=by
 unfold softK softAt
 split
 ·exact ptrK_iff
 ·simp
def po(C:Ctx)(ops:List Oper)(i:Nat)(o:Oper)(bi:Nat)(j:Nat)(p:Oper)(bj:Nat):Bool:=
 match Nat.beq i j with
 | true=>match o.dst with
  | some d=>!pm d (looks ops o)
  | none=>true
 | false=>
  (match p.dst with
   | some d=>(C8 bi j || !pm d (looks ops o)||(C8 bj i&&Nat.beq (F7 C p) 3))&&(match o.dst with
    | some d'=>!Nat.beq d d'
    | none=>true)
   | none=>true) &&
  (match Nat.beq (F7 C o) 3,Nat.beq (F7 C p) 0||Nat.beq (F7 C p) 1 with
   | true,false=>C8 bi j||C8 bj i||(softO o&&Nat.beq (F7 C p) 2)
   | _,_=>true)
def rowOK(C:Ctx)(ops:List Oper)(i:Nat)(o:Oper)(bi:Nat):Nat→List Oper→List Nat→Bool
 | j,p::r,bj::br=>po C ops i o bi j p bj&&rowOK C ops i o bi (j+1) r br
 | _,_,_=>true
def sx(C:Ctx)(ops:List Oper)(bs:List Nat):Nat→List Oper→List Nat→Bool
 | i,o::r,bi::br=>rowOK C ops i o bi 0 ops bs&&sx C ops bs (i+1) r br
 | _,_,_=>true
def noSel:List Oper→Bool
 | []=>true
 | o::r=>match o.op with
  | .select ..=>false
  | _=>noSel r
def R0(C:Ctx):Nat→List Oper→Nat
 | _,[]=>0
 | i,o::r=>match Nat.beq (F7 C o) 3 with
  | true=>Nat.lor (Nat.pow 2 i) (R0 C (i+1) r)
  | false=>R0 C (i+1) r
def K5(C:Ctx)(loud done:Nat):Nat→List Oper→List Nat→List (Nat×Oper)
 | i,o::r,b::br=>match !C8 done i && !Nat.beq (F7 C o) 3&&Nat.beq (Nat.land (Nat.land b loud) done) (Nat.land b loud) with
  | true=>(i,o)::K5 C loud done (i+1) r br
  | false=>K5 C loud done (i+1) r br
 | _,_,_=>[]
def aa(C:Ctx)(done:Nat):Nat→List Oper→List Nat→Option (Nat×Oper×Nat)
 | i,o::r,b::br=>match !C8 done i&&Nat.beq (F7 C o) 3 with
  | true=>some (i,o,b)
  | false=>aa C done (i+1) r br
 | _,_,_=>none
def cd:List (Nat×Oper)→Nat
 | []=>0
 | (i,_)::r=>Nat.lor (Nat.pow 2 i) (cd r)
def uh(C:Ctx)(ops:List Oper)(b done:Nat)(env:Env)(σ:A1):Nat→List Oper→Prop→Prop
 | _,[],k=>k
 | i,o::r,k=>match C8 done i&&Nat.beq (F7 C o) 1 && !C8 b i with
  | true=>(match P3 ops env o with
   | some true=>Q3 C o (ev C env) σ fun v _=>match o.dst with
    | some d=>v=J6 env d
    | none=>True
   | _=>True)∧uh C ops b done env σ (i+1) r k
  | false=>uh C ops b done env σ (i+1) r k
def boxO(t:TypeId)(a:AV):Option M1:=match a.cells.all AV.one with
 | true=>some (.cells t a.cells)
 | false=>none
def mkObj(el:TypeId)(ei:TI)(n c:Int):Option M1:=match de [] el ei n c with
 | some (_,[ob])=>some ob
 | _=>none
def mkRes(ei:TI)(id:Nat)(n:Int):AV:=match AV.ofValue ei.zero with
 | .nilsl=>.avs id n.toNat
 | _=>.arr id n.toNat 0 n.toNat
def W5(C:Ctx)(o:Oper)(e:Operand→AV)(id:Nat):AV:=match o.op with
 | .makeSlice t l _=>match C.tab t with
  | some ti=>match ti.td with
   | .slice el=>match C.tab el with
    | some ei=>match e l with
     | .pv (.int .i64 n)=>mkRes ei id n
     | _=>.dead
    | none=>.dead
   | _=>.dead
  | none=>.dead
 | _=>.ptr id 0
def az(C:Ctx)(o:Oper)(e:Operand→AV):Option M1:=match o.op with
 | .makeSlice t l c=>match C.tab t with
  | some ti=>match ti.td with
   | .slice el=>match C.tab el with
    | some ei=>match e l,e c with
     | .pv (.int .i64 n),.pv (.int .i64 m)=>mkObj el ei n m
     | _,_=>none
    | none=>none
   | _=>none
  | none=>none
 | .alloc t=>match C.tab t with
  | some ti=>some (newObj C t ti)
  | none=>none
 | .box t x=>match (e x).cells.all AV.one with
  | true=>some (.cells t (e x).cells)
  | false=>none
 | _=>none
def nu(σ S:A1):A1:=match S with
 | []=>σ
 | _=>σ++S
def gz(C:Ctx)(N:Nat)(ops:List Oper)(σ:A1):List (Nat×Oper)→Env→List M1→(Env→List M1→Prop)→Prop
 | [],env,S,k=>k env S
 | (i,o)::r,env,S,k=>match P3 ops env o with
  | some true=>match Nat.beq (F7 C o) 2 with
   | true=>match o.guard with
    | none=>opt (az C o (ev C env)) fun ob=>nt N env o.dst (W5 C o (ev C env) (σ.length+S.length)) fun env=>gz C N ops σ r env (S ++ [ob]) k
    | some _=>False
   | false=>Q3 C o (ev C env) σ fun v _=>sn (tdOf C o) v fun v=>rq (gv ops i) v fun v=>nt N env o.dst v fun env=>gz C N ops σ r env S k
  | some false=>nt N env o.dst (.tup []) fun env=>gz C N ops σ r env S k
  | none=>False
def wc(C:Ctx)(N:Nat)(ops:List Oper)(i:Nat)(o:Oper)(b done:Nat)(env:Env)(σ:A1)(k:Env→A1→Prop):Prop:=
 match P3 ops env o with
 | some true=>pop C N ops i o env σ fun env σ=>uh C ops b done env σ 0 ops (k env σ)
 | some false=>nt N env o.dst (.tup []) fun env=>k env σ
 | none=>False
def aloneK(C:Ctx)(f:FuncId)(args:List AV)(k:AV→Prop):Prop:=
 args.all AV.isPv=true ∧ ∃P:AV→Prop,(∀ w K,Below C.w0.heap.size C.w0 w→A2 (C.at w K) f args [] fun r _=>AV.under 0 r=true∧P r) ∧ ∀r,P r→k r
def psoft(C:Ctx)(N:Nat)(ops:List Oper)(i:Nat)(o:Oper)(b done:Nat)(env:Env)(σ:A1)(k:Env→A1→Prop):Prop:=
 match jz o with
 | false=>softK C o env (wc C N ops i o b done env σ k)
 | true=>match P3 ops env o with
  | some true=>opt (V1 C (ev C env) o) fun p=>aloneK C p.1 p.2 fun v=>sn (tdOf C o) v fun v=>rq (gv ops i) v fun v=>nt N env o.dst v fun env=>k env σ
  | some false=>nt N env o.dst (.tup []) fun env=>k env σ
  | none=>False
def ec(C:Ctx)(N:Nat)(ops:List Oper)(bs:List Nat)(loud:Nat):Nat→Nat→Env→A1→List M1→(Env→A1→Prop)→Prop
 | 0,_,_,_,_,_=>False
 | fuel+1,done,env,σ,S,k=>
  gz C N ops σ (K5 C loud done 0 ops bs) env S fun env S=>
   match aa C done 0 ops bs with
   | none=>k env (nu σ S)
   | some (i,o,b)=>match softB C ops bs i o b with
    | true=>psoft C N ops i o b (Nat.lor done (cd (K5 C loud done 0 ops bs))) env σ fun env σ=>
     ec C N ops bs loud fuel (Nat.lor (Nat.lor done (cd (K5 C loud done 0 ops bs))) (Nat.pow 2 i)) env σ S k
    | false=>wc C N ops i o b (Nat.lor done (cd (K5 C loud done 0 ops bs))) env (nu σ S) fun env σ=>
     ec C N ops bs loud fuel (Nat.lor (Nat.lor done (cd (K5 C loud done 0 ops bs))) (Nat.pow 2 i)) env σ [] k
def pdraw(C:Ctx)(N:Nat)(ops:List Oper)(env:Env)(σ:A1)(k:Env→A1→Prop):Prop:=
 match befs 0 ops [] with
 | some bs=>match noSel ops&&sx C ops bs 0 ops bs with
  | true=>ec C N ops bs (R0 C 0 ops) (ops.length+1) 0 env σ [] k
  | false=>False
 | none=>False
def fb(P:Program)(c:Code)(Q:Exit→Act→World→Prop)(a:Act)(w:World):Prop:=
 ∀(b:Frame) (k:List Item) (cs:List Frame),∃e a' w',Q e a' w'∧Arrives P (lone (b.at a (.code c :: .inLoop c::k)) cs w) b k cs e a' w'
def Z2(C:Ctx)(N n:Nat)(c:Code)(env:Env)(σ:A1)(Q:Exit→Env→A1→Prop):Prop:=
 ∀m K w a,C5 C m K σ w→n≤σ.length→a.tmps.size=N→U8 m K env a.tmps→a.defers = []→fb C.P c (ma C N n m K Q) a w
def F2(k:Env→A1→Prop)(Q:Exit→Env→A1→Prop):Exit→Env→A1→Prop
 | .normal,env,σ=>k env σ
 | e,env,σ=>Q e env σ
def I3(id:Nat)(Q:Exit→Env→A1→Prop):Exit→Env→A1→Prop
 | .exit j,env,σ=>match Nat.beq j id with
  | true=>Q .normal env σ
  | false=>Q (.exit j) env σ
 | e,env,σ=>Q e env σ
def W2:Code→Nat
 | .seq a b=>W2 a+W2 b+1
 | .cond _ a b=>W2 a+W2 b+1
 | .block _ c=>W2 c+1
 | .loop c=>W2 c+1
 | .scope c=>W2 c+1
 | _=>1
def cAt:Code→Nat→Code
 | c,0=>c
 | .seq a b,k+1=>match Nat.ble (k+1) (W2 a) with
  | true=>cAt a k
  | false=>cAt b (k-W2 a)
 | .cond _ a b,k+1=>match Nat.ble (k+1) (W2 a) with
  | true=>cAt a k
  | false=>cAt b (k-W2 a)
 | .block _ c,k+1=>cAt c k
 | .loop c,k+1=>cAt c k
 | .scope c,k+1=>cAt c k
 | c,_=>c
def V7(C:Ctx)(N:Nat)(L:Nat→List Nat)(n:Nat):Code→Nat→Env→A1→(Exit→Env→A1→Prop)→Prop
 | .skip,_,env,σ,Q=>Q .normal env σ
 | .label _,_,env,σ,Q=>Q .normal env σ
 | .region _ ops draw,_,env,σ,Q=>match draw with
  | true=>pdraw C N ops.toList env σ (Q .normal)
  | false=>pops C N ops.toList ops.toList 0 env σ (Q .normal)
 | .seq a b,k,env,σ,Q=>V7 C N L n a (k+1) env σ (F2 (fun env σ=>V7 C N L n b (k+1+W2 a) (prune (L (k+1+W2 a)) env) σ Q) Q)
 | .cond c t f,k,env,σ,Q=>isB (ev C env c) fun b=>B1 b (V7 C N L n t (k+1) env σ Q) (V7 C N L n f (k+1+W2 t) env σ Q)
 | .block id c,k,env,σ,Q=>V7 C N L n c (k+1) env σ (I3 id Q)
 | .loop c,k,env,σ,Q=>Z2 C N n c (prune (L k) env) σ Q
 | .exit id,_,env,σ,Q=>Q (.exit id) env σ
 | .ret,_,env,σ,Q=>Q .ret env σ
 | _,_,_,_,_=>False
def Weak(C:Ctx)(n:Nat)(r:AV)(σ:A1)(r':AV)(σ':A1):Prop:=
 ∀m K w v,C5 C m K σ w→C7 m K r v → ∃m' K',C5 C m' K' σ' w∧C7 m' K' r' v∧Le n m K m' K'∧n≤σ'.length
def D9(C:Ctx)(n:Nat)(r:AV)(σ:A1)(R:AV→A1→Prop):Prop:=∃r' σ',Weak C n r σ r' σ'∧R r' σ'
def aRes(C:Ctx)(env:Env)(σ:A1):List ResultVar→(List AV→Prop)→Prop
 | [],k=>k []
 | .tmp t::r,k=>aRes C env σ r fun vs=>k (J6 env t::vs)
 | .cell a t::r,k=>opt (C.tab t) fun ti=>opt (A6 σ ti (J6 env a)) fun v=>aRes C env σ r fun vs=>k (v::vs)
def one(vs:List AV):AV:=match vs with
 | [v]=>v
 | vs=>.tup vs
def B9(C:Ctx)(fn:Func)(n:Nat)(R:AV→A1→Prop):Exit→Env→A1→Prop
 | .ret,env,σ=>aRes C env σ fn.results.toList fun vs=>D9 C n (one vs) σ R
 | .normal,env,σ=>aRes C env σ fn.results.toList fun vs=>D9 C n (one vs) σ R
 | _,_,_=>False
def H3:Nat→List AV→Env
 | _,[]=>[]
 | t,a::r=>(t,a)::H3 (t+1) r
def F0(fn:Func):Code:=match fn.body with
 | some c=>c
 | none=>.skip
end
section
open Go Go.RowKit
def Ext(m:Mp)(K:KS)(m':Mp)(K':KS):Prop:=(∀ id ver l,m id ver=some l→m' id ver=some l) ∧ ∀b o v,K b o v→K' b o v
theorem Ext.refl(m:Mp)(K:KS):Ext m K m K:=⟨fun _ _ _ h=>h,fun _ _ _ h=>h⟩
theorem Ext.trans{m K m' K' m'' K''}(h:Ext m K m' K')(h':Ext m' K' m'' K''):Ext m K m'' K'':=⟨fun _ _ _ x=>h'.1 _ _ _ (h.1 _ _ _ x),fun _ _ _ x=>h'.2 _ _ _ (h.2 _ _ _ x)⟩
theorem Ext.le{m K m' K'}(h:Ext m K m' K')(n:Nat):Le n m K m' K':=⟨fun _ _ _ _ x=>h.1 _ _ _ x,h.2⟩
theorem Le.refl(n:Nat)(m:Mp)(K:KS):Le n m K m K:=⟨fun _ _ _ _ h=>h,fun _ _ _ h=>h⟩
theorem Le.trans{n m K m' K' m'' K''}(h:Le n m K m' K')(h':Le n m' K' m'' K''):Le n m K m'' K'':=⟨fun _ _ _ hi x=>h'.1 _ _ _ hi (h.1 _ _ _ hi x),fun _ _ _ x=>h'.2 _ _ _ (h.2 _ _ _ x)⟩
theorem Le.less{n k m K m' K'}(h:Le n m K m' K')(hk:k≤n):Le k m K m' K':=⟨fun _ _ _ hi x=>h.1 _ _ _ (Nat.lt_of_lt_of_le hi hk) x,h.2⟩
theorem Le.ext{C:Ctx}{σ:A1}{w:World}{m K m' K'}(h:Le σ.length m K m' K')(hB:C5 C m K σ w):Ext m K m' K':=⟨fun _ _ _ x=>h.1 _ _ _ (hB.dom _ _ _ x) x,h.2⟩
theorem N7.mono{K K':KS}(h:∀b o v,K b o v→K' b o v){p:PV}{v:Value}(r:N7 K p v):N7 K' p v:=by
 induction r with
 | int k n=>exact .int k n
 | bool b=>exact .bool b
 | str s=>exact .str s
 | raw v h1=>exact .raw v h1
 | slNil a c=>exact .slNil a c
 | sl xs es b o c vs hc he hl hr hk ih=>exact .sl xs es b o c vs hc he hl (fun j p v h1 h2=>ih j p v h1 h2) (fun j v hv=>h _ _ _ (hk j v hv))
 | agg cs vs hl hr h1 ih=>exact .agg cs vs hl (fun j p v a b=>ih j p v a b) h1
 | iface t p v hp ih=>exact .iface t p v ih
theorem C7.mono{m m':Mp}{K K':KS}(h:Ext m K m' K'){a:AV}{v:Value}(r:C7 m K a v):C7 m' K' a v:=by
 induction r with
 | pv p v hp=>exact .pv p v (hp.mono h.2)
 | nilsl=>exact .nilsl
 | ptr id off b cap es hm=>exact .ptr id off b cap es (h.1 _ _ _ hm)
 | eptr id ver i off b cap es hm hi=>exact .eptr id ver i off b cap es (h.1 _ _ _ hm) hi
 | ro p off b o vs hl hr hk=>exact .ro p off b o vs hl (fun j q v x y=>(hr j q v x y).mono h.2) (fun j v x=>h.2 _ _ _ (hk j v x))
 | arr id ver off len b cap es c a hm hc hl hv ha=>exact .arr id ver off len b cap es c a (h.1 _ _ _ hm) hc hl hv ha
 | arrNil id hm=>exact .arrNil id (h.1 _ _ _ hm)
 | agg cs vs hl hr h1 ih=>exact .agg cs vs hl (fun j p v a b=>ih j p v a b) h1
 | tup cs vs hl hr ih=>exact .tup cs vs hl (fun j p v a b=>ih j p v a b)
 | iface t p v hp ih=>exact .iface t p v ih
 | func fn as bs us vs hl hr hl' hr' ih ih'=>exact .func fn as bs us vs hl (fun j p v a b=>ih j p v a b) hl' (fun j p v a b=>ih' j p v a b)
 | mref id b cap es hm=>exact .mref id b cap es (h.1 _ _ _ hm)
 | avs id len b cap es hm=>exact .avs id len b cap es (h.1 _ _ _ hm)
 | dead v=>exact .dead v
theorem U8.mono{m m' K K'}(h:Ext m K m' K'){env:Env}{vs:Array Value}(r:U8 m K env vs):U8 m' K' env vs:=fun t=>(r t).mono h
theorem P8(u t:Nat):(u=t∧Nat.beq u t=true)∨(u≠t∧Nat.beq u t=false):=by
 by_cases h:u=t
 ·exact .inl ⟨h,by subst h;simp⟩
 ·refine .inr ⟨h,?_⟩
  cases hb:Nat.beq u t with
  | true=>exact absurd (Nat.eq_of_beq_eq_true hb) h
  | false=>rfl
theorem nj(env:Env)(d t:Nat)(v:AV):J6 (kz env d v) t=if d=t then v else J6 env t:=by
 induction env with
 | nil=>
  simp only[kz,J6]
  rcases P8 d t with ⟨h,hb⟩|⟨h,hb⟩<;>simp[h,hb]
 | cons x r ih=>
  obtain ⟨u,a⟩:=x
  simp only[kz]
  rcases P8 u d with ⟨h,hb⟩|⟨h,hb⟩
  ·subst h
   simp only[hb,J6]
   rcases P8 u t with ⟨h,hb⟩|⟨h,hb⟩<;>simp[h,hb]
  ·simp only[hb]
   cases Nat.ble u d with
   | true=>
    simp only[J6]
    rcases P8 u t with ⟨h',hb'⟩|⟨h',hb'⟩
    ·subst h'
     simp[hb',Ne.symm h]
    ·simp only[hb',ih]
   | false=>
    simp only[J6]
    rcases P8 d t with ⟨h',hb'⟩|⟨h',hb'⟩<;>simp[h',hb']
theorem getE_prune(l:List Nat)(env:Env)(t:Nat):J6 (prune l env) t=J6 env t∨J6 (prune l env) t = .dead:=by
 induction env with
 | nil=>exact .inl rfl
 | cons x r ih=>
  obtain ⟨u,a⟩:=x
  cases hm:pm u l with
  | true=>
   simp only[prune,hm,J6]
   cases Nat.beq u t with
   | true=>exact .inl rfl
   | false=>exact ih
  | false=>
   simp only[prune,hm,J6]
   rcases P8 u t with ⟨h',hb'⟩|⟨h',hb'⟩
   ·subst h'
    right
    have:∀r:Env,J6 (prune l r) u = .dead:=by
     intro r
     induction r with
     | nil=>rfl
     | cons y r ih=>
      obtain ⟨z,b⟩:=y
      cases hz:pm z l with
      | true=>
       simp only[prune,hz,J6]
       rcases P8 z u with ⟨h2,hb2⟩|⟨h2,hb2⟩
       ·subst h2;rw[hm] at hz;cases hz
       ·simp only[hb2];exact ih
      | false=>simp only[prune,hz];exact ih
    exact this r
   ·simp only[hb'];exact ih
theorem U8.prune{m K env vs}(h:U8 m K env vs)(l:List Nat):U8 m K (prune l env) vs:=by
 intro t
 rcases getE_prune l env t with e|e<;>rw[e]
 ·exact h t
 ·exact .dead _
theorem wj(vs:Array Value)(d t:Nat)(x y:Value):(vs.setIfInBounds d x).getD t y=if d=t∧d<vs.size then x else vs.getD t y:=by
 simp only[Array.getD_eq_getD_getElem?,Array.getElem?_setIfInBounds]
 by_cases h:d=t
 ·subst h
  by_cases h2:d<vs.size
  ·simp[h2]
  ·simp[h2,Array.getElem?_eq_none (Nat.le_of_not_lt h2)]
 ·simp[h]
theorem U8.put{m K env vs}(h:U8 m K env vs){d:Nat}{v:AV}{x:Value}(hd:d<vs.size)(hv:C7 m K v x):U8 m K (kz env d v) (vs.setIfInBounds d x):=by
 intro t
 rw[nj,wj]
 by_cases e:d=t
 ·simp only[e,if_true]
  subst e
  simp only[hd,and_self,if_true]
  exact hv
 ·simp only[e,if_false,false_and]
  exact h t
theorem argsE_get(as:List AV)(k t:Nat):J6 (H3 k as) t=if k≤t then (as[t-k]?).getD .dead else .dead:=by
 induction as generalizing k with
 | nil=>simp[H3,J6]
 | cons a r ih=>
  simp only[H3,J6]
  rcases P8 k t with ⟨h,hb⟩|⟨h,hb⟩
  ·subst h;simp[hb]
  ·simp only[hb,ih]
   by_cases hk:k≤t
   ·have e1:k+1≤t:=by omega
    have e2:t-k=t-(k+1)+1:=by omega
    simp[hk,e1,e2]
   ·have e1:¬k+1≤t:=by omega
    simp[hk,e1]
theorem U8.args{m K}{as:List AV}{vs:Array Value}(h:jb m K as vs)(n:Nat):U8 m K (H3 0 as) (vs++Array.replicate n undef):=by
 intro t
 rw[argsE_get]
 simp only[Nat.zero_le,if_true,Nat.sub_zero]
 cases ha:as[t]? with
 | none=>exact .dead _
 | some a=>
  have hlt:t<vs.size:=by
   have:=(List.getElem?_eq_some_iff.1 ha).1
   rw[← h.1];exact this
  have hv:vs[t]? = some vs[t]:=Array.getElem?_eq_getElem hlt
  have:=h.2 t a _ ha hv
  have e:(vs++Array.replicate n undef).getD t undef=vs[t]:=by
   simp[Array.getD_eq_getD_getElem?,Array.getElem?_append,hlt,hv]
  rw[e]
  exact this
theorem ir{cs:List AV}{ps:List PV}(h:aw cs=some ps):cs=ps.map .pv:=by
 induction cs generalizing ps with
 | nil=>simp[aw] at h;subst h;rfl
 | cons a r ih=>
  cases a with
  | pv p=>
   simp only[aw] at h
   cases hr:aw r with
   | none=>simp[hr] at h
   | some qs=>simp[hr] at h;subst h;simp[ih hr]
  | _=>simp[aw] at h
theorem qh(ps:List PV):aw (ps.map .pv)=some ps:=by
 induction ps with
 | nil=>rfl
 | cons p r ih=>simp[aw,ih]
theorem C7.pv_inv{m K p v}(h:C7 m K (.pv p) v):N7 K p v:=by cases h;assumption
theorem cg{m K}{cs:List AV}{vs:Array Value}(hl:cs.length=vs.size)(hr:∀(j:Nat) p v,cs[j]? = some p→vs[j]? = some v→C7 m K p v)
  (h1:∀(j:Nat) (v:Value),vs[j]? = some v→v.oneCell'=true):C7 m K (em cs) (.agg vs):=by
 unfold em
 cases h:aw cs with
 | none=>exact .agg cs vs hl hr h1
 | some ps=>
  have e:=ir h
  subst e
  refine .pv _ _ (.agg ps vs (by simpa using hl) (fun j p v hp hv=>?_) h1)
  exact (hr j (.pv p) v (by simp[hp]) hv).pv_inv
theorem kb(m:Mp)(K:KS)(v:Value):C7 m K (AV.ofLeaf v) v:=by
 unfold AV.ofLeaf
 split
 ·exact .pv _ _ (.int _ _)
 ·exact .pv _ _ (.bool _)
 ·rename_i s
  have:s=⟨s.data.toList.toArray⟩:=by cases s;simp
  exact .pv _ _ (by conv=>rhs;rw[this]
                    exact .str _)
 ·exact .nilsl
 ·exact .pv _ _ (.raw _ rfl)
 ·exact .pv _ _ (.raw _ rfl)
 ·exact .pv _ _ (.raw _ rfl)
 ·exact .pv _ _ (.raw _ rfl)
 ·rename_i f first captured
  split
  ·rename_i h
   have e1:=Array.eq_empty_of_size_eq_zero h.1
   have e2:=Array.eq_empty_of_size_eq_zero h.2
   subst e1;subst e2
   exact .pv _ _ (.raw _ rfl)
  ·exact .dead _
 ·exact .dead _
theorem U4(m:Mp)(K:KS)(v:Value):C7 m K (AV.ofValue v) v:=by
 unfold AV.ofValue
 split
 ·rename_i cs
  split
  ·rename_i h
   refine cg (by simp) (fun j p v hp hv=>?_) (fun j v hv=>?_)
   ·simp only[List.getElem?_map,Option.map_eq_some_iff] at hp
    obtain ⟨u,hu,rfl⟩:=hp
    have:u=v:=Option.some.inj (hu.symm.trans (by simpa using hv))
    subst this
    exact kb m K u
   ·rw[List.all_eq_true] at h
    exact h v (by simpa using Array.mem_of_getElem? hv)
  ·exact .dead _
 ·exact kb m K _
theorem N7.oneCell{K p v}(h:N7 K p v)(h1:PV.one p=true):v.oneCell'=true:=by
 cases h<;>first|rfl|assumption|(simp [PV.one] at h1)
theorem C7.oneCell{m K a v}(h:C7 m K a v)(h1:AV.one a=true):v.oneCell'=true:=by
 cases h with
 | pv p v hp=>cases p<;>first|exact hp.oneCell rfl|(simp [AV.one] at h1)
 | _=>first|rfl|(simp [AV.one] at h1)
theorem cells_one{v:Value}(h:v.oneCell'=true):v.cells = #[v]:=by
 cases v<;>first|rfl|(simp [Value.oneCell'] at h)
theorem iv{m K a v}(h:C7 m K a v)(h1:a.cells.all AV.one=true):a.cells.length=v.cells.size ∧
  ∀(j:Nat) b u,a.cells[j]? = some b→v.cells[j]? = some u→C7 m K b u∧u.oneCell'=true:=by
 have single:∀{a:AV} {v:Value},C7 m K a v→AV.one a=true→a.cells = [a]→a.cells.length=v.cells.size ∧
   ∀(j:Nat) b u,a.cells[j]? = some b→v.cells[j]? = some u→C7 m K b u∧u.oneCell'=true:=by
  intro a v h h1 e
  have hv:=h.oneCell h1
  rw[e,cells_one hv]
  refine ⟨rfl,fun j b u hb hu=>?_⟩
  cases j with
  | zero=>simp at hb hu;subst hb;subst hu;exact ⟨h,hv⟩
  | succ j=>simp at hb
 cases h with
 | pv p v hp=>
  cases hp with
  | agg cs vs hl hr hv=>
   refine ⟨by simp[AV.cells,PV.cells,Value.cells,hl],fun j b u hb hu=>?_⟩
   simp only[AV.cells,PV.cells,List.getElem?_map,Option.map_eq_some_iff] at hb
   obtain ⟨p,hp,rfl⟩:=hb
   exact ⟨.pv _ _ (hr j p u hp hu),hv j u hu⟩
  | int k n=>exact single (.pv _ _ (.int k n)) rfl rfl
  | bool b=>exact single (.pv _ _ (.bool b)) rfl rfl
  | str s=>exact single (.pv _ _ (.str s)) rfl rfl
  | raw v hv=>exact single (.pv _ _ (.raw v hv)) rfl rfl
  | slNil a c=>exact single (.pv _ _ (.slNil a c)) rfl rfl
  | sl xs es b o c vs hc he hl hr hk=>exact single (.pv _ _ (.sl xs es b o c vs hc he hl hr hk)) rfl rfl
  | iface t p v hp=>exact single (.pv _ _ (.iface t p v hp)) rfl rfl
 | agg cs vs hl hr hv=>exact ⟨hl,fun j b u hb hu=>⟨hr j b u hb hu,hv j u hu⟩⟩
 | tup cs vs hl hr=>simp[AV.cells,AV.one] at h1
 | dead v=>simp[AV.cells,AV.one] at h1
 | nilsl=>exact single .nilsl rfl rfl
 | ptr id off b cap es hm=>exact single (.ptr id off b cap es hm) rfl rfl
 | eptr id ver i off b cap es hm hi=>exact single (.eptr id ver i off b cap es hm hi) rfl rfl
 | ro p off b o vs hl hr hk=>exact single (.ro p off b o vs hl hr hk) rfl rfl
 | arr id ver off len b cap es c a hm hc hl hv ha=>exact single (.arr id ver off len b cap es c a hm hc hl hv ha) rfl rfl
 | arrNil id hm=>exact single (.arrNil id hm) rfl rfl
 | iface t p v hp=>exact single (.iface t p v hp) rfl rfl
 | func fn as bs us vs hl hr hl' hr'=>exact single (.func fn as bs us vs hl hr hl' hr') rfl rfl
 | mref id b cap es hm=>exact single (.mref id b cap es hm) rfl rfl
 | avs id len b cap es hm=>exact single (.avs id len b cap es hm) rfl rfl
theorem ev_rep{C:Ctx}{m K σ w}(hB:C5 C m K σ w){env:Env}{a:Act}(he:U8 m K env a.tmps)(x:Operand):C7 m K (ev C env x) (a.eval x):=by
 cases x with
 | tmp t=>exact he t
 | const v=>exact U4 m K v
 | global g=>
  simp only[ev,Act.eval]
  cases h:C.glob g with
  | none=>exact .dead _
  | some a=>exact hB.glob g a h
 | func f=>exact .pv _ _ (.raw _ rfl)
def zOK(ti:TI):Bool:=Nat.beq ti.zero.cells.size ti.size&&ti.zero.cells.toList.all Value.oneCell'
def eqOK(P:Program)(t:TypeId):Bool:=match P.underlying t with
 | some (.struct fs)=>!P.stoodInHeld t&&(!P.eqGuardType P.depth t&&fs.toList.all fun f=>f.name != "_")
 | _=>false
def N0(P:Program)(t:TypeId)(ti:TI):Prop:=
 ∃i d,P.info? t=some i∧P.underlying t=some d∧i.zero=some ti.zero∧i.size=ti.size∧i.bytes=ti.bytes∧TD.of d=ti.td∧zOK ti=true∧(ti.eqs=true→eqOK P t=true)
theorem N0.zero{P:Program}{t:TypeId}{ti:TI}(h:N0 P t ti):ti.zero.cells.size=ti.size ∧ ∀(j:Nat) (v:Value),ti.zero.cells[j]? = some v→v.oneCell'=true:=by
 obtain ⟨_,_,_,_,_,_,_,_,hz,_⟩:=h
 simp only[zOK,Bool.and_eq_true] at hz
 refine ⟨Nat.eq_of_beq_eq_true hz.1,fun j v hv=>?_⟩
 have:=hz.2
 rw[List.all_eq_true] at this
 exact this v (by simpa using Array.mem_of_getElem? hv)
theorem sa{P:Program}{t:TypeId}{ti:TI}(h:N0 P t ti)(w:World):(isAgg t).run P w = .ok ti.td.isAgg w:=by
 obtain ⟨i,d,_,hd,_,_,_,e,_⟩:=h
 unfold isAgg
 simp only[Sem.run_bind,run_underlying hd,Result.andThen_ok]
 rw[← e]
 cases d<;>rfl
theorem R3{P:Program}{t:TypeId}{ti:TI}(h:N0 P t ti)(w:World):(sizeOf t).run P w = .ok ti.size w:=by
 obtain ⟨i,d,hi,_,_,hs,_,_,_⟩:=h
 simp[sizeOf,typeInfo,hi,hs]
theorem Y8{P:Program}{t:TypeId}{ti:TI}(h:N0 P t ti)(w:World):(zeroValue t).run P w = .ok ti.zero w:=by
 obtain ⟨i,d,hi,_,hz,_,_,_,_⟩:=h
 simp[zeroValue,typeInfo,hi,hz]
def mr(m:Mp)(K:KS)(w:World)(b o:Nat)(cs:List AV):Prop:=
 ∀(j:Nat) a,cs[j]? = some a → ∃v,w.cell? ⟨b,o+j,none⟩=some v∧C7 m K a v∧v.oneCell'=true
theorem R2(b o n:Nat):(⟨b,o,none⟩:Addr).add n=⟨b,o+n,none⟩:=by
 unfold Addr.add
 split
 ·rename_i h;subst h;rfl
 ·rfl
theorem oq{m K w b o}{cs:List AV}(h:mr m K w b o cs):∃vs:List Value,vs.length=cs.length ∧
  ∀(j:Nat) a,cs[j]? = some a → ∃v,vs[j]? = some v∧w.cell? ⟨b,o+j,none⟩=some v∧C7 m K a v∧v.oneCell'=true:=by
 induction cs generalizing o with
 | nil=>exact ⟨[],rfl,fun j a h=>by simp at h⟩
 | cons c r ih=>
  obtain ⟨v,hv,hr,h1⟩:=h 0 c rfl
  obtain ⟨vs,hl,hs⟩:=ih (o:=o+1) (fun j a hj=>by
   obtain ⟨v,hv,hr⟩:=h (j+1) a (by simpa using hj)
   exact ⟨v,by rw[show o+1+j=o+(j+1) by omega];exact hv,hr⟩)
  refine ⟨v::vs,by simp[hl],fun j a hj=>?_⟩
  cases j with
  | zero=>simp at hj;subst hj;exact ⟨v,rfl,hv,hr,h1⟩
  | succ j=>
   obtain ⟨u,hu,hc,hr⟩:=hs j a (by simpa using hj)
   exact ⟨u,by simpa using hu,by rw[show o+(j+1)=o+1+j by omega];exact hc,hr⟩
theorem fk{P:Program}{t:TypeId}{ti:TI}(hT:N0 P t ti){m K w b o off}{cs:List AV}(h:mr m K w b o cs){r:AV}(hp:ji ti.td.isAgg ti.size off cs=some r):
  ∃v,(loadVar t ⟨b,o+off,none⟩).run P w = .ok v w∧C7 m K r v:=by
 unfold loadVar
 simp only[Sem.run_bind,sa hT,Result.andThen_ok]
 unfold ji at hp
 cases ha:ti.td.isAgg with
 | true=>
  rw[ha] at hp
  simp only[if_true] at hp ⊢
  split at hp
  ·rename_i hle
   cases hp
   obtain ⟨vs,hl,hs⟩:=oq h
   have hcell:∀j v,((vs.drop off).take ti.size)[j]? = some v→w.cell? ((⟨b,o+off,none⟩:Addr).add j)=some v:=by
    intro j v hj
    rw[List.getElem?_take] at hj
    split at hj
    ·rename_i hlt
     rw[List.getElem?_drop] at hj
     obtain ⟨u,hu,hc,_⟩:=hs (off+j) (cs[off+j]'(by omega)) (List.getElem?_eq_getElem (by omega))
     rw[hu] at hj
     cases hj
     rw[R2,show o+off+j=o+(off+j) by omega]
     exact hc
    ·simp at hj
   have hlen:((vs.drop off).take ti.size).length=ti.size:=by
    rw[List.length_take,List.length_drop];omega
   have hrun:=run_loadCells_list (P:=P) w ⟨b,o+off,none⟩ ((vs.drop off).take ti.size) hcell
   rw[hlen] at hrun
   refine ⟨_,by simp[R3 hT,hrun];rfl,?_⟩
   refine cg (by simp only[List.length_take,List.length_drop,List.size_toArray];omega) (fun j p v hp hv=>?_) (fun j v hv=>?_)
   ·simp only[List.getElem?_toArray] at hv
    rw[List.getElem?_take] at hp hv
    split at hp
    ·rename_i hlt
     simp only[hlt,if_true] at hv
     rw[List.getElem?_drop] at hp hv
     obtain ⟨u,hu,_,hr,_⟩:=hs (off+j) p hp
     rw[hu] at hv;cases hv
     exact hr
    ·simp at hp
   ·simp only[List.getElem?_toArray] at hv
    rw[List.getElem?_take] at hv
    split at hv
    ·rename_i hlt
     rw[List.getElem?_drop] at hv
     have:off+j<cs.length:=by
      have:=(List.getElem?_eq_some_iff.1 hv).1
      omega
     obtain ⟨u,hu,_,_,h1⟩:=hs (off+j) _ (List.getElem?_eq_getElem this)
     rw[hu] at hv;cases hv
     exact h1
    ·simp at hv
  ·cases hp
 | false=>
  rw[ha] at hp
  simp only[Bool.false_eq_true,if_false] at hp ⊢
  obtain ⟨v,hv,hr,_⟩:=h off r hp
  refine ⟨v,?_,hr⟩
  rw[run_load]
  simp[hv]
theorem gq{ag:Bool}{n off:Nat}{p q:PV}(h:ga ag n off p=some q):ji ag n off (p.cells.map .pv)=some (.pv q):=by
 unfold ga at h
 cases ag with
 | true=>
  simp only[if_true] at h
  cases p with
  | agg cs=>
   show (if off+n≤(cs.map AV.pv).length then some (em (((cs.map AV.pv).drop off).take n)) else none)=some (.pv q)
   simp only at h
   split at h
   ·rename_i hc
    cases h
    rw[if_pos (by simp;omega)]
    rw[hc.1]
    simp only[List.drop_zero]
    rw[List.take_of_length_le (by simp;omega)]
    simp[em,qh]
   ·split at h
    ·rename_i hle
     cases h
     rw[if_pos (by simpa using hle)]
     have e:((cs.map AV.pv).drop off).take n=((cs.drop off).take n).map .pv:=by simp
     rw[e]
     unfold em
     rw[qh]
    ·cases h
  | _=>simp at h
 | false=>
  simp only[Bool.false_eq_true,if_false] at h
  simp[ji,h]
end
section
open Go Go.RowKit
structure X5(g:Nat)(w w':World):Prop where
 os:w'.os=w.os
 tape:w'.tape=w.tape
 output:w'.output=w.output
 size:w'.heap.size=w.heap.size
 block:∀k,k≠g→w'.heap[k]? = w.heap[k]?
theorem X5.refl(g:Nat)(w:World):X5 g w w:=⟨rfl,rfl,rfl,rfl,fun _ _=>rfl⟩
theorem X5.trans{g a b c}(h:X5 g a b)(k:X5 g b c):X5 g a c:=
 ⟨k.os.trans h.os,k.tape.trans h.tape,k.output.trans h.output,k.size.trans h.size,fun i hi=>(k.block i hi).trans (h.block i hi)⟩
theorem X5.below{g B w0 w w'}(h:X5 g w w')(hb:Below B w0 w)(hg:B≤g):Below B w0 w':=
 hb.trans ⟨h.os,h.tape,h.output,by rw[h.size];exact Nat.le_refl _,fun k hk=>h.block k (by omega)⟩
theorem X5.setCell(w:World)(a:Addr)(v:Value):X5 a.block w (w.setCell a v):=
 ⟨rfl,rfl,rfl,by simp,fun k hk=>Below.heap_setCell _ _ _ _ hk⟩
theorem T3(w:World)(b o:Nat){cs:Array Value}{t:TypeId}{fr:Nat×Nat}(h:w.heap[b]? = some (.cells cs t fr)):w.cell? ⟨b,o,none⟩=cs[o]?:=by
 simp[World.cell?,h]
theorem ly(w:World)(b o:Nat){cs:Array Value}{t:TypeId}{fr:Nat×Nat}(h:w.heap[b]? = some (.cells cs t fr)):w.frozen? ⟨b,o,none⟩=(decide (fr.1≤o)&&decide (o<fr.2)):=by
 obtain ⟨lo,hi⟩:=fr
 simp[World.frozen?,h]
theorem dq{w:World}{b o:Nat}{v:Value}(h:w.cell? ⟨b,o,none⟩=some v):∃cs t fr,w.heap[b]? = some (.cells cs t fr)∧cs[o]? = some v:=by
 unfold World.cell? at h
 split at h
 ·rename_i c t fr hb
  exact ⟨c,t,fr,hb,by simpa using h⟩
 ·cases h
theorem heap_setCell(w:World)(b o:Nat)(v:Value){cs:Array Value}{t:TypeId}{fr:Nat×Nat}(h:w.heap[b]? = some (.cells cs t fr)):
  (w.setCell ⟨b,o,none⟩ v).heap[b]? = some (.cells (cs.setIfInBounds o v) t fr):=by
 simp[World.setCell,Array.getElem?_modify,h]
theorem X8(P:Program)(b o:Nat)(t:TypeId)(fr:Nat×Nat):∀(vs:List Value) (i:Nat) (cur:Array Value) (w:World),
  w.heap[b]? = some (.cells cur t fr)→o+i+vs.length≤cur.size→(∀ j,o+i≤j→j<o+i+vs.length → ¬(fr.1≤j∧j<fr.2))→(∀ v∈vs,v.oneCell'=true) →
  ∃w' cur',(storeCells ⟨b,o,none⟩ vs i).run P w = .ok () w'∧X5 b w w'∧w'.heap[b]? = some (.cells cur' t fr)∧cur'.size=cur.size ∧
   ∀k,cur'[k]? = if o+i≤k∧k<o+i+vs.length then vs[k-(o+i)]? else cur[k]?
 | [],i,cur,w,hb,hle,hfr,h1=>⟨w,cur,rfl,X5.refl _ _,hb,rfl,fun k=>by
   have:¬(o+i≤k∧k<o+i+([]:List Value).length):=by simp
   rw[if_neg this]⟩
 | v::vs,i,cur,w,hb,hle,hfr,h1=>by
  simp only[List.length_cons] at hle hfr
  have hc:w.cell? ⟨b,o+i,none⟩=some (cur[o+i]'(by omega)):=by rw[T3 w b _ hb];exact Array.getElem?_eq_getElem (by omega)
  have hf:w.frozen? ⟨b,o+i,none⟩=false:=by
   rw[ly w b _ hb]
   have:=hfr (o+i) (by omega) (by omega)
   simp only[Bool.and_eq_false_iff,decide_eq_false_iff_not]
   omega
  have hb':=heap_setCell w b (o+i) v hb
  obtain ⟨w',cur',hr,hs,hb2,hsz,hk⟩:=X8 P b o t fr vs (i+1) _ _ hb' (by simp;omega) (fun j h h'=>hfr j (by omega) (by omega)) (fun u hu=>h1 u (List.mem_cons_of_mem _ hu))
  refine ⟨w',cur',?_,(X5.setCell w ⟨b,o+i,none⟩ v).trans hs,hb2,by simpa using hsz,fun k=>?_⟩
  ·simp only[storeCells,Sem.run_bind,R2,run_store P w _ v _ (h1 v (by simp)),hc,hf,Bool.false_eq_true,if_false,Result.andThen_ok]
   exact hr
  ·rw[hk k]
   simp only[List.length_cons]
   by_cases h:k=o+i
   ·subst h
    rw[if_neg (by omega),if_pos (by omega)]
    simp[Array.getElem?_setIfInBounds,show o+i<cur.size by omega]
   ·by_cases h2:o+(i+1)≤k∧k<o+(i+1)+vs.length
    ·rw[if_pos h2,if_pos (by omega)]
     rw[show k-(o+i)=(k-(o+(i+1)))+1 by omega]
     simp
    ·rw[if_neg h2,if_neg (by omega)]
     simp[Array.getElem?_setIfInBounds,Ne.symm h]
theorem OInv.blk_some{m:Mp}{K:KS}{w:World}{id:Nat}{x:M1}(h:OInv m K w id x){m':Mp}(hm:∀ver l,m id ver=some l→m' id ver=some l):blk m' id x=blk m id x:=by
 cases x with
 | cells ty cs=>
  obtain ⟨b,cap,es,arr,hb,_⟩:=h
  simp[blk,Loc.blk,hb,hm _ _ hb]
 | arr es xs fz=>
  rcases h.2 with ⟨rfl,hb⟩|⟨b,cap,arr,ty,fr,hb,_⟩
  ·simp[blk,Loc.blk,hb,hm _ _ hb]
  ·simp[blk,Loc.blk,hb,hm _ _ hb]
 | bld ty el s=>
  obtain ⟨b,cap,es,p,v,hb,_,_,_,_,h⟩:=h
  rcases h with ⟨rfl,hb2,_⟩|⟨b2,cap2,arr,fr,hb2,_⟩
  ·simp only[List.length_nil] at *
   simp[blk,Loc.blk,hb,hm _ _ hb,hb2,hm _ _ hb2]
  ·simp[blk,Loc.blk,hb,hm _ _ hb,hb2,hm _ _ hb2]
 | mp es=>
  obtain ⟨b,cap,s,arr,clock,hb,_⟩:=h
  simp[blk,Loc.blk,hb,hm _ _ hb]
 | gone=>rfl
theorem OInv.frame{m m':Mp}{K:KS}{w w':World}{id:Nat}{x:M1}(h:OInv m K w id x)(he:Ext m K m' K)(hv:m' id=m id)
  (hb:∀b,b∈blk m id x→w'.heap[b]? = w.heap[b]?):OInv m' K w' id x:=by
 cases x with
 | cells ty cs=>
  obtain ⟨b,cap,es,arr,hm,hh,hl,hr,hk⟩:=h
  refine ⟨b,cap,es,arr,he.1 _ _ _ hm,?_,hl,fun j a v x y=>⟨(hr j a v x y).1.mono he,(hr j a v x y).2⟩,hk⟩
  rw[hb b (by simp[blk,Loc.blk,hm])];exact hh
 | arr es xs fz=>
  obtain ⟨hver,h⟩:=h
  refine ⟨fun ver l hl=>hver ver l (by rw[← hv];exact hl),?_⟩
  rcases h with ⟨rfl,hm⟩|⟨b,cap,arr,ty,fr,hm,hh,H8⟩
  ·exact .inl ⟨rfl,he.1 _ _ _ hm⟩
  ·refine .inr ⟨b,cap,arr,ty,fr,he.1 _ _ _ hm,?_,H8⟩
   rw[hb b (by simp[blk,Loc.blk,hm])];exact hh
 | bld ty el s=>
  obtain ⟨b,cap,es,p,v,hm,hh,hp,hk,hver,h⟩:=h
  refine ⟨b,cap,es,p,v,he.1 _ _ _ hm,?_,hp,hk,fun ver l hl=>hver ver l (by rw[← hv];exact hl),?_⟩
  ·rw[hb b (by simp[blk,Loc.blk,hm])];exact hh
  ·rcases h with ⟨h0,hm2,hv2⟩|⟨b2,cap2,arr,fr,hm2,hne,hv2,hh2,H8⟩
   ·exact .inl ⟨h0,he.1 _ _ _ hm2,hv2⟩
   ·refine .inr ⟨b2,cap2,arr,fr,he.1 _ _ _ hm2,hne,hv2,?_,H8⟩
    rw[hb b2 (by simp[blk,Loc.blk,hm2])];exact hh2
 | mp es=>
  obtain ⟨b,cap,s,arr,clock,hm,hh,hl,hr⟩:=h
  refine ⟨b,cap,s,arr,clock,he.1 _ _ _ hm,?_,hl,fun j e a x y=>⟨(hr j e a x y).1.mono he.2,(hr j e a x y).2.mono he⟩⟩
  rw[hb b (by simp[blk,Loc.blk,hm])];exact hh
 | gone=>trivial
theorem C5.lt{C:Ctx}{m K σ w}(hB:C5 C m K σ w){id x b}(h:σ[id]? = some x)(hb:b∈blk m id x):b<w.heap.size:=by
 have hi:=hB.obj id x h
 have:∃o,w.heap[b]? = some o:=by
  cases x with
  | cells ty cs=>
   obtain ⟨b',cap,es,arr,hm,hh,_⟩:=hi
   simp[blk,Loc.blk,hm] at hb;subst hb;exact ⟨_,hh⟩
  | arr es xs fz=>
   rcases hi.2 with ⟨rfl,hm⟩|⟨b',cap,arr,ty,fr,hm,hh,_⟩
   ·simp[blk,Loc.blk,hm] at hb
   ·simp[blk,Loc.blk,hm] at hb;subst hb;exact ⟨_,hh⟩
  | bld ty el s=>
   obtain ⟨b',cap,es,p,v,hm,hh,hp,hk,hver,h⟩:=hi
   rcases h with ⟨rfl,hm2,hv2⟩|⟨b2,cap2,arr,fr,hm2,hne,hv2,hh2,H8⟩
   ·simp only[List.length_nil] at *
    simp[blk,Loc.blk,hm,hm2] at hb;subst hb;exact ⟨_,hh⟩
   ·simp[blk,Loc.blk,hm,hm2] at hb
    rcases hb with hb|hb
    ·subst hb;exact ⟨_,hh⟩
    ·subst hb;exact ⟨_,hh2⟩
  | mp es=>
   obtain ⟨b',cap,s,arr,clock,hm,hh,_⟩:=hi
   simp[blk,Loc.blk,hm] at hb;subst hb;exact ⟨_,hh⟩
  | gone=>simp[blk] at hb
 obtain ⟨o,ho⟩:=this
 exact (Array.getElem?_eq_some_iff.1 ho).1
theorem C5.keep_lt{C:Ctx}{m K σ w}(hB:C5 C m K σ w){b o v}(h:K b o v):b<w.heap.size:=by
 obtain ⟨cs,t,fr,hb,_⟩:=dq (hB.keep b o v h).1
 exact (Array.getElem?_eq_some_iff.1 hb).1
theorem C5.step{C:Ctx}{m m':Mp}{K:KS}{σ σ':A1}{w w':World}(hB:C5 C m K σ w)(id0:Nat)(x0:M1)
  (hσ:∀(id:Nat) x,σ'[id]? = some x→(id=id0∧x=x0)∨(id≠id0∧σ[id]? = some x)) (hlen:σ.length≤σ'.length) (hid:id0<σ'.length)
  (hm:∀id ver l,m id ver=some l→m' id ver=some l) (hm':∀id,id≠id0→m' id=m id) (hbelow:Below C.w0.heap.size C.w0 w')
  (hkeep:∀b o v,K b o v→w'.cell? ⟨b,o,none⟩=w.cell? ⟨b,o,none⟩)
  (hother:∀(id:Nat) x b,id≠id0→σ[id]? = some x→b∈blk m id x→w'.heap[b]? = w.heap[b]?)
  (hnew:OInv m' K w' id0 x0) (hbase:∀b,b∈blk m' id0 x0→C.w0.heap.size≤b)
  (hfresh:∀b,b∈blk m' id0 x0 → ∀(id:Nat) x,id≠id0→σ[id]? = some x→b∉blk m id x):C5 C m' K σ' w':=by
 have hx:Ext m K m' K:=⟨hm,fun _ _ _ h=>h⟩
 have hblk:∀(id:Nat) x,id≠id0→σ[id]? = some x→blk m' id x=blk m id x:=fun id x hne h=>(hB.obj id x h).blk_some (fun ver l=>hm id ver l)
 refine ⟨hbelow,fun b o v h=>⟨by rw[hkeep b o v h];exact (hB.keep b o v h).1,(hB.keep b o v h).2⟩,fun id ver l h=>?_,fun id x h=>?_,fun id x b h hb=>?_,fun id x id' x' b h h' hb hb'=>?_,fun g a h=>(hB.glob g a h).mono hx,hB.old⟩
 ·by_cases e:id=id0
  ·subst e;exact hid
  ·rw[hm' id e] at h
   exact Nat.lt_of_lt_of_le (hB.dom _ _ _ h) hlen
 ·rcases hσ id x h with ⟨rfl,rfl⟩|⟨hne,hs⟩
  ·exact hnew
  ·exact (hB.obj id x hs).frame hx (hm' id hne) (fun b hb=>hother id x b hne hs hb)
 ·rcases hσ id x h with ⟨rfl,rfl⟩|⟨hne,hs⟩
  ·exact hbase b hb
  ·rw[hblk id x hne hs] at hb
   exact hB.base id x b hs hb
 ·rcases hσ id x h with ⟨rfl,rfl⟩|⟨hne,hs⟩<;>rcases hσ id' x' h' with ⟨rfl,rfl⟩|⟨hne',hs'⟩
  ·rfl
  ·rw[hblk id' x' hne' hs'] at hb'
   exact absurd hb' (hfresh b hb id' x' hne' hs')
  ·rw[hblk id x hne hs] at hb
   exact absurd hb (hfresh b hb' id x hne hs)
  ·rw[hblk id x hne hs] at hb
   rw[hblk id' x' hne' hs'] at hb'
   exact hB.apart id x id' x' b hs hs' hb hb'
theorem C5.of_heap{C:Ctx}{m K σ w w'}(hB:C5 C m K σ w)(hh:w'.heap=w.heap)(h1:w'.os=w.os)(h2:w'.tape=w.tape)(h3:w'.output=w.output):C5 C m K σ w':=by
 have hc:∀a,w'.cell? a=w.cell? a:=fun a=>by simp[World.cell?,hh]
 exact ⟨hB.below.trans ⟨h1,h2,h3,by rw[hh];exact Nat.le_refl _,fun _ _=>by rw[hh]⟩,fun b o v h=>by rw[hc];exact hB.keep b o v h,hB.dom,
  fun id x h=>(hB.obj id x h).frame (Ext.refl _ _) rfl (fun b _=>by rw[hh]),hB.base,hB.apart,hB.glob,hB.old⟩
theorem C5.drew{C:Ctx}{m K σ w}(hB:C5 C m K σ w):C5 C m K σ w.drew:=hB.of_heap rfl rfl rfl rfl
def L8(m:Mp)(id ver:Nat)(l:Loc):Mp:=fun i v=>if i=id∧v=ver then some l else m i v
theorem I9(m:Mp)(id ver:Nat)(l:Loc):L8 m id ver l id ver=some l:=by simp[L8]
theorem T5{m:Mp}{id ver:Nat}{l:Loc}(h:m id ver=none):∀i v x,m i v=some x→L8 m id ver l i v=some x:=by
 intro i v x hx
 unfold L8
 split
 ·rename_i e
  rw[e.1,e.2,h] at hx;cases hx
 ·exact hx
theorem Q7(m:Mp)(id ver:Nat)(l:Loc)(i:Nat)(h:i≠id):L8 m id ver l i=m i:=by
 funext v
 simp[L8,h]
theorem bf{σ:A1}{x0:M1}{id:Nat}{x:M1}(h:(σ ++ [x0])[id]? = some x):(id=σ.length∧x=x0)∨(id≠σ.length∧σ[id]? = some x):=by
 by_cases hl:id<σ.length
 ·rw[List.getElem?_append_left hl] at h
  exact .inr ⟨by omega,h⟩
 ·rw[List.getElem?_append_right (by omega)] at h
  have:id-σ.length=0:=by
   have:=(List.getElem?_eq_some_iff.1 h).1
   simp at this;omega
  rw[this] at h
  simp at h
  exact .inl ⟨by omega,h.symm⟩
theorem jx{σ:A1}{id0:Nat}{x0:M1}(h0:id0<σ.length){id:Nat}{x:M1}(h:(σ.set id0 x0)[id]? = some x):(id=id0∧x=x0)∨(id≠id0∧σ[id]? = some x):=by
 by_cases e:id=id0
 ·subst e
  rw[List.getElem?_set_self h0] at h
  exact .inl ⟨rfl,(Option.some.inj h).symm⟩
 ·rw[List.getElem?_set_ne (Ne.symm e)] at h
  exact .inr ⟨e,h⟩
theorem Q1(w:World)(o:Obj):(w.alloc o).heap[w.heap.size]? = some o:=heap_alloc_new w o
theorem J4(w:World)(o:Obj)(k:Nat)(h:k<w.heap.size):(w.alloc o).heap[k]? = w.heap[k]?:=Below.heap_alloc w o k h
theorem S8(w:World)(o:Obj)(b i:Nat)(h:b<w.heap.size):(w.alloc o).cell? ⟨b,i,none⟩=w.cell? ⟨b,i,none⟩:=by
 simp[World.cell?,J4 w o b h]
theorem C5.alloc{C:Ctx}{m:Mp}{K:KS}{σ:A1}{w:World}(hB:C5 C m K σ w)(x0:M1)(ver:Nat)(l:Loc)(o:Obj)
  (hblk:∀b,b∈blk (L8 m σ.length ver l) σ.length x0→b=w.heap.size) (hnew:OInv (L8 m σ.length ver l) K (w.alloc o) σ.length x0):
  C5 C (L8 m σ.length ver l) K (σ ++ [x0]) (w.alloc o)∧Ext m K (L8 m σ.length ver l) K:=by
 have hnone:m σ.length ver=none:=by
  cases h:m σ.length ver with
  | none=>rfl
  | some x=>exact absurd (hB.dom _ _ _ h) (Nat.lt_irrefl _)
 have hsz:C.w0.heap.size≤w.heap.size:=hB.below.size
 refine ⟨hB.step σ.length x0 (fun id x h=>bf h) (by simp) (by simp) (T5 hnone) (fun id h=>Q7 _ _ _ _ _ h) (hB.below.alloc hsz o)
  (fun b i v h=>S8 _ _ _ _ (hB.keep_lt h)) (fun id x b hne hs hb=>J4 _ _ _ (hB.lt hs hb)) hnew ?_ ?_,⟨T5 hnone,fun _ _ _ h=>h⟩⟩
 ·intro b hb
  have:=hblk b hb;subst this
  exact hsz
 ·intro b hb id x hne hs hx
  have:=hblk b hb;subst this
  exact absurd (hB.lt hs hx) (Nat.lt_irrefl _)
theorem C5.alloc_cells{C:Ctx}{m:Mp}{K:KS}{σ:A1}{w:World}(hB:C5 C m K σ w)(t:TypeId)(cs:List AV)(vs:Array Value)(hl:cs.length=vs.size)
  (hr:∀(j:Nat) a v,cs[j]? = some a→vs[j]? = some v→C7 m K a v∧v.oneCell'=true):
  ∃m',C5 C m' K (σ ++ [.cells t cs]) (w.alloc (.cells vs t))∧Ext m K m' K∧C7 m' K (.ptr σ.length 0) (.pointer (some ⟨w.heap.size,0,none⟩)):=by
 have hx:Ext m K (L8 m σ.length 0 (.at w.heap.size 0 0)) K:=by
  refine ⟨T5 ?_,fun _ _ _ h=>h⟩
  cases h:m σ.length 0 with
  | none=>rfl
  | some x=>exact absurd (hB.dom _ _ _ h) (Nat.lt_irrefl _)
 obtain ⟨h1,h2⟩:=hB.alloc (.cells t cs) 0 (.at w.heap.size 0 0) (.cells vs t) (fun b hb=>by simpa[blk,Loc.blk,I9] using hb)
  ⟨w.heap.size,0,0,vs,I9 _ _ _ _,Q1 _ _,hl,fun j a v x y=>⟨(hr j a v x y).1.mono hx,(hr j a v x y).2⟩,fun o v h=>absurd (hB.keep_lt h) (Nat.lt_irrefl _)⟩
 exact ⟨_,h1,h2,.ptr _ _ _ _ _ (I9 _ _ _ _)⟩
theorem C5.alloc_arr{C:Ctx}{m:Mp}{K:KS}{σ:A1}{w:World}(hB:C5 C m K σ w)(t:TypeId)(es cap:Nat)(xs:List PV)(vs:Array Value)(fr:Nat×Nat)(hsz:vs.size=cap*es)(hle:xs.length≤cap)(hcap:cap≤maxLen)
  (he:∀x∈xs,x.cells.length=es) (hr:∀(j:Nat) p v,(N8 xs)[j]? = some p→vs[j]? = some v→N7 K p v∧v.oneCell'=true) (hfr:∀j,j<cap*es → ¬(fr.1≤j∧j<fr.2)):
  ∃m',C5 C m' K (σ ++ [.arr es xs false]) (w.alloc (.cells vs t fr))∧Ext m K m' K∧C7 m' K (.arr σ.length xs.length 0 xs.length) (.slice (some ⟨w.heap.size,0,none⟩) xs.length cap):=by
 obtain ⟨h1,h2⟩:=hB.alloc (.arr es xs false) xs.length (.at w.heap.size cap es) (.cells vs t fr) (fun b hb=>by simpa[blk,Loc.blk,I9] using hb)
  ⟨fun ver l h=>by
    unfold L8 at h
    split at h
    ·rename_i e;exact Nat.le_of_eq e.2
    ·exact absurd (hB.dom _ _ _ h) (Nat.lt_irrefl _),
   .inr ⟨w.heap.size,cap,vs,t,fr,I9 _ _ _ _,Q1 _ _,hle,hcap,hsz,he,hr,fun j _ h=>hfr j h,fun j v h=>absurd (hB.keep_lt h) (Nat.lt_irrefl _)⟩⟩
 exact ⟨_,h1,h2,.arr _ _ _ _ _ _ _ _ _ (I9 _ _ _ _) rfl (by simp) hle (.inr (by simp))⟩
theorem ca{α:Type}(cs:List α)(off:Nat)(vs:List α)(h:off+vs.length≤cs.length)(k:Nat):
  (P1 cs off vs)[k]? = if off≤k∧k<off+vs.length then vs[k-off]? else cs[k]?:=by
 unfold P1
 have h1:(cs.take off).length=off:=by rw[List.length_take];omega
 by_cases a:k<off
 ·rw[List.getElem?_append_left (by omega),List.getElem?_take,if_pos a,if_neg (by omega)]
 ·rw[List.getElem?_append_right (by omega),h1]
  by_cases b:k<off+vs.length
  ·rw[List.getElem?_append_left (by omega),if_pos (by omega)]
  ·rw[List.getElem?_append_right (by omega),if_neg (by omega),List.getElem?_drop]
   congr 1;omega
theorem co{α:Type}(cs:List α)(off:Nat)(vs:List α)(h:off+vs.length≤cs.length):(P1 cs off vs).length=cs.length:=by
 unfold P1
 simp only[List.length_append,List.length_take,List.length_drop];omega
theorem C5.store_cells{C:Ctx}{m:Mp}{K:KS}{σ:A1}{w:World}(hB:C5 C m K σ w){id:Nat}{ty:TypeId}{cs:List AV}(ho:σ[id]? = some (.cells ty cs)){b cap es:Nat}(hm:m id 0=some (.at b cap es))
  (off:Nat) (vs:List AV) (us:List Value) (hle:off+vs.length≤cs.length) (hl:vs.length=us.length) (hr:∀(j:Nat) a v,vs[j]? = some a→us[j]? = some v→C7 m K a v∧v.oneCell'=true):
  ∃w',(storeCells ⟨b,off,none⟩ us).run C.P w = .ok () w'∧C5 C m K (σ.set id (.cells ty (P1 cs off vs))) w':=by
 obtain ⟨b',cap',es',arr,hm',hh,hsz,hcr,hk⟩:=hB.obj id _ ho
 rw[hm] at hm';cases hm'
 have h1:∀v∈us,v.oneCell'=true:=by
  intro v hv
  obtain ⟨j,hj⟩:=List.getElem?_of_mem hv
  have hlt:j<vs.length:=by rw[hl];exact (List.getElem?_eq_some_iff.1 hj).1
  exact (hr j _ v (List.getElem?_eq_getElem hlt) hj).2
 obtain ⟨w',cur',hrun,hs,hb',hsz',hget⟩:=X8 C.P b off ty (0,0) us 0 arr w hh (by omega) (fun j _ _=>by simp) h1
 have hid:id<σ.length:=(List.getElem?_eq_some_iff.1 ho).1
 have hblk:b∈blk m id (.cells ty cs):=by simp[blk,Loc.blk,hm]
 refine ⟨w',hrun,hB.step id (.cells ty (P1 cs off vs)) (fun i x h=>jx hid h) (by simp) (by simpa using hid) (fun _ _ _ h=>h) (fun _ _=>rfl) (hs.below hB.below (hB.base id _ b ho hblk)) ?_ ?_ ?_ ?_ ?_⟩
 ·intro b2 o v h2
  have hne:b2≠b:=fun e=>hk o v (e ▸ h2)
  simp[World.cell?,hs.block b2 hne]
 ·intro id' x b2 hne hs2 hb2
  refine hs.block b2 (fun e=>?_)
  subst e
  exact hne (hB.apart id' x id _ b2 hs2 ho hb2 hblk)
 ·refine ⟨b,cap,es,cur',hm,hb',by rw[co cs off vs hle,hsz',hsz],fun j a v hj hv=>?_,hk⟩
  rw[ca cs off vs hle] at hj
  rw[hget] at hv
  simp only[Nat.add_zero] at hv
  by_cases c:off≤j∧j<off+vs.length
  ·rw[if_pos c] at hj
   rw[if_pos (by omega)] at hv
   exact hr _ _ _ hj hv
  ·rw[if_neg c] at hj
   rw[if_neg (by omega)] at hv
   exact hcr j a v hj hv
 ·intro b2 h2
  have:b2=b:=by simpa[blk,Loc.blk,hm] using h2
  rw[this];exact hB.base id _ b ho hblk
 ·intro b2 h2 id' x hne hs2 hx
  have:b2=b:=by simpa[blk,Loc.blk,hm] using h2
  subst this
  exact hne (hB.apart id' x id _ b2 hs2 ho hx hblk)
end
section
open Go Go.RowKit
theorem I6{xs:List PV}{es:Nat}(he:∀x∈xs,x.cells.length=es):(N8 xs).length=xs.length*es:=by
 induction xs with
 | nil=>simp[N8]
 | cons x r ih=>
  have:=ih (fun y hy=>he y (List.mem_cons_of_mem _ hy))
  simp only[N8,List.flatMap_cons,List.length_append,List.length_cons] at *
  rw[this,he x (by simp),Nat.add_mul];omega
theorem gc(xs ys:List PV):N8 (xs++ys)=N8 xs++N8 ys:=by simp[N8]
theorem bd{xs:List PV}{es:Nat}(he:∀x∈xs,x.cells.length=es){i:Nat}{x:PV}(hi:xs[i]? = some x)(j:Nat)(hj:j<es):(N8 xs)[i*es+j]? = x.cells[j]?:=by
 induction xs generalizing i with
 | nil=>simp at hi
 | cons y r ih=>
  have hy:=he y (by simp)
  simp only[N8,List.flatMap_cons]
  cases i with
  | zero=>
   simp at hi;subst hi
   rw[Nat.zero_mul,Nat.zero_add,List.getElem?_append_left (by omega)]
  | succ i=>
   rw[List.getElem?_append_right (by rw[hy,Nat.add_mul];omega),hy]
   have:=ih (fun z hz=>he z (List.mem_cons_of_mem _ hz)) (by simpa using hi)
   simp only[N8] at this
   rw[show (i+1)*es+j-es=i*es+j by rw[Nat.add_mul];omega]
   exact this
theorem ja{xs:List PV}{es:Nat}(he:∀x∈xs,x.cells.length=es)(n:Nat):N8 (xs.take n)=(N8 xs).take (n*es):=by
 induction xs generalizing n with
 | nil=>simp[N8]
 | cons y r ih=>
  have hy:=he y (by simp)
  cases n with
  | zero=>simp[N8]
  | succ n=>
   have:=ih (fun z hz=>he z (List.mem_cons_of_mem _ hz)) n
   simp only[N8,List.take_succ_cons,List.flatMap_cons] at *
   rw[this,List.take_append,hy]
   rw[List.take_of_length_le (l:=y.cells) (by rw[hy,Nat.add_mul];omega)]
   rw[show (n+1)*es-es=n*es by rw[Nat.add_mul];omega]
theorem mq{xs:List PV}{es:Nat}(he:∀x∈xs,x.cells.length=es)(n:Nat):N8 (xs.drop n)=(N8 xs).drop (n*es):=by
 induction xs generalizing n with
 | nil=>simp[N8]
 | cons y r ih=>
  have hy:=he y (by simp)
  cases n with
  | zero=>simp[N8]
  | succ n=>
   have:=ih (fun z hz=>he z (List.mem_cons_of_mem _ hz)) n
   simp only[N8,List.drop_succ_cons,List.flatMap_cons] at *
   rw[this,List.drop_append,hy]
   rw[List.drop_of_length_le (l:=y.cells) (by rw[hy,Nat.add_mul];omega)]
   rw[show (n+1)*es-es=n*es by rw[Nat.add_mul];omega]
   simp
theorem qd{ys:List PV}{es:Nat}(h:X6 es ys=true):∀y∈ys,y.cells.length=es:=by
 intro y hy
 unfold X6 at h
 rw[List.all_eq_true] at h
 simpa using h y hy
theorem C7.arr_inv{m:Mp}{K:KS}{id ver off len:Nat}{v:Value}(h:C7 m K (.arr id ver off len) v):
  (∃ b cap es c a,v = .slice a len c∧m id ver=some (.at b cap es)∧c+off=cap∧off+len≤ver∧ver≤cap∧(c=0∨a=some ⟨b,off*es,none⟩)) ∨
   (ver=0∧off=0∧len=0∧v = .slice none 0 0∧m id 0=some .nil):=by
 cases h with
 | arr _ _ _ _ b cap es c a hm hc hl hv ha=>exact .inl ⟨b,cap,es,c,a,rfl,hm,hc,hl,hv,ha⟩
 | arrNil _ hm=>exact .inr ⟨rfl,rfl,rfl,rfl,hm⟩
theorem C5.arr_open{C:Ctx}{m K σ w}(hB:C5 C m K σ w){id es:Nat}{xs:List PV}{fz:Bool}(ho:σ[id]? = some (.arr es xs fz)){b cap es':Nat}(hm:m id xs.length=some (.at b cap es')):
  es'=es ∧ ∃arr ty fr,w.heap[b]? = some (.cells arr ty fr)∧xs.length≤cap∧cap≤maxLen∧arr.size=cap*es∧(∀ x∈xs,x.cells.length=es) ∧
   (∀ (j:Nat) p v,(N8 xs)[j]? = some p→arr[j]? = some v→N7 K p v∧v.oneCell'=true) ∧
   (∀ j,(if fz then xs.length*es else 0)≤j→j<cap*es → ¬(fr.1≤j∧j<fr.2))∧(∀ (j:Nat) (v:Value),K b j v→fz=true∧j<xs.length*es):=by
 rcases (hB.obj id _ ho).2 with ⟨rfl,hn⟩|⟨b',cap',arr,ty,fr,hm',H8⟩
 ·simp at hm;rw[hn] at hm;cases hm
 ·rw[hm] at hm';cases hm'
  exact ⟨rfl,arr,ty,fr,H8⟩
theorem elems_at{C:Ctx}{m K σ w}(hB:C5 C m K σ w){a:AV}{x:Value}{ys:List PV}(he:elems σ a=some ys)(hr:C7 m K a x){es:Nat}(hsz:∀y∈ys,y.cells.length=es)(hstr:∀s,a ≠ .pv (.str s)):
  ∃ad c,x = .slice ad ys.length c∧(ys ≠ [] → ∃b o,ad=some ⟨b,o,none⟩ ∧ ∀(j:Nat) p,(N8 ys)[j]? = some p → ∃v,w.cell? ⟨b,o+j,none⟩=some v∧N7 K p v∧v.oneCell'=true):=by
 cases a with
 | pv p=>
  cases p with
  | sl xs=>
   simp only[elems,Option.some.injEq] at he;subst he
   cases hr with
   | pv _ _ hp=>
    cases hp with
    | slNil a c=>exact ⟨a,c,rfl,fun h=>absurd rfl h⟩
    | sl _ es' b o c vs hcap he hl hr hk=>
     refine ⟨_,c,rfl,fun _=>⟨b,o,rfl,fun j p hp=>?_⟩⟩
     have hlt:j<vs.length:=by rw[← hl];exact (List.getElem?_eq_some_iff.1 hp).1
     have hv:=List.getElem?_eq_getElem hlt
     have:=hB.keep _ _ _ (hk j _ hv)
     exact ⟨_,this.1,hr j p _ hp hv,this.2⟩
  | str s=>exact absurd rfl (hstr s)
  | _=>simp[elems] at he
 | nilsl=>
  simp only[elems,Option.some.injEq] at he;subst he
  cases hr
  exact ⟨none,0,rfl,fun h=>absurd rfl h⟩
 | arr id ver off len=>
  simp only[elems] at he
  split at he
  ·rename_i e xs fz ho
   split at he
   ·rename_i hc
    cases he
    obtain ⟨hver,hle⟩:=hc
    have hlen:((xs.drop off).take len).length=len:=by rw[List.length_take,List.length_drop];omega
    cases hr with
    | arr _ _ _ _ b cap es' c a hm hc hl hv ha=>
     refine ⟨a,c,by rw[hlen],fun hne=>?_⟩
     subst hver
     obtain ⟨rfl,arr,ty,fr,hh,hcap,hmax,hasz,hes,hcr,_,_⟩:=hB.arr_open ho hm
     have hlen0:0<len:=by
      rcases Nat.eq_zero_or_pos len with h0|h0
      ·subst h0;simp at hne
      ·exact h0
     have ha':a=some ⟨b,off*es',none⟩:=by
      rcases ha with h0|h0
      ·omega
      ·exact h0
     refine ⟨b,off*es',ha',fun j p hp=>?_⟩
     have hes2:∀y∈(xs.drop off),y.cells.length=es':=fun y hy=>hes y (List.mem_of_mem_drop hy)
     rw[ja hes2,mq hes] at hp
     rw[List.getElem?_take] at hp
     split at hp
     ·rename_i hj
      rw[List.getElem?_drop] at hp
      have hlt:off*es'+j<arr.size:=by
       have:=(List.getElem?_eq_some_iff.1 hp).1
       rw[I6 hes] at this
       have h2:xs.length*es'≤cap*es':=Nat.mul_le_mul_right _ hcap
       omega
      have hv2:arr[off*es'+j]? = some arr[off*es'+j]:=Array.getElem?_eq_getElem hlt
      have:=hcr _ _ _ hp hv2
      exact ⟨_,by rw[T3 w b _ hh];exact hv2,this.1,this.2⟩
     ·cases hp
    | arrNil _ hm=>
     have:xs = []:=List.eq_nil_of_length_eq_zero hver
     subst this
     exact ⟨none,0,by simp,fun h=>by simp at h⟩
   ·cases he
  ·cases he
 | _=>simp[elems] at he
theorem flat_bytes(s:List UInt8):N8 (s.map fun b=>PV.int .u8 (b.toNat:Int))=s.map fun b=>PV.int .u8 (b.toNat:Int):=by
 induction s with
 | nil=>rfl
 | cons b r ih=>simp only[N8,List.map_cons,List.flatMap_cons,PV.cells] at *;rw[ih];rfl
theorem Y0{C:Ctx}{m K σ w}(hB:C5 C m K σ w){a:AV}{x:Value}{ys:List PV}(he:elems σ a=some ys)(hr:C7 m K a x){es:Nat}(hsz:∀y∈ys,y.cells.length=es)(n:Nat)(hn:n≤ys.length):
  (Builtin.lenOf x).run C.P w = .ok ys.length w ∧ ∃vs:List Value,(Builtin.firstCells es n x).run C.P w = .ok vs.toArray w∧vs.length=n*es ∧
   (∀ (j:Nat) p v,(N8 (ys.take n))[j]? = some p→vs[j]? = some v→N7 K p v∧v.oneCell'=true) ∧ ∀v∈vs,v.oneCell'=true:=by
 have h1of:∀vs:List Value,vs.length=n*es→(∀ (j:Nat) p v,(N8 (ys.take n))[j]? = some p→vs[j]? = some v→N7 K p v∧v.oneCell'=true) → ∀v∈vs,v.oneCell'=true:=by
  intro vs hl h v hv
  obtain ⟨j,hj⟩:=List.getElem?_of_mem hv
  have hlt:j<(N8 (ys.take n)).length:=by
   rw[I6 (fun y hy=>hsz y (List.mem_of_mem_take hy)),List.length_take,Nat.min_eq_left hn,←hl]
   exact (List.getElem?_eq_some_iff.1 hj).1
  exact (h j _ v (List.getElem?_eq_getElem hlt) hj).2
 by_cases hs:∃s,a = .pv (.str s)
 ·obtain ⟨s,rfl⟩:=hs
  simp only[elems,Option.some.injEq] at he
  subst he
  cases hr with
  | pv _ _ hp=>
   cases hp
   have hle:n≤s.length:=by simpa using hn
   have hes:n=0∨es=1:=by
    cases s with
    | nil=>left;simpa using hle
    | cons b r=>right;exact (hsz _ (List.mem_map_of_mem (by simp:b∈b::r))).symm
   refine ⟨by simp[Builtin.lenOf,ByteArray.size],(s.take n).map (fun b=>Value.int .u8 (b.toNat:Int)),?_,?_,?_⟩
   ·simp only[Builtin.firstCells,Sem.run_pure]
    congr 1
    apply Array.ext'
    simp[ByteArray.data_extract]
   ·simp only[List.length_map,List.length_take,Nat.min_eq_left hle]
    rcases hes with h|h<;>subst h<;>simp
   ·have key:∀(j:Nat) p v,(N8 ((s.map fun b=>PV.int .u8 (b.toNat:Int)).take n))[j]? = some p→((s.take n).map (fun b=>Value.int .u8 (b.toNat:Int)))[j]? = some v→N7 K p v∧v.oneCell'=true:=by
     intro j p v hp hv
     rw[← List.map_take,flat_bytes] at hp
     simp only[List.getElem?_map,Option.map_eq_some_iff] at hp hv
     obtain ⟨b,hb,rfl⟩:=hp
     obtain ⟨b',hb',rfl⟩:=hv
     rw[hb] at hb';cases hb'
     exact ⟨.int _ _,rfl⟩
    refine ⟨key,fun v hv=>?_⟩
    obtain ⟨b,_,rfl⟩:=List.mem_map.1 hv
    rfl
 ·obtain ⟨ad,c,rfl,hat⟩:=elems_at hB he hr hsz (fun s hc=>hs ⟨s,hc⟩)
  refine ⟨by simp[Builtin.lenOf],?_⟩
  by_cases h0:n=0
  ·subst h0
   refine ⟨[],?_,by simp,?_,by simp⟩
   ·cases ad<;>simp[Builtin.firstCells,loadCells,loadCellsFrom]
   ·intro j p v hp hv;simp at hv
  ·have hne:ys ≠ []:=by intro e;subst e;simp at hn;omega
   obtain ⟨b,o,rfl,hc⟩:=hat hne
   have hc':mr m K w b o ((N8 (ys.take n)).map .pv):=by
    intro j a hj
    simp only[List.getElem?_map,Option.map_eq_some_iff] at hj
    obtain ⟨p,hp,rfl⟩:=hj
    rw[ja hsz,List.getElem?_take] at hp
    split at hp
    ·obtain ⟨v,hv,hr,h1⟩:=hc j p hp
     exact ⟨v,hv,.pv _ _ hr,h1⟩
    ·cases hp
   obtain ⟨vs,hl,hvs⟩:=oq hc'
   have hlen:vs.length=n*es:=by
    rw[hl,List.length_map,I6 (fun y hy=>hsz y (List.mem_of_mem_take hy)),List.length_take,Nat.min_eq_left hn]
   have key:∀(j:Nat) p v,(N8 (ys.take n))[j]? = some p→vs[j]? = some v→N7 K p v∧v.oneCell'=true:=by
    intro j p v hp hv
    obtain ⟨u,hu,_,hr,h1⟩:=hvs j (.pv p) (by simp[hp])
    rw[hu] at hv;cases hv
    exact ⟨hr.pv_inv,h1⟩
   refine ⟨vs,?_,hlen,key,h1of vs hlen key⟩
   simp only[Builtin.firstCells]
   rw[← hlen]
   refine run_loadCells_list (P:=C.P) w ⟨b,o,none⟩ vs (fun j v hv=>?_)
   have hlt:j<((N8 (ys.take n)).map AV.pv).length:=by rw[← hl];exact (List.getElem?_eq_some_iff.1 hv).1
   obtain ⟨u,hu,hcell,_⟩:=hvs j _ (List.getElem?_eq_getElem hlt)
   rw[hu] at hv;cases hv
   rw[R2];exact hcell
theorem N0.slice{P:Program}{t el:TypeId}{ti:TI}(h:N0 P t ti)(hd:ti.td = .slice el):P.underlying t=some (.slice el):=by
 obtain ⟨i,d,_,hu,_,_,_,e,_⟩:=h
 rw[hd] at e
 cases d<;>simp[TD.of] at e
 subst e
 exact hu
theorem iu{P:Program}{t t2 ty el:TypeId}{i:TypeInfo}{d2:TypeDesc}(ht:P.underlying t=some (.slice el))(hn2:∀k,d2 ≠ .int k)(ht2:P.underlying t2=some d2)(hi:P.info? el=some i)
  {a:Option Addr} {sLen sCap n:Nat} {xv:Value} {new:Array Value} {w w':World} (hlen:(Builtin.lenOf xv).run P w = .ok n w) (hfc:(Builtin.firstCells i.size n xv).run P w = .ok new w)
  (hroom:sLen+n≤sCap) (hst:∀ad,a=some ad→(storeCells (ad.add (sLen*i.size)) new.toList).run P w = .ok () w') (hnone:a=none→w'=w):
  (Builtin.append_ #[t,t2] ty #[.slice a sLen sCap,xv]).run P w = .ok (.slice a (sLen+n) sCap) w':=by
 cases a with
 | none=>
  have:=hnone rfl
  subst this
  simp[Builtin.append_,run_underlying ht,run_underlying ht2,sizeOf,typeInfo,hi,hlen,hroom,hfc,hn2]
 | some ad=>
  have:=hst ad rfl
  simp[Builtin.append_,run_underlying ht,run_underlying ht2,sizeOf,typeInfo,hi,hlen,hroom,hfc,this,hn2]
theorem rm{P:Program}{t t2 ty el:TypeId}{i:TypeInfo}{z:Value}{d2:TypeDesc}(ht:P.underlying t=some (.slice el))(hn2:∀k,d2 ≠ .int k)(ht2:P.underlying t2=some d2)(hi:P.info? el=some i)(hz:i.zero=some z)
  {a:Option Addr} {sLen sCap n:Nat} {xv:Value} {old new:Array Value} {w:World} (hlen:(Builtin.lenOf xv).run P w = .ok n w) (hfo:(Builtin.firstCells i.size sLen (.slice a sLen sCap)).run P w.drew = .ok old w.drew) (hfc:(Builtin.firstCells i.size n xv).run P w.drew = .ok new w.drew)
  (hroom:¬sLen+n≤sCap) (h63:sLen+n≤maxLen) (h48:Builtin.nextslicecap (sLen+n) sCap*i.bytes≤281474976710656):
  (Builtin.append_ #[t,t2] ty #[.slice a sLen sCap,xv]).run P w = .ok (.slice (some ⟨w.heap.size,0,none⟩) (sLen+n) (grownCap w (sLen+n) sCap el))
   (w.drew.alloc (.cells (old++new++Builtin.zeroCells z.cells (grownCap w (sLen+n) sCap el-(sLen+n))) el)):=by
 unfold maxLen at h63
 have h1:¬(9223372036854775807:Int)<(sLen:Int)+n:=by omega
 have h2:¬281474976710656<Builtin.nextslicecap (sLen+n) sCap*i.bytes:=by omega
 have hch:(choose (.appendCap (sLen+n) sCap el)).run P w = .ok (grownCap w (sLen+n) sCap el) w.drew:=by
  rw[run_choose];rfl
 simp[Builtin.append_,run_underlying ht,run_underlying ht2,sizeOf,typeInfo,hi,hlen,hroom,hch,hfo,hfc,zeroValue,hz,IntKind.max,IntKind.bits,IntKind.signed,h1,h2,newRow,hn2,Question.forced,grownCap]
theorem C5.arr_change{C:Ctx}{m:Mp}{K:KS}{σ:A1}{w:World}(hB:C5 C m K σ w){id es:Nat}{xs:List PV}{fz:Bool}(ho:σ[id]? = some (.arr es xs fz)){b cap:Nat}(hm:m id xs.length=some (.at b cap es))
  {w':World} {arr cur':Array Value} {ty:TypeId} {fr:Nat×Nat} (hh:w.heap[b]? = some (.cells arr ty fr)) (hs:X5 b w w') (hb':w'.heap[b]? = some (.cells cur' ty fr)) (hsz:cur'.size=arr.size)
  (xs':List PV) (hle:xs.length≤xs'.length) (hcap:xs'.length≤cap) (he:∀x∈xs',x.cells.length=es) (hr:∀(j:Nat) p v,(N8 xs')[j]? = some p→cur'[j]? = some v→N7 K p v∧v.oneCell'=true)
  (hK:∀(j:Nat) v,K b j v→cur'[j]? = arr[j]?):
  ∃m',C5 C m' K (σ.set id (.arr es xs' fz)) w'∧Ext m K m' K∧m' id xs'.length=some (.at b cap es):=by
 obtain ⟨_,arr',ty',fr',hh',hcap0,hmax,hasz,hes,hcr,hfr,hkk⟩:=hB.arr_open ho hm
 rw[hh] at hh';cases hh'
 have hver:=(hB.obj id _ ho).1
 have hid:id<σ.length:=(List.getElem?_eq_some_iff.1 ho).1
 have hblk:b∈blk m id (.arr es xs fz):=by simp[blk,Loc.blk,hm]
 have hbase:=hB.base id _ b ho hblk
 have key:∃m':Mp,(∀ i v l,m i v=some l→m' i v=some l)∧(∀ i,i≠id→m' i=m i)∧m' id xs'.length=some (.at b cap es) ∧ ∀ver l,m' id ver=some l→ver≤xs'.length:=by
  by_cases e:xs'.length=xs.length
  ·exact ⟨m,fun _ _ _ h=>h,fun _ _=>rfl,by rw[e];exact hm,fun ver l h=>by rw[e];exact hver ver l h⟩
  ·refine ⟨L8 m id xs'.length (.at b cap es),T5 ?_,fun i h=>Q7 _ _ _ _ _ h,I9 _ _ _ _,fun ver l h=>?_⟩
   ·cases h:m id xs'.length with
    | none=>rfl
    | some l=>have:=hver _ _ h;omega
   ·unfold L8 at h
    split at h
    ·rename_i e2;exact Nat.le_of_eq e2.2
    ·exact Nat.le_trans (hver _ _ h) hle
 obtain ⟨m',hm1,hm2,hm3,hm4⟩:=key
 refine ⟨m',hB.step id (.arr es xs' fz) (fun i x h=>jx hid h) (by simp) (by simpa using hid) hm1 hm2 (hs.below hB.below hbase) ?_ ?_ ?_ ?_ ?_,⟨hm1,fun _ _ _ h=>h⟩,hm3⟩
 ·intro b2 o v h2
  by_cases e:b2=b
  ·subst e
   rw[T3 w b2 _ hh,T3 w' b2 _ hb']
   exact hK o v h2
  ·simp[World.cell?,hs.block b2 e]
 ·intro id' x b2 hne hs2 hb2
  refine hs.block b2 (fun e=>?_)
  subst e
  exact hne (hB.apart id' x id _ b2 hs2 ho hb2 hblk)
 ·refine ⟨hm4,.inr ⟨b,cap,cur',ty,fr,hm3,hb',hcap,hmax,by rw[hsz];exact hasz,he,hr,fun j h1 h2=>hfr j ?_ h2,fun j v h=>⟨(hkk j v h).1,?_⟩⟩⟩
  ·cases fz with
   | true=>simp only[if_true] at h1 ⊢;exact Nat.le_trans (Nat.mul_le_mul_right _ hle) h1
   | false=>simp
  ·exact Nat.lt_of_lt_of_le (hkk j v h).2 (Nat.mul_le_mul_right _ hle)
 ·intro b2 h2
  have:b2=b:=by simpa[blk,Loc.blk,hm3] using h2
  rw[this];exact hbase
 ·intro b2 h2 id' x hne hs2 hx
  have:b2=b:=by simpa[blk,Loc.blk,hm3] using h2
  subst this
  exact hne (hB.apart id' x id _ b2 hs2 ho hx hblk)
theorem C5.arr_move{C:Ctx}{m:Mp}{K:KS}{σ:A1}{w:World}(hB:C5 C m K σ w){id es:Nat}{xs:List PV}{fz:Bool}(ho:σ[id]? = some (.arr es xs fz))
  (t:TypeId) (cap:Nat) (xs':List PV) (vs:Array Value) (hlt:xs.length<xs'.length) (hsz:vs.size=cap*es) (hle:xs'.length≤cap) (hcap:cap≤maxLen)
  (he:∀x∈xs',x.cells.length=es) (hr:∀(j:Nat) p v,(N8 xs')[j]? = some p→vs[j]? = some v→N7 K p v∧v.oneCell'=true):
  ∃m',C5 C m' K (σ.set id (.arr es xs' fz)) (w.alloc (.cells vs t (0,0)))∧Ext m K m' K∧m' id xs'.length=some (.at w.heap.size cap es):=by
 have hver:=(hB.obj id _ ho).1
 have hid:id<σ.length:=(List.getElem?_eq_some_iff.1 ho).1
 have hnone:m id xs'.length=none:=by
  cases h:m id xs'.length with
  | none=>rfl
  | some l=>have:=hver _ _ h;omega
 have hsz0:C.w0.heap.size≤w.heap.size:=hB.below.size
 have hbl:∀b,b∈blk (L8 m id xs'.length (.at w.heap.size cap es)) id (.arr es xs' fz)→b=w.heap.size:=fun b hb=>by simpa[blk,Loc.blk,I9] using hb
 refine ⟨L8 m id xs'.length (.at w.heap.size cap es),hB.step id (.arr es xs' fz) (fun i x h=>jx hid h) (by simp) (by simpa using hid) (T5 hnone) (fun i h=>Q7 _ _ _ _ _ h)
  (hB.below.alloc hsz0 _) (fun b i v h=>S8 _ _ _ _ (hB.keep_lt h)) (fun i x b hne hs hb=>J4 _ _ _ (hB.lt hs hb)) ?_ ?_ ?_,⟨T5 hnone,fun _ _ _ h=>h⟩,I9 _ _ _ _⟩
 ·refine ⟨fun ver l h=>?_,.inr ⟨w.heap.size,cap,vs,t,(0,0),I9 _ _ _ _,Q1 _ _,hle,hcap,hsz,he,hr,fun j _ _=>by simp,fun j v h=>absurd (hB.keep_lt h) (Nat.lt_irrefl _)⟩⟩
  unfold L8 at h
  split at h
  ·rename_i e2;exact Nat.le_of_eq e2.2
  ·exact Nat.le_of_lt (Nat.lt_of_le_of_lt (hver _ _ h) hlt)
 ·intro b hb
  have:=hbl b hb;subst this
  exact hsz0
 ·intro b hb i x hne hs hx
  have:=hbl b hb;subst this
  exact absurd (hB.lt hs hx) (Nat.lt_irrefl _)
theorem N0.info{P:Program}{t:TypeId}{ti:TI}(h:N0 P t ti):∃i,P.info? t=some i∧i.zero=some ti.zero∧i.size=ti.size∧i.bytes=ti.bytes:=by
 obtain ⟨i,_,hi,_,hz,hs,hb,_,_⟩:=h
 exact ⟨i,hi,hz,hs,hb⟩
theorem N0.notInt{P:Program}{t:TypeId}{ti:TI}(h:N0 P t ti)(hn:∀k,ti.td ≠ .int k):∃d,P.underlying t=some d ∧ ∀k,d ≠ .int k:=by
 obtain ⟨i,d,_,hu,_,_,_,e,_⟩:=h
 refine ⟨d,hu,fun k hk=>?_⟩
 subst hk
 exact hn k e.symm
theorem rep_join{K:KS}{xs ys:List PV}{es:Nat}{old new H8:Array Value}(hx:∀x∈xs,x.cells.length=es)(ho:old.size=xs.length*es)(hn:new.size=ys.length*es)(hy:∀y∈ys,y.cells.length=es)
  (hro:∀(j:Nat) p v,(N8 xs)[j]? = some p→old[j]? = some v→N7 K p v∧v.oneCell'=true) (hrn:∀(j:Nat) p v,(N8 ys)[j]? = some p→new[j]? = some v→N7 K p v∧v.oneCell'=true):
  ∀(j:Nat) p v,(N8 (xs++ys))[j]? = some p→(old++new++H8)[j]? = some v→N7 K p v∧v.oneCell'=true:=by
 intro j p v hp hv
 rw[gc] at hp
 have hfx:=I6 hx
 have hfy:=I6 hy
 have hlt:j<xs.length*es+ys.length*es:=by
  have:=(List.getElem?_eq_some_iff.1 hp).1
  rw[List.length_append,hfx,hfy] at this
  exact this
 rw[Array.getElem?_append_left (by simp;omega)] at hv
 by_cases h:j<xs.length*es
 ·rw[List.getElem?_append_left (by omega)] at hp
  rw[Array.getElem?_append_left (by omega)] at hv
  exact hro j p v hp hv
 ·rw[List.getElem?_append_right (by omega),hfx] at hp
  rw[Array.getElem?_append_right (by omega),ho] at hv
  exact hrn _ p v hp hv
theorem zeroCells_size(z:Array Value)(n:Nat):(Builtin.zeroCells z n).size=n*z.size:=by simp[Builtin.zeroCells]
theorem sd{C:Ctx}{m:Mp}{K:KS}{σ:A1}{w:World}(hB:C5 C m K σ w){t t2 ty el:TypeId}{ei:TI}{i:TypeInfo}{d2:TypeDesc}(hu:C.P.underlying t=some (.slice el))(hd2:∀k,d2 ≠ .int k)(hu2:C.P.underlying t2=some d2)(hE:N0 C.P el ei)
  {s x:AV} {a:Option Addr} {sCap:Nat} {xv:Value} {xs ys:List PV} (hes:elems σ s=some xs) (hs:C7 m K s (.slice a xs.length sCap)) (hxs:∀x∈xs,x.cells.length=ei.size)
  (hex:elems σ x=some ys) (hx:C7 m K x xv) (hys:∀y∈ys,y.cells.length=ei.size) (hno:¬xs.length+ys.length≤sCap) (hroom:gp (xs.length+ys.length) ei.bytes):
  ∃cap vs,(Builtin.append_ #[t,t2] ty #[.slice a xs.length sCap,xv]).run C.P w = .ok (.slice (some ⟨w.heap.size,0,none⟩) (xs.length+ys.length) cap) (w.drew.alloc (.cells vs el)) ∧
   (xs++ys).length≤cap∧cap≤maxLen∧vs.size=cap*ei.size ∧ ∀(j:Nat) p v,(N8 (xs++ys))[j]? = some p→vs[j]? = some v→N7 K p v∧v.oneCell'=true:=by
 obtain ⟨i,hi,hz,his,hib⟩:=hE.info
 have hz0:=hE.zero
 obtain ⟨hlen,_⟩:=Y0 hB hex hx hys ys.length (Nat.le_refl _)
 obtain ⟨_,new,hfc,hnl,hnr,hn1⟩:=Y0 hB.drew hex hx hys ys.length (Nat.le_refl _)
 obtain ⟨_,old,hfo,hol,hor,ho1⟩:=Y0 hB.drew hes hs hxs xs.length (Nat.le_refl _)
 rw[List.take_length] at hnr hor
 have hmax:xs.length+ys.length≤maxLen:=Nat.le_trans hroom.1 (by decide)
 have hcap:=grownCap_ge w (xs.length+ys.length) sCap el
 have hrun:=rm (ty:=ty) hu hd2 hu2 hi hz hlen (by rw[his];exact hfo) (by rw[his];exact hfc) hno hmax (by rw[hib];exact growslice_fits (by omega) hroom.2)
 refine ⟨_,_,hrun,by rw[List.length_append];exact hcap,grownCap_le_maxLen w _ sCap el hmax,?_,?_⟩
 ·simp only[Array.size_append,zeroCells_size,hz0.1,List.size_toArray,hol,hnl]
  rw[← Nat.add_mul,←Nat.add_mul]
  congr 1
  omega
 ·exact rep_join hxs (by simpa using hol) (by simpa using hnl) hys (fun j p v h1 h2=>hor j p v h1 (by simpa using h2)) (fun j p v h1 h2=>hnr j p v h1 (by simpa using h2))
theorem wd{α:Type}{l:List α}{i:Nat}{x:α}(h:l[i]? = some x):l.set i x=l:=by
 apply List.ext_getElem?
 intro j
 by_cases e:i=j
 ·subst e
  rw[List.getElem?_set_self (List.getElem?_eq_some_iff.1 h).1,h]
 ·rw[List.getElem?_set_ne e]
theorem kf{C:Ctx}{m:Mp}{K:KS}{σ:A1}{w:World}(hB:C5 C m K σ w){t t2 ty el:TypeId}{ti ti2 ei:TI}(hT:N0 C.P t ti)(hd:ti.td = .slice el)(hE:N0 C.P el ei)(hT2:N0 C.P t2 ti2)(hn2:∀k,ti2.td ≠ .int k)
  {s x:AV} {sv xv:Value} (hs:C7 m K s sv) (hx:C7 m K x xv) {r:AV} {σ':A1} (h:L0 σ ei s x=some (r,σ')):
  ∃v w' m' K',(Builtin.append_ #[t,t2] ty #[sv,xv]).run C.P w = .ok v w'∧C5 C m' K' σ' w'∧Ext m K m' K'∧C7 m' K' r v:=by
 obtain ⟨i,hi,hz,his,hib⟩:=hE.info
 obtain ⟨d2,hu2,hd2⟩:=hT2.notInt hn2
 have hu:=hT.slice hd
 unfold L0 at h
 cases hex:elems σ x with
 | none=>simp[hex] at h
 | some ys=>
  simp only[hex] at h
  split at h
  ·rename_i hall
   have hys:=qd hall
   obtain ⟨hlen,new,hfc,hnl,hnr,hn1⟩:=Y0 hB hex hx hys ys.length (Nat.le_refl _)
   rw[List.take_length] at hnr
   have same:∀(a:Option Addr) (l c:Nat),l≤c→ys = []→(Builtin.append_ #[t,t2] ty #[.slice a l c,xv]).run C.P w = .ok (.slice a l c) w:=by
    intro a l c hlc e
    subst e
    have hnew:new = []:=List.eq_nil_of_length_eq_zero (by simpa using hnl)
    subst hnew
    have:=iu (ty:=ty) (w':=w) (a:=a) (sLen:=l) (sCap:=c) hu hd2 hu2 hi hlen (by rw[his];exact hfc) (by simpa using hlc) (fun ad _=>by simp[storeCells]) (fun _=>rfl)
    simpa using this
   cases s with
   | nilsl=>
    cases hs
    simp only at h
    by_cases hy:ys = []
    ·rw[if_pos hy] at h
     simp only[Option.some.injEq,Prod.mk.injEq] at h
     obtain ⟨rfl,rfl⟩:=h
     exact ⟨_,_,m,K,same none 0 0 (Nat.le_refl _) hy,hB,Ext.refl _ _,.nilsl⟩
    ·rw[if_neg hy] at h
     split at h
     ·rename_i hroom
      simp only[Option.some.injEq,Prod.mk.injEq] at h
      obtain ⟨rfl,rfl⟩:=h
      have hpos:0<ys.length:=List.length_pos_iff.2 hy
      obtain ⟨cap,vs,hrun,hle,hmax,hsz,hrep⟩:=sd (ty:=ty) (i:=i) hB hu hd2 hu2 hE (s:=.nilsl) (xs:=[]) rfl .nilsl (by simp) hex hx hys (by simp;omega) (by simpa using hroom)
      obtain ⟨m',h1,h2,h3⟩:=hB.drew.alloc_arr el ei.size cap ys vs (0,0) hsz (by simpa using hle) hmax hys (by simpa using hrep) (fun j _=>by simp)
      exact ⟨_,_,m',K,by simpa using hrun,h1,h2,by simpa using h3⟩
     ·cases h
   | arr id ver off len=>
    simp only at h
    split at h
    ·rename_i es xs fz ho
     split at h
     ·rename_i hc
      obtain ⟨hver,rfl,hlv,rfl,hroom⟩:=hc
      subst hlv
      subst hver
      simp only[Option.some.injEq,Prod.mk.injEq] at h
      obtain ⟨rfl,rfl⟩:=h
      by_cases hy:ys = []
      ·have hlc:∃a c,sv = .slice a xs.length c∧xs.length≤c:=by
        rcases hs.arr_inv with ⟨b,cap,es,c,a,rfl,hm,hc,hl,hv,ha⟩|⟨h0,_,_,rfl,hm⟩
        ·exact ⟨a,c,rfl,by omega⟩
        ·exact ⟨none,0,by rw[h0],by omega⟩
       obtain ⟨a,c,rfl,hle⟩:=hlc
       refine ⟨_,_,m,K,same a xs.length c hle hy,?_,Ext.refl _ _,?_⟩
       ·subst hy
        rw[List.append_nil,wd ho]
        exact hB
       ·subst hy
        simpa using hs
      ·have hpos:0<ys.length:=List.length_pos_iff.2 hy
       have hes:elems σ (.arr id xs.length 0 xs.length)=some xs:=by simp[elems,ho]
       have grow:∀(a:Option Addr) (c:Nat),sv = .slice a xs.length c→(∀ x∈xs,x.cells.length=ei.size) → ¬xs.length+ys.length≤c → ∃v w' m' K',(Builtin.append_ #[t,t2] ty #[sv,xv]).run C.P w = .ok v w' ∧
         C5 C m' K' (σ.set id (.arr ei.size (xs++ys) fz)) w'∧Ext m K m' K'∧C7 m' K' (.arr id (xs.length+ys.length) 0 (xs.length+ys.length)) v:=by
        intro a c e hxs hno
        subst e
        obtain ⟨cap,vs,hrun,hle,hmax,hsz,hrep⟩:=sd (ty:=ty) (i:=i) hB hu hd2 hu2 hE hes hs hxs hex hx hys hno hroom
        obtain ⟨m',h1,h2,h3⟩:=hB.drew.arr_move ho el cap (xs++ys) vs (by rw[List.length_append];omega) hsz hle hmax (fun x hx=>by
         rcases List.mem_append.1 hx with h|h
         ·exact hxs x h
         ·exact hys x h) hrep
        rw[List.length_append] at h3 hle
        exact ⟨_,_,m',K,hrun,h1,h2,.arr _ _ _ _ _ _ _ _ _ h3 rfl (by omega) hle (.inr (by simp))⟩
       rcases hs.arr_inv with ⟨b,cap,es,c,a,e,hm,hc,hl,hv,ha⟩|⟨h0,_,_,e,hm⟩
       ·obtain ⟨rfl,arr,ty',fr,hh,hcap,hmax,hasz,hxs,hcr,hfr,hkk⟩:=hB.arr_open ho hm
        by_cases hin:xs.length+ys.length≤c
        ·have hca:c=cap:=by omega
         subst hca
         have ha':a=some ⟨b,0,none⟩:=by
          rcases ha with h0|h0
          ·omega
          ·simpa using h0
         subst ha'
         subst e
         have hmul:xs.length*ei.size+ys.length*ei.size≤c*ei.size:=by rw[← Nat.add_mul];exact Nat.mul_le_mul_right _ hin
         obtain ⟨w',cur',hst,hsb,hb',hsz',hk⟩:=X8 C.P b (xs.length*ei.size) ty' fr new 0 arr w hh (by rw[hnl,hasz];omega) (fun j h1 h2=>hfr j (by split<;>omega) (by rw[hnl] at h2;omega)) hn1
         have hcur:∀k,cur'[k]? = if xs.length*ei.size≤k∧k<xs.length*ei.size+ys.length*ei.size then new[k-xs.length*ei.size]? else arr[k]?:=by
          intro k
          have:=hk k
          rw[hnl] at this
          simpa using this
         have hfx:=I6 hxs
         have hfy:=I6 hys
         obtain ⟨m',h1,h2,h3⟩:=hB.arr_change ho hm hh hsb hb' hsz' (xs++ys) (by simp) (by simpa using hin) (fun x hx=>by
          rcases List.mem_append.1 hx with h|h
          ·exact hxs x h
          ·exact hys x h) (fun j p v hp hv=>by
           rw[gc] at hp
           rw[hcur] at hv
           by_cases hj:j<xs.length*ei.size
           ·rw[List.getElem?_append_left (by omega)] at hp
            rw[if_neg (by omega)] at hv
            exact hcr j p v hp hv
           ·have hlt:j<xs.length*ei.size+ys.length*ei.size:=by
             have:=(List.getElem?_eq_some_iff.1 hp).1
             rw[List.length_append] at this
             omega
            rw[List.getElem?_append_right (by omega),hfx] at hp
            rw[if_pos (by omega)] at hv
            exact hnr _ p v hp hv) (fun j v hK=>by
           rw[hcur,if_neg]
           have:=(hkk j v hK).2
           omega)
         rw[List.length_append] at h3
         refine ⟨_,w',m',K,iu (ty:=ty) hu hd2 hu2 hi hlen (by rw[his];exact hfc) hin (fun ad had=>?_) (fun h=>by cases h),h1,h2,.arr _ _ _ _ _ _ _ _ _ h3 (by omega) (by omega) hin (.inr (by simp))⟩
         cases had
         rw[his,R2,Nat.zero_add]
         exact hst
        ·exact grow a c e hxs hin
       ·have hnil:xs = []:=List.eq_nil_of_length_eq_zero h0
        subst hnil
        exact grow none 0 e (by simp) (by simp;omega)
     ·cases h
    ·cases h
   | _=>simp at h
  ·cases h
end
section
open Go Go.RowKit
theorem elems_splice{xs ys:List PV}{off n:Nat}(h:off+n≤xs.length)(hn:n≤ys.length){es:Nat}(hx:∀x∈xs,x.cells.length=es)(hy:∀y∈ys,y.cells.length=es):
  (P1 xs off (ys.take n)).length=xs.length∧(∀ x∈P1 xs off (ys.take n),x.cells.length=es) ∧
   N8 (P1 xs off (ys.take n))=P1 (N8 xs) (off*es) (N8 (ys.take n)):=by
 have hl:(ys.take n).length=n:=by rw[List.length_take];omega
 have hyt:∀y∈ys.take n,y.cells.length=es:=fun y h=>hy y (List.mem_of_mem_take h)
 refine ⟨co _ _ _ (by omega),fun x hx'=>?_,?_⟩
 ·unfold P1 at hx'
  rcases List.mem_append.1 hx' with h1|h1
  ·exact hx x (List.mem_of_mem_take h1)
  ·rcases List.mem_append.1 h1 with h2|h2
   ·exact hyt x h2
   ·exact hx x (List.mem_of_mem_drop h2)
 ·unfold P1
  rw[gc,gc,ja hx,mq hx,I6 hyt]
  rw[hl,Nat.add_mul]
theorem copy_sound{C:Ctx}{m:Mp}{K:KS}{σ:A1}{w:World}(hB:C5 C m K σ w){t t2 ty el:TypeId}{ti ei:TI}(hT:N0 C.P t ti)(hd:ti.td = .slice el)(hE:N0 C.P el ei)
  {d s:AV} {dv sv:Value} (hdr:C7 m K d dv) (hs:C7 m K s sv) {r:AV} {σ':A1} (h:aCopy σ ei d s=some (r,σ')):
  ∃v w' m' K',(Builtin.copy_ #[t,t2] ty #[dv,sv]).run C.P w = .ok v w'∧C5 C m' K' σ' w'∧Ext m K m' K'∧C7 m' K' r v:=by
 obtain ⟨i,hi,hz,his,hib⟩:=hE.info
 have hu:=hT.slice hd
 unfold aCopy at h
 cases hes:elems σ s with
 | none=>simp[hes] at h
 | some ys=>
  simp only[hes] at h
  cases d with
  | arr id ver off len=>
   simp only at h
   split at h
   ·rename_i es xs ho
    split at h
    ·rename_i hc
     obtain ⟨hver,hle,rfl,hall⟩:=hc
     subst hver
     simp only[Option.some.injEq,Prod.mk.injEq] at h
     obtain ⟨rfl,rfl⟩:=h
     have hys:=qd hall
     obtain ⟨hlen,vs,hfc,hvl,hvr,hv1⟩:=Y0 hB hes hs hys (min ys.length len) (Nat.min_le_left _ _)
     have hmin:Nat.min ys.length len=min ys.length len:=rfl
     rcases hdr.arr_inv with ⟨b,cap,es,c,a,rfl,hm,hc,hl,hv,ha⟩|⟨h0,h1,h2,rfl,hm⟩
     ·obtain ⟨rfl,arr,ty',fr,hh,hcap,hmax,hasz,hxs,hcr,hfr,hkk⟩:=hB.arr_open ho hm
      have hmul:off*ei.size+(min ys.length len)*ei.size≤xs.length*ei.size:=by
       rw[← Nat.add_mul];exact Nat.mul_le_mul_right _ (by omega)
      have hmul2:xs.length*ei.size≤cap*ei.size:=Nat.mul_le_mul_right _ hcap
      obtain ⟨w',cur',hst,hsb,hb',hsz',hk⟩:=X8 C.P b (off*ei.size) ty' fr vs 0 arr w hh (by rw[hvl,hasz];omega) (fun j h1 h2=>hfr j (by simp) (by rw[hvl] at h2;omega)) hv1
      have hcur:∀k,cur'[k]? = if off*ei.size≤k∧k<off*ei.size+(min ys.length len)*ei.size then vs[k-off*ei.size]? else arr[k]?:=by
       intro k
       have:=hk k
       rw[hvl] at this
       simpa using this
      obtain ⟨e1,e2,e3⟩:=elems_splice (n:=min ys.length len) (off:=off) (by omega) (Nat.min_le_left _ _) hxs hys
      have hfx:=I6 hxs
      have hft:(N8 (ys.take (min ys.length len))).length=(min ys.length len)*ei.size:=by
       rw[I6 (fun y h=>hys y (List.mem_of_mem_take h)),List.length_take]
       congr 1;omega
      obtain ⟨m',h1,h2,h3⟩:=hB.arr_change ho hm hh hsb hb' hsz' (P1 xs off (ys.take (min ys.length len))) (by omega) (by omega) e2 (fun j p v hp hv=>by
       rw[e3,ca _ _ _ (by omega),hft] at hp
       rw[hcur] at hv
       by_cases hj:off*ei.size≤j∧j<off*ei.size+(min ys.length len)*ei.size
       ·rw[if_pos hj] at hp hv
        exact hvr _ p v hp hv
       ·rw[if_neg hj] at hp hv
        exact hcr j p v hp hv) (fun j v hK=>by
       have:=(hkk j v hK).1
       cases this)
      by_cases hlen0:len=0
      ·-- nothing is copied
       subst hlen0
       have hvs:vs = []:=List.eq_nil_of_length_eq_zero (by rw[hvl];simp)
       subst hvs
       have hw:w'=w:=by simp[storeCells] at hst;exact hst.symm
       subst hw
       refine ⟨_,w',m',K,?_,h1,h2,.pv _ _ (.int _ _)⟩
       cases a with
       | none=>simp[Builtin.copy_,run_underlying hu,sizeOf,typeInfo,hi,hlen,his,Nat.min_zero] at hfc ⊢;simp[hfc];rfl
       | some ad=>simp[Builtin.copy_,run_underlying hu,sizeOf,typeInfo,hi,hlen,his,storeCells] at hfc ⊢;simp[hfc,storeCells];rfl
      ·have ha':a=some ⟨b,off*ei.size,none⟩:=by
        rcases ha with h0|h0
        ·omega
        ·exact h0
       subst ha'
       refine ⟨_,w',m',K,?_,h1,h2,.pv _ _ (.int _ _)⟩
       simp[Builtin.copy_,run_underlying hu,sizeOf,typeInfo,hi,hlen,his,hmin,hfc,hst]
       rfl
     ·have hnil:xs = []:=List.eq_nil_of_length_eq_zero h0
      subst hnil
      subst h2
      subst h1
      have hvs:vs = []:=List.eq_nil_of_length_eq_zero (by rw[hvl];simp)
      subst hvs
      refine ⟨_,w,m,K,?_,?_,Ext.refl _ _,.pv _ _ (.int _ _)⟩
      ·simp[Builtin.copy_,run_underlying hu,sizeOf,typeInfo,hi,hlen,his] at hfc ⊢;simp[hfc];rfl
      ·simpa[P1,wd ho] using hB
    ·cases h
   ·cases h
  | _=>simp at h
theorem N7.cells{K:KS}{p:PV}{v:Value}(h:N7 K p v):p.cells.length=v.cells.size ∧ ∀(j:Nat) q u,p.cells[j]? = some q→v.cells[j]? = some u→N7 K q u∧u.oneCell'=true:=by
 have single:∀{p:PV} {v:Value},N7 K p v→p.cells = [p]→v.oneCell'=true→p.cells.length=v.cells.size ∧ ∀(j:Nat) q u,p.cells[j]? = some q→v.cells[j]? = some u→N7 K q u∧u.oneCell'=true:=by
  intro p v h e h1
  rw[e,cells_one h1]
  refine ⟨rfl,fun j q u hq hu=>?_⟩
  cases j with
  | zero=>simp at hq hu;subst hq;subst hu;exact ⟨h,h1⟩
  | succ j=>simp at hq
 cases h with
 | agg cs vs hl hr h1=>exact ⟨hl,fun j q u hq hu=>⟨hr j q u hq hu,h1 j u hu⟩⟩
 | int k n=>exact single (.int k n) rfl rfl
 | bool b=>exact single (.bool b) rfl rfl
 | str s=>exact single (.str s) rfl rfl
 | raw v hv=>exact single (.raw v hv) rfl hv
 | slNil a c=>exact single (.slNil a c) rfl rfl
 | sl xs es b o c vs hc he hl hr hk=>exact single (.sl xs es b o c vs hc he hl hr hk) rfl rfl
 | iface t p v hp=>exact single (.iface t p v hp) rfl rfl
theorem vf{C:Ctx}{m:Mp}{K:KS}{σ:A1}{w:World}(hB:C5 C m K σ w){t el:TypeId}{ti ei:TI}(hT:N0 C.P t ti)(hd:ti.td = .slice el)(hE:N0 C.P el ei)
  {n c:Int} {kl kc:IntKind} {r:AV} {σ':A1} (h:ah σ ei n c=some (r,σ')):
  ∃v w' m' K',(Instr.makeSlice t (.int kl n) (.int kc c)).run C.P w = .ok v w'∧C5 C m' K' σ' w'∧Ext m K m' K'∧C7 m' K' r v:=by
 obtain ⟨i,hi,hz,his,hib⟩:=hE.info
 have hu:=hT.slice hd
 have hz0:=hE.zero
 unfold ah at h
 split at h
 ·rename_i z hzv
  split at h
  ·rename_i hc
   obtain ⟨h0,hnc,hroom,hzl⟩:=hc
   simp only[Option.some.injEq,Prod.mk.injEq] at h
   obtain ⟨rfl,rfl⟩:=h
   have hzr:N7 K z ei.zero:=by
    have:=U4 m K ei.zero
    rw[hzv] at this
    exact this.pv_inv
   have hcn:((c.toNat:Nat):Int)=c:=Int.toNat_of_nonneg (by omega)
   have hb:(i.bytes:Int)*c≤281474976710656:=by
    have:=hroom.2
    rw[← hib] at this
    rw[← hcn,←Int.natCast_mul,Nat.mul_comm]
    omega
   have hrun:=run_make (P:=C.P) w t el i ei.zero hu hi hz kl kc n c h0 hnc hb (by have:=hroom.1;omega)
   have hes:∀x∈List.replicate n.toNat z,x.cells.length=ei.size:=fun x hx=>by rw[(List.mem_replicate.1 hx).2];exact hzl
   have hsz:(madeCells ei.zero.cells (c.toNat*i.size)).size=c.toNat*ei.size:=by rw[size_madeCells,his]
   obtain ⟨m',h1,h2,h3⟩:=hB.alloc_arr el ei.size c.toNat (List.replicate n.toNat z) _ (0,0) hsz (by simp;omega) (Nat.le_trans hroom.1 (by decide)) hes (fun j p v hp hv=>by
    have hlt:j<n.toNat*ei.size:=by
     have:=(List.getElem?_eq_some_iff.1 hp).1
     rw[I6 hes,List.length_replicate] at this
     exact this
    have hpos:0<ei.size:=Nat.pos_of_ne_zero (fun e=>by rw[e] at hlt;omega)
    have hdiv:j / ei.size<n.toNat:=(Nat.div_lt_iff_lt_mul hpos).2 hlt
    have hmod:j % ei.size<ei.size:=Nat.mod_lt _ hpos
    have hj:j / ei.size*ei.size+j % ei.size=j:=by rw[Nat.mul_comm];exact Nat.div_add_mod _ _
    have hg:=bd hes (i:=j / ei.size) (x:=z) (by simp[hdiv]) (j % ei.size) hmod
    rw[hj] at hg
    rw[hg] at hp
    have hv':v=ei.zero.cells[j % ei.size]!:=by
     unfold madeCells at hv
     simp only[Array.getElem?_map,Option.map_eq_some_iff] at hv
     obtain ⟨k,hk,rfl⟩:=hv
     have:k=j:=by
      have h2:=Array.getElem?_eq_some_iff.1 hk
      obtain ⟨_,h3⟩:=h2
      simpa using h3.symm
     rw[this,hz0.1]
    have hlt2:j % ei.size<ei.zero.cells.size:=by rw[hz0.1];exact hmod
    have hv2:ei.zero.cells[j % ei.size]? = some v:=by
     rw[hv',Array.getElem?_eq_getElem hlt2,getElem!_pos ei.zero.cells _ hlt2]
    exact hzr.cells.2 _ p v hp hv2) (fun j _=>by simp)
   rw[List.length_replicate] at h3
   exact ⟨_,_,m',K,hrun,h1,h2,h3⟩
  ·cases h
 ·cases h
theorem makeAny_sound{C:Ctx}{m:Mp}{K:KS}{σ:A1}{w:World}(hB:C5 C m K σ w){t el:TypeId}{ti ei:TI}(hT:N0 C.P t ti)(hd:ti.td = .slice el)(hE:N0 C.P el ei)
  {n c:Int} {kl kc:IntKind} {r:AV} {σ':A1} (h:de σ el ei n c=some (r,σ')):
  ∃v w' m' K',(Instr.makeSlice t (.int kl n) (.int kc c)).run C.P w = .ok v w'∧C5 C m' K' σ' w'∧Ext m K m' K'∧C7 m' K' r v:=by
 unfold de at h
 split at h
 ·rename_i hzv
  obtain ⟨i,hi,hz,his,hib⟩:=hE.info
  have hu:=hT.slice hd
  have hz0:=hE.zero
  split at h
  ·rename_i hc
   obtain ⟨h0,hnc,hroom,hs1⟩:=hc
   simp only[Option.some.injEq,Prod.mk.injEq] at h
   obtain ⟨rfl,rfl⟩:=h
   have hzr:ei.zero = .slice none 0 0:=by
    have:=U4 m K ei.zero
    rw[hzv] at this
    revert this
    generalize ei.zero=z
    intro this
    cases this
    rfl
   have hcn:((c.toNat:Nat):Int)=c:=Int.toNat_of_nonneg (by omega)
   have hb:(i.bytes:Int)*c≤281474976710656:=by
    have:=hroom.2
    rw[← hib] at this
    rw[← hcn,←Int.natCast_mul,Nat.mul_comm]
    omega
   have hrun:=run_make (P:=C.P) w t el i ei.zero hu hi hz kl kc n c h0 (by omega) hb (by have:=hroom.1;omega)
   have hsz:(madeCells ei.zero.cells (c.toNat*i.size)).size=c.toNat:=by rw[size_madeCells,his,hs1,Nat.mul_one]
   obtain ⟨m',h1,h2,h3⟩:=hB.alloc_cells el (List.replicate n.toNat .nilsl) (madeCells ei.zero.cells (c.toNat*i.size)) (by rw[hsz,List.length_replicate,hnc]) (fun j a v ha hv=>by
    have ha':a = .nilsl:=by
     have:=List.mem_of_getElem? ha
     exact (List.mem_replicate.1 this).2
    have hv':v = .slice none 0 0:=by
     unfold madeCells at hv
     simp only[Array.getElem?_map,Option.map_eq_some_iff] at hv
     obtain ⟨k,hk,rfl⟩:=hv
     rw[hzr]
     have:k % (Value.slice none 0 0).cells.size=0:=by
      show k % 1=0
      omega
     rw[this]
     rfl
    subst ha'
    subst hv'
    exact ⟨.nilsl,rfl⟩)
   cases h3 with
   | ptr _ _ b cap es hm=>
    refine ⟨_,_,m',K,hrun,h1,h2,?_⟩
    rw[← hnc]
    exact .avs σ.length n.toNat _ cap es hm
  ·cases h
 ·exact vf hB hT hd hE h
end
section
open Go Go.RowKit
def CReps(m:Mp)(K:KS)(cs:List AV)(vs:Array Value):Prop:=
 cs.length=vs.size ∧ ∀(j:Nat) a v,cs[j]? = some a→vs[j]? = some v→C7 m K a v∧v.oneCell'=true
theorem oz{m:Mp}{K:KS}{e:Operand→AV}{ρ:Operand→Value}(he:∀x,C7 m K (e x) (ρ x)){place place':Nat→Option (Nat×Nat)}(hp:∀i os,place i=some os→place' i=some os):
  ∀(l:List (Nat×Operand)) (cs:List AV) (vs:Array Value) (out:List AV),uq place (l.map fun p=>(p.1,e p.2)) cs=some out→CReps m K cs vs →
   ∃vs',Instr.fill place' vs (l.map fun p=>(p.1,ρ p.2))=some vs'∧CReps m K out vs'
 | [],cs,vs,out,h,hr=>by
  simp only[List.map_nil,uq,Option.some.injEq] at h
  subst h
  exact ⟨vs,rfl,hr⟩
 | (i,x)::l,cs,vs,out,h,hr=>by
  simp only[List.map_cons,uq] at h
  split at h
  ·rename_i off size hpl
   split at h
   ·rename_i hc
    obtain ⟨hsz,hle,h1⟩:=hc
    have hcr:=iv (he x) h1
    have hvsz:(ρ x).cells.size=size:=by rw[← hcr.1,hsz]
    obtain ⟨g1,g2⟩:=Great.foldl_set off (ρ x).cells.toList 0 vs
    have hnew:CReps m K (P1 cs off (e x).cells) ((((ρ x).cells.toList.zipIdx 0).foldl (fun cs (x:Value×Nat)=>cs.setIfInBounds (off+x.2) x.1) vs)):=by
     refine ⟨by rw[co _ _ _ (by omega),g1];exact hr.1,fun j a v ha hv=>?_⟩
     rw[ca _ _ _ (by omega)] at ha
     rw[g2 j] at hv
     simp only[Nat.add_zero,Array.length_toList,hvsz] at hv
     by_cases hj:off≤j∧j<off+(e x).cells.length
     ·rw[if_pos hj] at ha
      rw[if_pos ⟨hj.1,by omega,by have:=hr.1;omega⟩] at hv
      exact hcr.2 _ a v ha (by simpa using hv)
     ·rw[if_neg hj] at ha
      rw[if_neg (by omega)] at hv
      exact hr.2 j a v ha hv
    obtain ⟨vs',hf,hr'⟩:=oz he hp l _ _ out h hnew
    refine ⟨vs',?_,hr'⟩
    simp only[List.map_cons]
    unfold Instr.fill
    simp only[hp _ _ hpl,hvsz]
    rw[if_neg (by have:=hr.1;simp;omega)]
    rw[← hf]
    congr 1
    rw[← Array.foldl_toList,Array.toList_zipIdx]
   ·cases h
  ·cases h
theorem mkAgg_cells(cs:List AV):(em cs).cells=cs:=by
 unfold em
 cases h:aw cs with
 | none=>rfl
 | some ps=>rw[ir h];rfl
theorem ofLeaf_cells(v:Value):(AV.ofLeaf v).cells = [AV.ofLeaf v]:=by
 unfold AV.ofLeaf
 split<;>first|rfl|(split<;>rfl)
theorem rx{m:Mp}{K:KS}{P:Program}{t:TypeId}{ti:TI}(hT:N0 P t ti):CReps m K (AV.ofValue ti.zero).cells ti.zero.cells:=by
 have hz:=hT.zero.2
 have single:∀v:Value,(∀ (j:Nat) (u:Value),v.cells[j]? = some u→u.oneCell'=true)→v.cells = #[v]→CReps m K (AV.ofLeaf v).cells v.cells:=by
  intro v hv e
  rw[e] at hv
  rw[ofLeaf_cells,e]
  refine ⟨rfl,fun j a u ha hu=>?_⟩
  cases j with
  | zero=>simp at ha hu;subst ha;subst hu;exact ⟨kb m K _,hv 0 _ rfl⟩
  | succ j=>simp at ha
 unfold AV.ofValue
 split
 ·rename_i cs hcs
  rw[hcs] at hz
  have:cs.toList.all Value.oneCell'=true:=by
   rw[List.all_eq_true]
   intro v hv
   obtain ⟨j,hj⟩:=List.getElem?_of_mem hv
   exact hz j v (by simpa[Value.cells] using hj)
  rw[this,hcs]
  simp only[mkAgg_cells]
  refine ⟨by simp[Value.cells],fun j a v ha hv=>?_⟩
  simp only[List.getElem?_map,Option.map_eq_some_iff] at ha
  obtain ⟨u,hu,rfl⟩:=ha
  have:u=v:=Option.some.inj (hu.symm.trans (by simpa[Value.cells] using hv))
  subst this
  exact ⟨kb m K u,hz j u hv⟩
 ·rename_i h
  refine single _ hz ?_
  cases hv:ti.zero<;>first|rfl|exact absurd hv (h _)
def X1(C:Ctx):Prop:=∀t ti,C.tab t=some ti→N0 C.P t ti
theorem tu{C:Ctx}(hC:X1 C){m:Mp}{K:KS}{w:World}{e:Operand→AV}{ρ:Operand→Value}(he:∀x,C7 m K (e x) (ρ x)){t:TypeId}{ti:TI}(hT:N0 C.P t ti){l:List (Nat×Operand)}{r:AV}
  (h:N3 C.tab ti (l.map fun p=>(p.1,e p.2))=some r):
  ∃v,(Instr.build t (l.map fun p=>(p.1,ρ p.2)).toArray).run C.P w = .ok v w∧C7 m K r v:=by
 obtain ⟨i,d,hi,hu,hz,hsz,_,htd,_⟩:=hT
 have hT:N0 C.P t ti:=⟨i,d,hi,hu,hz,hsz,by assumption,htd,by assumption⟩
 have hzr:=rx (m:=m) (K:=K) hT
 unfold N3 at h
 cases d with
 | struct fields=>
  simp only[TD.of] at htd
  rw[← htd] at h
  simp only at h
  split at h
  ·rename_i hall
   cases hf:uq (cp C.tab (.struct (fields.toList.map fun f=>(f.offset,f.type)))) (l.map fun p=>(p.1,e p.2)) (AV.ofValue ti.zero).cells with
   | none=>rw[hf] at h;simp at h
   | some out=>
    rw[hf] at h
    simp only[Option.map_some,Option.some.injEq] at h
    subst h
    have hpl:∃places,fields.toList.mapM (fun f=>(C.P.info? f.type).map fun i=>(f.offset,i.size))=some places ∧
      ∀i os,cp C.tab (.struct (fields.toList.map fun f=>(f.offset,f.type))) i=some os→places[i]? = some os:=by
     have aux:∀fs:List Field,(fs.map fun f=>(f.offset,f.type)).all (fun f=>(C.tab f.2).isSome)=true →
       ∃places,fs.mapM (fun f=>(C.P.info? f.type).map fun i=>(f.offset,i.size))=some places ∧
        ∀i os,cp C.tab (.struct (fs.map fun f=>(f.offset,f.type))) i=some os→places[i]? = some os:=by
      intro fs
      induction fs with
      | nil=>intro _;exact ⟨[],rfl,fun i os h=>by simp[cp] at h⟩
      | cons f r ih=>
       intro h
       simp only[List.map_cons,List.all_cons,Bool.and_eq_true] at h
       obtain ⟨fi,hfi⟩:=Option.isSome_iff_exists.1 h.1
       obtain ⟨places,hp1,hp2⟩:=ih h.2
       obtain ⟨j,hj,_,hjs,_⟩:=(hC _ _ hfi).info
       refine ⟨(f.offset,j.size)::places,by simp[List.mapM_cons,hj,hp1],fun i os hi=>?_⟩
       cases i with
       | zero=>
        simp only[cp,List.map_cons,List.getElem?_cons_zero,hfi] at hi
        rw[hjs];simpa using hi
       | succ i=>
        simp only[List.getElem?_cons_succ]
        refine hp2 i os ?_
        simpa[cp] using hi
     exact aux _ hall
    obtain ⟨places,hp1,hp2⟩:=hpl
    obtain ⟨vs',hfill,hr⟩:=oz he hp2 l _ _ out hf hzr
    refine ⟨.agg vs',run_build w t _ vs' ?_,cg hr.1 (fun j a v h1 h2=>(hr.2 j a v h1 h2).1) (fun j v hv=>?_)⟩
    ·unfold Program.built
     simp only[hi,hu,hz,hp1]
     simpa using hfill
    ·have hlt:j<out.length:=by rw[hr.1];exact (Array.getElem?_eq_some_iff.1 hv).1
     exact (hr.2 j _ v (List.getElem?_eq_getElem hlt) hv).2
  ·cases h
 | array n el=>
  simp only[TD.of] at htd
  rw[← htd] at h
  simp only at h
  split at h
  ·rename_i hall
   obtain ⟨ei,hel⟩:=Option.isSome_iff_exists.1 hall
   cases hf:uq (cp C.tab (.array n el)) (l.map fun p=>(p.1,e p.2)) (AV.ofValue ti.zero).cells with
   | none=>rw[hf] at h;simp at h
   | some out=>
    rw[hf] at h
    simp only[Option.map_some,Option.some.injEq] at h
    subst h
    obtain ⟨j,hj,_,hjs,_⟩:=(hC _ _ hel).info
    obtain ⟨vs',hfill,hr⟩:=oz he (place':=fun i=>some (i*j.size,j.size)) (fun i os h=>by simpa[cp,hel,hjs] using h) l _ _ out hf hzr
    refine ⟨.agg vs',run_build w t _ vs' ?_,cg hr.1 (fun j a v h1 h2=>(hr.2 j a v h1 h2).1) (fun j v hv=>?_)⟩
    ·unfold Program.built
     simp only[hi,hu,hz,hj]
     exact hfill
    ·have hlt:j<out.length:=by rw[hr.1];exact (Array.getElem?_eq_some_iff.1 hv).1
     exact (hr.2 j _ v (List.getElem?_eq_getElem hlt) hv).2
  ·cases h
 | _=>simp only[TD.of] at htd;rw[← htd] at h;simp at h
theorem oi{e:Operand→AV}{ρ:Operand→Value}:∀(l:List (Nat×Operand)) (k:Nat) (vs:List AV),ke k (l.map fun p=>(p.1,e p.2))=some vs →
  vs=l.map (fun p=>e p.2)∧(l.map fun p=>(p.1,ρ p.2))=((l.map fun p=>ρ p.2).zipIdx k).map fun x=>(x.2,x.1)
 | [],k,vs,h=>by simp[ke] at h;subst h;simp
 | (i,x)::l,k,vs,h=>by
  simp only[List.map_cons,ke] at h
  split at h
  ·rename_i hik
   subst hik
   split at h
   ·rename_i r hr
    cases h
    obtain ⟨h1,h2⟩:=oi (ρ:=ρ) l (i+1) r hr
    exact ⟨by simp[h1],by simp[List.zipIdx_cons,h2]⟩
   ·cases h
  ·cases h
theorem flat_reps{K:KS}:∀(ps:List PV) (vs:List Value),ps.length=vs.length→(∀ (j:Nat) p v,ps[j]? = some p→vs[j]? = some v→N7 K p v) →
  (N8 ps).length=(vs.flatMap fun v=>v.cells.toList).length ∧ ∀(j:Nat) p v,(N8 ps)[j]? = some p→(vs.flatMap fun v=>v.cells.toList)[j]? = some v→N7 K p v∧v.oneCell'=true
 | [],[],_,_=>⟨rfl,fun j p v h=>by simp[N8] at h⟩
 | [],_::_,h,_=>by simp at h
 | _::_,[],h,_=>by simp at h
 | p::ps,v::vs,hl,hr=>by
  obtain ⟨h1,h2⟩:=flat_reps ps vs (by simpa using hl) (fun j p v hp hv=>hr (j+1) p v (by simpa using hp) (by simpa using hv))
  have hpv:=(hr 0 p v rfl rfl).cells
  simp only[N8,List.flatMap_cons,List.length_append] at *
  have hl2:p.cells.length=v.cells.toList.length:=by simpa using hpv.1
  refine ⟨by omega,fun j q u hq hu=>?_⟩
  by_cases hj:j<p.cells.length
  ·rw[List.getElem?_append_left hj] at hq
   rw[List.getElem?_append_left (by omega)] at hu
   exact hpv.2 j q u hq (by simpa using hu)
  ·rw[List.getElem?_append_right (by omega)] at hq
   rw[List.getElem?_append_right (by omega)] at hu
   rw[← hl2] at hu
   exact h2 _ q u hq hu
theorem C5.commit_new{C:Ctx}{m:Mp}{K:KS}{σ:A1}{w:World}(hB:C5 C m K σ w)(t:TypeId)(vs:Array Value)(fr:Nat×Nat)(h1:∀(j:Nat) v,vs[j]? = some v→v.oneCell'=true):
  ∃K':KS,C5 C m K' σ (w.alloc (.cells vs t fr))∧Ext m K m K' ∧ ∀(j:Nat) v,vs[j]? = some v→K' w.heap.size j v:=by
 have hx:Ext m K m (fun b o v=>K b o v∨(b=w.heap.size∧vs[o]? = some v)):=⟨fun _ _ _ h=>h,fun _ _ _ h=>.inl h⟩
 have hsz:C.w0.heap.size≤w.heap.size:=hB.below.size
 refine ⟨fun b o v=>K b o v∨(b=w.heap.size∧vs[o]? = some v),⟨hB.below.alloc hsz _,fun b o v h=>?_,hB.dom,fun id x h=>?_,hB.base,hB.apart,fun g a h=>(hB.glob g a h).mono hx,fun b o v h=>h.elim (hB.old b o v) (fun h=>.inr (by rw[h.1];exact hsz))⟩,hx,fun j v h=>.inr ⟨rfl,h⟩⟩
 ·rcases h with h|⟨rfl,h⟩
  ·rw[S8 _ _ _ _ (hB.keep_lt h)]
   exact hB.keep b o v h
  ·rw[T3 _ _ _ (Q1 _ _)]
   exact ⟨h,h1 _ _ h⟩
 ·have hlt:∀b,b∈blk m id x→b<w.heap.size:=fun b hb=>hB.lt h hb
  have ho:=hB.obj id x h
  cases x with
  | cells ty cs=>
   obtain ⟨b,cap,es,arr,hm,hh,hl,hr,hk⟩:=ho
   have hb:=hlt b (by simp[blk,Loc.blk,hm])
   refine ⟨b,cap,es,arr,hm,by rw[J4 _ _ _ hb];exact hh,hl,fun j a v x y=>⟨(hr j a v x y).1.mono hx,(hr j a v x y).2⟩,fun o v hK=>?_⟩
   rcases hK with hK|⟨e,_⟩
   ·exact hk o v hK
   ·omega
  | arr es xs fz=>
   obtain ⟨hver,ho⟩:=ho
   refine ⟨hver,?_⟩
   rcases ho with ⟨rfl,hm⟩|⟨b,cap,arr,ty,fr',hm,hh,hc,hmx,hasz,hes,hr,hfr,hk⟩
   ·exact .inl ⟨rfl,hm⟩
   ·have hb:=hlt b (by simp[blk,Loc.blk,hm])
    refine .inr ⟨b,cap,arr,ty,fr',hm,by rw[J4 _ _ _ hb];exact hh,hc,hmx,hasz,hes,fun j p v x y=>⟨(hr j p v x y).1.mono hx.2,(hr j p v x y).2⟩,hfr,fun j v hK=>?_⟩
    rcases hK with hK|⟨e,_⟩
    ·exact hk j v hK
    ·omega
  | bld ty el s=>
   obtain ⟨b,cap,es,p,v,hm,hh,hp,hk,hver,ho⟩:=ho
   have hb:=hlt b (by simp[blk,Loc.blk,hm])
   refine ⟨b,cap,es,p,v,hm,by rw[J4 _ _ _ hb];exact hh,hp,fun o v hK=>?_,hver,?_⟩
   ·rcases hK with hK|⟨e,_⟩
    ·exact hk o v hK
    ·omega
   ·rcases ho with ho|⟨b2,cap2,arr,fr,hm2,hne,hv2,hh2,q1,q2,q3,q4,q5,q6⟩
    ·exact .inl ho
    ·have hb2:=hlt b2 (by simp[blk,Loc.blk,hm2])
     refine .inr ⟨b2,cap2,arr,fr,hm2,hne,hv2,by rw[J4 _ _ _ hb2];exact hh2,q1,q2,q3,q4,q5,fun o v hK=>?_⟩
     rcases hK with hK|⟨e,_⟩
     ·exact q6 o v hK
     ·omega
  | mp es=>
   obtain ⟨b,cap,s,arr,clock,hm,hh,hl,hr⟩:=ho
   have hb:=hlt b (by simp[blk,Loc.blk,hm])
   exact ⟨b,cap,s,arr,clock,hm,by rw[J4 _ _ _ hb];exact hh,hl,fun j e a x y=>⟨(hr j e a x y).1.mono hx.2,(hr j e a x y).2.mono hx⟩⟩
  | gone=>trivial
theorem flatMap_len{vs:List Value}{s:Nat}(h:∀v∈vs,v.cells.size=s):(vs.flatMap fun v=>v.cells.toList).length=vs.length*s:=by
 induction vs with
 | nil=>simp
 | cons v r ih=>
  simp only[List.flatMap_cons,List.length_append,List.length_cons,Array.length_toList]
  rw[ih (fun u hu=>h u (List.mem_cons_of_mem _ hu)),h v (by simp),Nat.add_mul];omega
def vw(m:Mp)(K:KS)(w:World)(id es:Nat)(xs:List PV):KS:=fun b o v=>K b o v ∨
 ∃cap arr ty fr,m id xs.length=some (.at b cap es)∧w.heap[b]? = some (.cells arr ty fr)∧o<xs.length*es∧arr[o]? = some v
theorem C5.freeze{C:Ctx}{m:Mp}{K:KS}{σ:A1}{w:World}(hB:C5 C m K σ w){id es:Nat}{xs:List PV}{fz:Bool}(ho:σ[id]? = some (.arr es xs fz)):C5 C m (vw m K w id es xs) (σ.set id (.arr es xs true)) w:=by
 have hlt:=(List.getElem?_eq_some_iff.1 ho).1
 have hx:∀b o v,K b o v→vw m K w id es xs b o v:=fun _ _ _ h=>.inl h
 have hext:Ext m K m (vw m K w id es xs):=⟨fun _ _ _ h=>h,hx⟩
 have hget:∀(i:Nat) x,(σ.set id (.arr es xs true))[i]? = some x→(i=id∧x = .arr es xs true)∨(i≠id∧σ[i]? = some x):=by
  intro i x h
  by_cases e:i=id
  ·subst e
   rw[List.getElem?_set_self hlt] at h
   cases h;exact .inl ⟨rfl,rfl⟩
  ·rw[List.getElem?_set_ne (Ne.symm e)] at h
   exact .inr ⟨e,h⟩
 have hold:∀(i:Nat) x,(σ.set id (.arr es xs true))[i]? = some x → ∃y,σ[i]? = some y∧blk m i x=blk m i y:=by
  intro i x h
  rcases hget i x h with ⟨rfl,rfl⟩|⟨_,h⟩
  ·exact ⟨_,ho,rfl⟩
  ·exact ⟨x,h,rfl⟩
 have hno:∀(i:Nat) x b,i≠id→σ[i]? = some x→b∈blk m i x → ∀o v,vw m K w id es xs b o v→K b o v:=by
  intro i x b hne h hb o v hK
  rcases hK with h1|⟨cap,arr,ty,fr,h3,_⟩
  ·exact h1
  ·exact absurd (hB.apart i x id _ b h ho hb (by simp[blk,Loc.blk,h3])) hne
 refine ⟨hB.below,fun b o v h=>?_,fun i ver l h=>by rw[List.length_set];exact hB.dom i ver l h,fun i x h=>?_,fun i x b h hb=>?_,fun i x i' x' b h h' hb hb'=>?_,fun g a h=>(hB.glob g a h).mono hext,fun b o v h=>?_⟩
 ·rcases h with h|⟨cap,arr,ty,fr,h3,h4,h5,h6⟩
  ·exact hB.keep b o v h
  ·obtain ⟨_,arr',ty',fr',hh,_,_,_,hes,hcr,_⟩:=hB.arr_open ho h3
   rw[h4] at hh;cases hh
   have hl:o<(N8 xs).length:=by rw[I6 hes];exact h5
   refine ⟨by rw[T3 w b _ h4];exact h6,(hcr o _ v (List.getElem?_eq_getElem hl) h6).2⟩
 ·rcases hget i x h with ⟨rfl,rfl⟩|⟨hne,h⟩
  ·obtain ⟨hver,hoo⟩:=hB.obj i _ ho
   refine ⟨hver,?_⟩
   rcases hoo with ⟨rfl,hm⟩|⟨b,cap,arr,ty,fr,hm,hh,h1,h2,h3,h4,h5,h6,h7⟩
   ·exact .inl ⟨rfl,hm⟩
   ·refine .inr ⟨b,cap,arr,ty,fr,hm,hh,h1,h2,h3,h4,fun j p v x y=>⟨(h5 j p v x y).1.mono hx,(h5 j p v x y).2⟩,fun j g1 g2=>h6 j (by
     simp only[if_true] at g1
     split
     ·exact g1
     ·exact Nat.zero_le _) g2,fun j v hK=>?_⟩
    rcases hK with hK|⟨cap',arr',ty',fr',g1,g2,g3,g4⟩
    ·exact ⟨rfl,(h7 j v hK).2⟩
    ·exact ⟨rfl,g3⟩
  ·have hoo:=hB.obj i x h
   have hb:=hno i x
   cases x with
   | cells ty cs=>
    obtain ⟨b,cap,es,arr,hm,hh,hl,hr,hkk⟩:=hoo
    exact ⟨b,cap,es,arr,hm,hh,hl,fun j a v x y=>⟨(hr j a v x y).1.mono hext,(hr j a v x y).2⟩,fun o v hK=>hkk o v (hb b hne h (by simp[blk,Loc.blk,hm]) o v hK)⟩
   | arr es xs fz=>
    obtain ⟨hver,hoo⟩:=hoo
    refine ⟨hver,?_⟩
    rcases hoo with ⟨rfl,hm⟩|⟨b,cap,arr,ty,fr,hm,hh,h1,h2,h3,h4,h5,h6,h7⟩
    ·exact .inl ⟨rfl,hm⟩
    ·exact .inr ⟨b,cap,arr,ty,fr,hm,hh,h1,h2,h3,h4,fun j p v x y=>⟨(h5 j p v x y).1.mono hx,(h5 j p v x y).2⟩,h6,fun j v hK=>h7 j v (hb b hne h (by simp[blk,Loc.blk,hm]) j v hK)⟩
   | bld ty el s=>
    obtain ⟨b,cap,es,p,v,hm,hh,hp,hkk,hver,hoo⟩:=hoo
    refine ⟨b,cap,es,p,v,hm,hh,hp,fun o v hK=>hkk o v (hb b hne h (by simp[blk,Loc.blk,hm]) o v hK),hver,?_⟩
    rcases hoo with hoo|⟨b2,cap2,arr,fr,hm2,g1,g2,g3,g4,g5,g6,g7,g8,g9⟩
    ·exact .inl hoo
    ·exact .inr ⟨b2,cap2,arr,fr,hm2,g1,g2,g3,g4,g5,g6,g7,g8,fun o v hK=>g9 o v (hb b2 hne h (by simp[blk,Loc.blk,hm2]) o v hK)⟩
   | mp es=>
    obtain ⟨b,cap,s,arr,clock,hm,hh,hl,hr⟩:=hoo
    exact ⟨b,cap,s,arr,clock,hm,hh,hl,fun j e a x y=>⟨(hr j e a x y).1.mono hx,(hr j e a x y).2.mono hext⟩⟩
   | gone=>trivial
 ·obtain ⟨y,hy,e⟩:=hold i x h
  rw[e] at hb
  exact hB.base i y b hy hb
 ·obtain ⟨y,hy,e⟩:=hold i x h
  obtain ⟨y',hy',e'⟩:=hold i' x' h'
  rw[e] at hb
  rw[e'] at hb'
  exact hB.apart i y i' y' b hy hy' hb hb'
 ·rcases h with h|⟨cap,arr,ty,fr,h3,h4,h5,h6⟩
  ·exact hB.old b o v h
  ·exact .inr (hB.base id _ b ho (by simp[blk,Loc.blk,h3]))
theorem C7.frozen{C:Ctx}{m:Mp}{K:KS}{σ:A1}{w:World}(hB:C5 C m K σ w){id es:Nat}{xs:List PV}{fz:Bool}(ho:σ[id]? = some (.arr es xs fz)){v:Value}(hr:C7 m K (.arr id xs.length 0 xs.length) v):C7 m (vw m K w id es xs) (.pv (.sl xs)) v:=by
 have hx:∀b o v,K b o v→vw m K w id es xs b o v:=fun _ _ _ h=>.inl h
 rcases hr.arr_inv with ⟨b,cap,es',c,ad,rfl,hm,hcc,hl,hv,ha⟩|⟨h0,h1,h2,rfl,hm⟩
 ·cases xs with
  | nil=>exact .pv _ _ (.slNil _ _)
  | cons x0 xs0=>
   obtain ⟨rfl,arr,ty,fr,hh,hcap,hmax,hasz,hes,hcr,_,_⟩:=hB.arr_open ho hm
   have hc:c≠0:=by
    intro e
    rw[e] at hcc
    simp only[List.length_cons] at hv
    omega
   have had:ad=some ⟨b,0,none⟩:=by
    rcases ha with h|h
    ·exact absurd h hc
    ·rw[h,Nat.zero_mul]
   subst had
   have hfl:=I6 hes
   have hmul:(x0::xs0).length*es'≤cap*es':=Nat.mul_le_mul_right _ hcap
   refine .pv _ _ (.sl _ es' b 0 c (arr.toList.take ((x0::xs0).length*es')) (by omega) hes ?_ (fun j p v hp hv=>?_) (fun j v hv=>?_))
   ·have h9:arr.toList.length=cap*es':=by rw[Array.length_toList];exact hasz
    rw[List.length_take,hfl];omega
   ·rw[List.getElem?_take] at hv
    split at hv
    ·exact ((hcr _ p v hp (by simpa using hv)).1).mono hx
    ·cases hv
   ·rw[List.getElem?_take] at hv
    split at hv
    ·rename_i hj
     rw[Nat.zero_add]
     exact .inr ⟨cap,arr,ty,fr,hm,hh,hj,by simpa using hv⟩
    ·cases hv
 ·have:xs = []:=List.length_eq_zero_iff.1 h0
  subst this
  exact .pv _ _ (.slNil _ _)
theorem gw{C:Ctx}{m:Mp}{K:KS}{σ:A1}{w:World}(hB:C5 C m K σ w){e:Operand→AV}{ρ:Operand→Value}(he:∀x,C7 m K (e x) (ρ x)){t el:TypeId}{ti ei:TI}(hT:N0 C.P t ti)(hd:ti.td = .slice el)(hE:N0 C.P el ei)
  {own:Bool} {len:Nat} {l:List (Nat×Operand)} {r:AV} {σ':A1} (h:R9 σ ei own len (l.map fun p=>(p.1,e p.2))=some (r,σ')):
  ∃v w' m' K',(Instr.buildSlice t len (l.map fun p=>(p.1,ρ p.2)).toArray).run C.P w = .ok v w'∧C5 C m' K' σ' w'∧Ext m K m' K'∧C7 m' K' r v:=by
 obtain ⟨i,hi,hz,his,hib⟩:=hE.info
 have hu:=hT.slice hd
 unfold R9 at h
 split at h
 ·cases h
 ·rename_i vs hin
  split at h
  ·cases h
  ·rename_i ps hps
   split at h
   ·rename_i hc
    obtain ⟨hlen,hall,hsmall,hpos⟩:=hc
    have hes:=qd hall
    obtain ⟨hvs,hparts⟩:=oi (ρ:=ρ) l 0 vs hin
    have hev:=ir hps
    have hl:ps.length=l.length:=by
     have:=congrArg List.length (hvs.symm.trans hev)
     simpa using this.symm
    have hpr:∀(j:Nat) p v,ps[j]? = some p→(l.map fun p=>ρ p.2)[j]? = some v→N7 K p v:=by
     intro j p v hp hv
     simp only[List.getElem?_map,Option.map_eq_some_iff] at hv
     obtain ⟨x,hx,rfl⟩:=hv
     have h2:(l.map fun p=>e p.2)[j]? = some (.pv p):=by rw[← hvs,hev];simp[hp]
     simp only[List.getElem?_map,hx,Option.map_some,Option.some.injEq] at h2
     have:=he x.2
     rw[h2] at this
     exact this.pv_inv
    obtain ⟨hfl,hfr⟩:=flat_reps ps (l.map fun p=>ρ p.2) (by simpa using hl) hpr
    have hvsz:∀v∈(l.map fun p=>ρ p.2),v.cells.size=ei.size:=by
     intro v hv
     obtain ⟨j,hj⟩:=List.getElem?_of_mem hv
     have hlt:j<ps.length:=by rw[hl];have:=(List.getElem?_eq_some_iff.1 hj).1;simpa using this
     rw[← (hpr j _ v (List.getElem?_eq_getElem hlt) hj).cells.1]
     exact hes _ (List.getElem_mem hlt)
    have hfm:(((l.map fun p=>ρ p.2).flatMap fun v=>v.cells.toList).toArray).size=len*ei.size:=by
     rw[List.size_toArray,flatMap_len hvsz,List.length_map,←hl,hlen]
    have hrun:(Instr.buildSlice t len (l.map fun p=>(p.1,ρ p.2)).toArray).run C.P w = .ok (.slice (some ⟨w.heap.size,0,none⟩) len len) (w.alloc (.cells ((l.map fun p=>ρ p.2).flatMap fun v=>v.cells.toList).toArray el)):=by
     by_cases h0:len=0
     ·subst h0
      have hln:l = []:=List.eq_nil_of_length_eq_zero (by omega)
      subst hln
      simp[Instr.buildSlice,run_underlying hu,sizeOf,typeInfo,hi,Instr.fill,newRow,Array.range_zero']
     ·refine run_buildSlice w t el len _ _ i ei.zero hu hi hz (by rw[his];omega) (by rw[his];intro e;rcases Nat.mul_eq_zero.1 e with h|h<;>omega) ?_
      rw[his]
      show Instr.fill _ _ (l.map fun p=>(p.1,ρ p.2))=_
      rw[hparts]
      exact Great.fill_whole hpos _ _ hvsz (by simp;rw[← hl,hlen])
    split at h
    ·simp only[Option.some.injEq,Prod.mk.injEq] at h
     obtain ⟨rfl,rfl⟩:=h
     subst hlen
     obtain ⟨m',h1,h2,h3⟩:=hB.alloc_arr el ei.size ps.length ps ((l.map fun p=>ρ p.2).flatMap fun v=>v.cells.toList).toArray (0,0) hfm (Nat.le_refl _) (by
      have:ps.length≤ps.length*ei.size:=Nat.le_mul_of_pos_right _ hpos
      exact Nat.le_trans this (Nat.le_trans hsmall (by decide))) hes (fun j p v hp hv=>hfr j p v hp (by simpa using hv)) (fun j _=>by simp)
     exact ⟨_,_,m',K,hrun,h1,h2,h3⟩
    ·simp only[Option.some.injEq,Prod.mk.injEq] at h
     obtain ⟨rfl,rfl⟩:=h
     obtain ⟨K',h1,h2,h3⟩:=hB.commit_new el ((l.map fun p=>ρ p.2).flatMap fun v=>v.cells.toList).toArray (0,0) (fun j v hv=>by
      have hlt:j<(N8 ps).length:=by rw[hfl];have:=(Array.getElem?_eq_some_iff.1 hv).1;simpa using this
      exact (hfr j _ v (List.getElem?_eq_getElem hlt) (by simpa using hv)).2)
     refine ⟨_,_,m,K',hrun,h1,h2,.pv _ _ ?_⟩
     rw[← hlen]
     exact .sl ps ei.size _ 0 _ ((l.map fun p=>ρ p.2).flatMap fun v=>v.cells.toList) (Nat.le_refl _) hes hfl (fun j p v hp hv=>(hfr j p v hp hv).1.mono h2.2) (fun j v hv=>by
      rw[Nat.zero_add]
      exact h3 j v (by simpa using hv))
   ·cases h
theorem frz1_len{σ σ1:A1}{a:AV}{p:PV}(h:frz1 σ a=some (p,σ1)):σ1.length=σ.length:=by
 unfold frz1 at h
 split at h
 ·cases h;rfl
 ·cases h;rfl
 ·split at h
  ·split at h
   ·cases h;simp
   ·cases h
  ·cases h
 ·cases h
theorem qv:∀{cs:List AV} {σ σ1:A1} {ps:List PV},Y4 σ cs=some (ps,σ1)→σ1.length=σ.length
 | [],σ,σ1,ps,h=>by cases h;rfl
 | a::r,σ,σ1,ps,h=>by
  unfold Y4 at h
  split at h
  ·rename_i p τ e
   split at h
   ·rename_i qs τ2 e2
    cases h
    rw[qv e2,frz1_len e]
   ·cases h
  ·cases h
theorem frzV_len{σ σ1:A1}{a:AV}{p:PV}(h:frzV σ a=some (p,σ1)):σ1.length=σ.length:=by
 unfold frzV at h
 split at h
 ·split at h
  ·rename_i e;cases h;exact qv e
  ·cases h
 ·exact frz1_len h
theorem qu:∀{l:List (Nat×AV)} {σ σ1:A1} {ps:List (Nat×AV)},cy σ l=some (ps,σ1)→σ1.length=σ.length
 | [],σ,σ1,ps,h=>by cases h;rfl
 | (i,a)::r,σ,σ1,ps,h=>by
  unfold cy at h
  split at h
  ·rename_i p τ e
   split at h
   ·rename_i qs τ2 e2
    cases h
    rw[qu e2,frzV_len e]
   ·cases h
  ·cases h
theorem frz1_sound{C:Ctx}{m:Mp}{K:KS}{σ σ1:A1}{w:World}(hB:C5 C m K σ w){a:AV}{p:PV}(h:frz1 σ a=some (p,σ1)){v:Value}(hr:C7 m K a v):∃K1,C5 C m K1 σ1 w∧(∀ b o v,K b o v→K1 b o v)∧N7 K1 p v:=by
 unfold frz1 at h
 split at h
 ·cases h;exact ⟨K,hB,fun _ _ _ h=>h,hr.pv_inv⟩
 ·cases h
  cases hr
  exact ⟨K,hB,fun _ _ _ h=>h,.slNil _ _⟩
 ·split at h
  ·rename_i es xs fz ho
   split at h
   ·rename_i hc
    obtain ⟨rfl,rfl,rfl⟩:=hc
    cases h
    exact ⟨_,hB.freeze ho,fun _ _ _ h=>.inl h,(C7.frozen hB ho hr).pv_inv⟩
   ·cases h
  ·cases h
 ·cases h
theorem md{C:Ctx}{m:Mp}{w:World}:∀{cs:List AV} {vs:List Value} {K:KS} {σ σ1:A1} {ps:List PV},C5 C m K σ w→Y4 σ cs=some (ps,σ1)→cs.length=vs.length→(∀ (j:Nat) a v,cs[j]? = some a→vs[j]? = some v→C7 m K a v) →
  ∃K1,C5 C m K1 σ1 w∧(∀ b o v,K b o v→K1 b o v)∧ps.length=vs.length ∧ ∀(j:Nat) p v,ps[j]? = some p→vs[j]? = some v→N7 K1 p v
 | [],[],K,σ,σ1,ps,hB,h,_,_=>by
  cases h
  exact ⟨K,hB,fun _ _ _ h=>h,rfl,fun j p v hj=>by simp at hj⟩
 | [],v::vs,K,σ,σ1,ps,hB,h,hl,_=>by simp at hl
 | a::r,[],K,σ,σ1,ps,hB,h,hl,_=>by simp at hl
 | a::r,v::vs,K,σ,σ1,ps,hB,h,hl,hr=>by
  unfold Y4 at h
  split at h
  ·rename_i p τ e
   split at h
   ·rename_i qs τ2 e2
    cases h
    obtain ⟨K1,h1,h2,h3⟩:=frz1_sound hB e (hr 0 a v rfl rfl)
    obtain ⟨K2,h4,h5,h6,h7⟩:=md (vs:=vs) h1 e2 (by simpa using hl) (fun j a' v' ha hv=>(hr (j+1) a' v' (by simpa using ha) (by simpa using hv)).mono ⟨fun _ _ _ h=>h,h2⟩)
    refine ⟨K2,h4,fun b o v h=>h5 b o v (h2 b o v h),by simpa using h6,fun j p' v' hp hv=>?_⟩
    cases j with
    | zero=>
     simp only[List.getElem?_cons_zero,Option.some.injEq] at hp hv
     subst hp;subst hv
     exact h3.mono h5
    | succ j=>exact h7 j p' v' (by simpa using hp) (by simpa using hv)
   ·cases h
  ·cases h
theorem frzV_sound{C:Ctx}{m:Mp}{K:KS}{σ σ1:A1}{w:World}(hB:C5 C m K σ w){a:AV}{p:PV}(h:frzV σ a=some (p,σ1)){v:Value}(hr:C7 m K a v):∃K1,C5 C m K1 σ1 w∧(∀ b o v,K b o v→K1 b o v)∧N7 K1 p v:=by
 unfold frzV at h
 split at h
 ·rename_i cs
  split at h
  ·rename_i ps τ e
   cases h
   cases hr with
   | agg _ vs hl hrr h1=>
    obtain ⟨K1,g1,g2,g3,g4⟩:=md (vs:=vs.toList) hB e (by simpa using hl) (fun j a v ha hv=>hrr j a v ha (by simpa using hv))
    exact ⟨K1,g1,g2,.agg _ _ (by simpa using g3) (fun j p v hp hv=>g4 j p v hp (by simpa using hv)) h1⟩
  ·cases h
 ·exact frz1_sound hB h hr
theorem ll{C:Ctx}{m:Mp}{w:World}{e:Operand→AV}{ρ:Operand→Value}:∀{l:List (Nat×Operand)} {K:KS} {σ σ1:A1} {ps:List (Nat×AV)},C5 C m K σ w→(∀ x,C7 m K (e x) (ρ x))→cy σ (l.map fun p=>(p.1,e p.2))=some (ps,σ1) →
  ∃K1,C5 C m K1 σ1 w∧(∀ b o v,K b o v→K1 b o v)∧ps.length=l.length ∧ ∀(j:Nat) p x,ps[j]? = some p→l[j]? = some x→p.1=x.1∧C7 m K1 p.2 (ρ x.2)
 | [],K,σ,σ1,ps,hB,he,h=>by
  cases h
  exact ⟨K,hB,fun _ _ _ h=>h,rfl,fun j p v hj=>by simp at hj⟩
 | (i,y)::r,K,σ,σ1,ps,hB,he,h=>by
  rw[List.map_cons] at h
  unfold cy at h
  split at h
  ·rename_i p τ e1
   split at h
   ·rename_i qs τ2 e2
    cases h
    obtain ⟨K1,h1,h2,h3⟩:=frzV_sound hB e1 (he y)
    obtain ⟨K2,h4,h5,h6,h7⟩:=ll (l:=r) h1 (fun x=>(he x).mono ⟨fun _ _ _ h=>h,h2⟩) e2
    refine ⟨K2,h4,fun b o v h=>h5 b o v (h2 b o v h),by simpa using h6,fun j p' v' hp hv=>?_⟩
    cases j with
    | zero=>
     simp only[List.getElem?_cons_zero,Option.some.injEq] at hp hv
     subst hp;subst hv
     exact ⟨rfl,.pv _ _ (h3.mono h5)⟩
    | succ j=>exact h7 j p' v' (by simpa using hp) (by simpa using hv)
   ·cases h
  ·cases h
theorem sq{C:Ctx}{m:Mp}{K:KS}{σ:A1}{w:World}(hB:C5 C m K σ w){e:Operand→AV}{ρ:Operand→Value}(he:∀x,C7 m K (e x) (ρ x)){t el:TypeId}{ti ei:TI}(hT:N0 C.P t ti)(hd:ti.td = .slice el)(hE:N0 C.P el ei)
  {own:Bool} {len:Nat} {l:List (Nat×Operand)} {r:AV} {σ':A1} (h:H9 σ ei own len (l.map fun p=>(p.1,e p.2))=some (r,σ')):
  ∃v w' m' K',(Instr.buildSlice t len (l.map fun p=>(p.1,ρ p.2)).toArray).run C.P w = .ok v w'∧C5 C m' K' σ' w'∧Ext m K m' K'∧C7 m' K' r v:=by
 unfold H9 at h
 split at h
 ·rename_i q hq
  cases h
  exact gw hB he hT hd hE hq
 ·split at h
  ·rename_i ps τ hp
   obtain ⟨K1,hB1,hK,hl,hrep⟩:=ll hB he hp
   have key:=gw (e:=fun x=>match x with
    | .tmp j=>(ps[j]?.map (·.2)).getD .dead
    | _=>.dead) (ρ:=fun x=>match x with
    | .tmp j=>(l[j]?.map fun x=>ρ x.2).getD undef
    | _=>undef) (l:=(List.range l.length).map fun j=>((l[j]?.map (·.1)).getD 0,Operand.tmp j)) hB1 (fun x=>by
     cases x with
     | tmp j=>
      dsimp only
      cases hj:ps[j]? with
      | none=>exact .dead _
      | some p=>
       have hlt:j<l.length:=by rw[← hl];exact (List.getElem?_eq_some_iff.1 hj).1
       have hx:=List.getElem?_eq_getElem hlt
       rw[hx]
       exact (hrep j p _ hj hx).2
     | _=>exact .dead _) hT hd hE (own:=own) (len:=len) (r:=r) (σ':=σ') (by
     rw[← h]
     congr 1
     rw[List.map_map]
     apply List.ext_getElem?
     intro j
     simp only[List.getElem?_map]
     by_cases hlt:j<l.length
     ·have hx:=List.getElem?_eq_getElem hlt
      have hj:=List.getElem?_eq_getElem (show j<ps.length by omega)
      rw[List.getElem?_range hlt,hj]
      simp only[Option.map_some,Function.comp,hx,hj,Option.getD_some]
      rw[← (hrep j _ _ hj hx).1]
     ·rw[List.getElem?_eq_none (by simpa using hlt),List.getElem?_eq_none (by omega)]
      rfl)
   have hparts:((List.range l.length).map fun j=>((l[j]?.map (·.1)).getD 0,Operand.tmp j)).map (fun p=>(p.1,(fun x:Operand=>match x with
    | .tmp j=>(l[j]?.map fun x=>ρ x.2).getD undef
    | _=>undef) p.2))=l.map fun p=>(p.1,ρ p.2):=by
    rw[List.map_map]
    apply List.ext_getElem?
    intro j
    simp only[List.getElem?_map]
    by_cases hlt:j<l.length
    ·have hx:=List.getElem?_eq_getElem hlt
     rw[List.getElem?_range hlt,hx]
     simp only[Option.map_some,Function.comp,hx,Option.getD_some]
    ·rw[List.getElem?_eq_none (by simpa using hlt),List.getElem?_eq_none (by omega)]
     rfl
   obtain ⟨v,w',m',K',h1,h2,h3,h4⟩:=key
   rw[hparts] at h1
   exact ⟨v,w',m',K',h1,h2,⟨h3.1,fun b o v h=>h3.2 b o v (hK b o v h)⟩,h4⟩
  ·cases h
theorem N0.under{P:Program}{t:TypeId}{ti:TI}(h:N0 P t ti):∃d,P.underlying t=some d∧TD.of d=ti.td:=by
 obtain ⟨i,d,_,hu,_,_,_,e,_⟩:=h
 exact ⟨d,hu,e⟩
theorem N0.int{P:Program}{t:TypeId}{ti:TI}(h:N0 P t ti){k:IntKind}(hd:ti.td = .int k):P.underlying t=some (.int k):=by
 obtain ⟨d,hu,e⟩:=h.under
 rw[hd] at e
 cases d<;>simp[TD.of] at e
 subst e
 exact hu
theorem N0.str{P:Program}{t:TypeId}{ti:TI}(h:N0 P t ti)(hd:ti.td = .str):P.underlying t=some .string:=by
 obtain ⟨d,hu,e⟩:=h.under
 rw[hd] at e
 cases d<;>simp[TD.of] at e
 exact hu
theorem bytesOf_ints{xs:List PV}{s:List UInt8}(h:af xs=some s):∃ns:List Int,xs=ns.map (PV.int .u8)∧s=ns.map fun n=>UInt8.ofNat n.toNat:=by
 induction xs generalizing s with
 | nil=>simp[af] at h;subst h;exact ⟨[],rfl,rfl⟩
 | cons x r ih=>
  simp only[af] at h
  split at h
  ·rename_i b bs hb hr
   cases h
   obtain ⟨ns,rfl,rfl⟩:=ih hr
   cases x with
   | int k n=>
    cases k<;>simp[mj] at hb
    subst hb
    exact ⟨n::ns,rfl,rfl⟩
   | _=>simp[mj] at hb
  ·cases h
theorem foldl_push_ns(ns:List Int)(r:ByteArray):ns.foldl (fun r n=>r.push (UInt8.ofNat n.toNat)) r=⟨r.data++(ns.map fun n=>UInt8.ofNat n.toNat).toArray⟩:=by
 induction ns generalizing r with
 | nil=>simp
 | cons n ns ih=>
  simp only[List.foldl_cons]
  rw[ih]
  simp[ByteArray.push]
theorem W7{C:Ctx}{m K σ w}(hB:C5 C m K σ w){src dst el:TypeId}(hs:C.P.underlying src=some (.slice el))(hel:C.P.underlying el=some (.int .u8))(hd:C.P.underlying dst=some .string)
  {a:AV} {x:Value} {xs:List PV} {s:List UInt8} (he:elems σ a=some xs) (hr:C7 m K a x) (hstr:∀s,a ≠ .pv (.str s)) (hb:af xs=some s):(convert src dst x).run C.P w = .ok (.string ⟨s.toArray⟩) w:=by
 obtain ⟨ns,rfl,rfl⟩:=bytesOf_ints hb
 obtain ⟨ad,c,rfl,hat⟩:=elems_at hB he hr (es:=1) (fun y hy=>by obtain ⟨n,_,rfl⟩:=List.mem_map.1 hy;rfl) hstr
 rw[run_convert_bytes_string w src dst el ad _ c hs hel hd]
 cases ad with
 | none=>
  cases ns with
  | nil=>rfl
  | cons n ns=>obtain ⟨b,o,h,_⟩:=hat (by simp);cases h
 | some a=>
  have hcell:∀(j:Nat) v,(ns.map (Value.int .u8))[j]? = some v→w.cell? (a.add j)=some v:=by
   intro j v hj
   have hne:ns ≠ []:=by intro e;subst e;simp at hj
   obtain ⟨b,o,e,hc⟩:=hat (by simpa using hne)
   cases e
   simp only[List.getElem?_map,Option.map_eq_some_iff] at hj
   obtain ⟨n,hn,rfl⟩:=hj
   have hf:N8 (ns.map (PV.int .u8))=ns.map (PV.int .u8):=by
    clear hat hc hn hne hb he hr
    induction ns with
    | nil=>rfl
    | cons n r ih=>simp only[N8,List.map_cons,List.flatMap_cons,PV.cells] at *;rw[ih];rfl
   obtain ⟨v,hv,hr,_⟩:=hc j (.int .u8 n) (by rw[hf];simp[hn])
   rw[R2]
   cases hr
   exact hv
  have hl:=run_loadCells_list (P:=C.P) w a (ns.map (Value.int .u8)) hcell
  simp only[List.length_map] at hl ⊢
  rw[run_bytesToString w a ns.length c ns hl,foldl_push_ns]
  have he0:ByteArray.empty.data = #[]:=rfl
  rw[he0]
  simp
theorem convert_sound{C:Ctx}(hC:X1 C){m:Mp}{K:KS}{σ:A1}{w:World}(hB:C5 C m K σ w){src dst:TypeId}{ts td:TI}(hS:N0 C.P src ts)(hD:N0 C.P dst td){x:AV}{xv:Value}(hx:C7 m K x xv){r:AV}{σ':A1}
  (h:W4 σ C.tab ts.td td.td x=some (r,σ')):∃v w' m' K',(convert src dst xv).run C.P w = .ok v w'∧C5 C m' K' σ' w'∧Ext m K m' K'∧C7 m' K' r v:=by
 obtain ⟨ds,hus,hds⟩:=hS.under
 unfold W4 at h
 split at h
 ·rename_i k k' n heq
  simp only[Option.some.injEq,Prod.mk.injEq] at h
  obtain ⟨rfl,rfl⟩:=h
  cases hx.pv_inv
  refine ⟨.int k (k.wrap n),w,m,K,?_,hB,Ext.refl _ _,.pv _ _ (.int _ _)⟩
  simp[convert,run_underlying hus,run_underlying (hD.int heq),Conv.intToInt]
 ·rename_i s heq
  simp only[Option.some.injEq,Prod.mk.injEq] at h
  obtain ⟨rfl,rfl⟩:=h
  cases hx.pv_inv
  refine ⟨.string ⟨s.toArray⟩,w,m,K,?_,hB,Ext.refl _ _,.pv _ _ (.str _)⟩
  simp[convert,run_underlying hus,run_underlying (hD.str heq)]
 ·rename_i el s hsrc hdst
  split at h
  ·rename_i ei hel
   split at h
   ·rename_i hei
    split at h
    ·rename_i hroom
     simp only[Option.some.injEq,Prod.mk.injEq] at h
     obtain ⟨rfl,rfl⟩:=h
     cases hx.pv_inv
     have hE:=hC _ _ hel
     have hrun:=run_bytes_of_string (P:=C.P) w src dst el ⟨s.toArray⟩ (hS.str hsrc) (hD.slice hdst) (hE.int hei)
     have hsz:ByteArray.size ⟨s.toArray⟩=s.length:=by simp[ByteArray.size]
     rw[hsz] at hrun
     have hcap:=grownCap_ge w s.length 0 el
     have hbs:(bytesRow ⟨s.toArray⟩ (grownCap w s.length 0 el)).size=grownCap w s.length 0 el*1:=by
      simp[bytesRow,hsz];omega
     obtain ⟨m',h1,h2,h3⟩:=hB.drew.alloc_arr el 1 (grownCap w s.length 0 el) (P4 s) (bytesRow ⟨s.toArray⟩ (grownCap w s.length 0 el)) ((bytesRow ⟨s.toArray⟩ (grownCap w s.length 0 el)).size,(bytesRow ⟨s.toArray⟩ (grownCap w s.length 0 el)).size+1) hbs
      (by simpa[P4] using hcap) (grownCap_le_maxLen w _ _ el (Nat.le_trans hroom.1 (by decide))) (fun y hy=>by obtain ⟨b,_,rfl⟩:=List.mem_map.1 hy;rfl) (fun j p v hp hv=>by
       have hfb:N8 (P4 s)=P4 s:=flat_bytes s
       rw[hfb] at hp
       unfold P4 at hp
       simp only[List.getElem?_map,Option.map_eq_some_iff] at hp
       obtain ⟨b,hb,rfl⟩:=hp
       have hlt:j<s.length:=(List.getElem?_eq_some_iff.1 hb).1
       unfold bytesRow at hv
       rw[Array.getElem?_append_left (by simpa using hlt)] at hv
       simp only[Array.getElem?_map,List.getElem?_toArray,hb,Option.map_some,Option.some.injEq] at hv
       subst hv
       exact ⟨.int _ _,rfl⟩) (fun j hj=>by simp only[hbs];omega)
     refine ⟨_,_,m',K,hrun,h1,h2,?_⟩
     simpa[P4] using h3
    ·cases h
   ·cases h
  ·cases h
 ·rename_i el hsrc hdst hns
  split at h
  ·rename_i ei hel
   have hE:=hC _ _ hel
   split at h
   ·rename_i xs hei
    cases hb:af xs with
    | none=>rw[hb] at h;simp at h
    | some s=>
     rw[hb] at h
     simp only[Option.map_some,Option.some.injEq,Prod.mk.injEq] at h
     obtain ⟨rfl,rfl⟩:=h
     exact ⟨_,w,m,K,W7 hB (hS.slice hsrc) (hE.int hei) (hD.str hdst) (by rfl) hx (by simp) hb,hB,Ext.refl _ _,.pv _ _ (.str _)⟩
   ·rename_i hei
    simp only[Option.some.injEq,Prod.mk.injEq] at h
    obtain ⟨rfl,rfl⟩:=h
    exact ⟨_,w,m,K,W7 (s:=[]) hB (hS.slice hsrc) (hE.int hei) (hD.str hdst) (by rfl) hx (by simp) rfl,hB,Ext.refl _ _,.pv _ _ (.str _)⟩
   ·rename_i id ver off len hei
    split at h
    ·rename_i xs hxs
     cases hb:af xs with
     | none=>rw[hb] at h;simp at h
     | some s=>
      rw[hb] at h
      simp only[Option.map_some,Option.some.injEq,Prod.mk.injEq] at h
      obtain ⟨rfl,rfl⟩:=h
      exact ⟨_,w,m,K,W7 hB (hS.slice hsrc) (hE.int hei) (hD.str hdst) hxs hx (by simp) hb,hB,Ext.refl _ _,.pv _ _ (.str _)⟩
    ·cases h
   ·cases h
  ·cases h
 ·cases h
end
section
open Go Go.RowKit
structure Z5(C:Ctx):Prop where
 tab:X1 C
 mixed:C.P.follows .mixedOrders=true
 bld:∀t ti,C.isB t=true→C.tab t=some ti→ti.zero = .agg #[.pointer none,.slice none 0 0]
 glob:∀g,C.glob g=none
theorem C5.alloc_bld{C:Ctx}{m:Mp}{K:KS}{σ:A1}{w:World}(hB:C5 C m K σ w)(t el:TypeId):
  ∃m',C5 C m' K (σ ++ [.bld t el []]) (w.alloc (.cells #[.pointer none,.slice none 0 0] t))∧Ext m K m' K∧C7 m' K (.ptr σ.length 0) (.pointer (some ⟨w.heap.size,0,none⟩)):=by
 have hnone:∀v,m σ.length v=none:=by
  intro v
  cases h:m σ.length v with
  | none=>rfl
  | some x=>exact absurd (hB.dom _ _ _ h) (Nat.lt_irrefl _)
 have hsz:C.w0.heap.size≤w.heap.size:=hB.below.size
 have hm:∀i v x,m i v=some x→L8 (L8 m σ.length 0 (.at w.heap.size 0 0)) σ.length 1 .nil i v=some x:=by
  intro i v x h
  exact T5 (by simp[L8,hnone]) _ _ _ (T5 (hnone 0) _ _ _ h)
 have h0:L8 (L8 m σ.length 0 (.at w.heap.size 0 0)) σ.length 1 .nil σ.length 0=some (.at w.heap.size 0 0):=by simp[L8]
 have h1:L8 (L8 m σ.length 0 (.at w.heap.size 0 0)) σ.length 1 .nil σ.length 1=some .nil:=by simp[L8]
 have hblk:∀b,b∈blk (L8 (L8 m σ.length 0 (.at w.heap.size 0 0)) σ.length 1 .nil) σ.length (.bld t el [])→b=w.heap.size:=by
  intro b hb
  simpa[blk,Loc.blk,h0,h1] using hb
 refine ⟨_,hB.step σ.length (.bld t el []) (fun id x h=>bf h) (by simp) (by simp) hm (fun i h=>by rw[Q7 _ _ _ _ _ h,Q7 _ _ _ _ _ h]) (hB.below.alloc hsz _)
  (fun b i v h=>S8 _ _ _ _ (hB.keep_lt h)) (fun id x b hne hs hb=>J4 _ _ _ (hB.lt hs hb)) ?_ ?_ ?_,⟨hm,fun _ _ _ h=>h⟩,.ptr _ _ _ _ _ h0⟩
 ·refine ⟨w.heap.size,0,0,.pointer none,.slice none 0 0,h0,Q1 _ _,.inl rfl,fun o v h=>absurd (hB.keep_lt h) (Nat.lt_irrefl _),fun ver l h=>?_,.inl ⟨rfl,h1,rfl⟩⟩
  simp only[L8] at h
  split at h
  ·rename_i e;simp[e.2]
  ·split at h
   ·rename_i e;simp[e.2]
   ·rw[hnone] at h;cases h
 ·intro b hb
  have:=hblk b hb;subst this
  exact hsz
 ·intro b hb id x hne hs hx
  have:=hblk b hb;subst this
  exact absurd (hB.lt hs hx) (Nat.lt_irrefl _)
def Ends(C:Ctx)(m:Mp)(K:KS)(w:World)(s:Sem Next)(v:AV)(σ':A1):Prop:=
 ∃x w' m' K',(s.run C.P w = .ok (.value x) w'∨(s.run C.P w = .ok .skip w'∧x=undef))∧C5 C m' K' σ' w'∧Ext m K m' K'∧C7 m' K' v x
theorem ox{C:Ctx}{m:Mp}{K:KS}{σ:A1}{w:World}(hB:C5 C m K σ w){t:TypeId}{ti:TI}(hT:N0 C.P t ti){a:AV}{x:Value}(hx:C7 m K a x){r:AV}(h:A6 σ ti a=some r):
  ∃v,(Instr.loadAt t x).run C.P w = .ok v w∧C7 m K r v:=by
 unfold A6 at h
 split at h
 ·rename_i id off
  split at h
  ·rename_i ty cs ho
   cases hx with
   | ptr _ _ b cap es hm=>
    obtain ⟨b',cap',es',arr,hm',hh,hl,hr,_⟩:=hB.obj id _ ho
    rw[hm] at hm';cases hm'
    have hat:mr m K w b 0 cs:=by
     intro j a ha
     have hlt:j<arr.size:=by rw[← hl];exact (List.getElem?_eq_some_iff.1 ha).1
     have hv:arr[j]? = some arr[j]:=Array.getElem?_eq_getElem hlt
     have:=hr j a _ ha hv
     exact ⟨_,by rw[Nat.zero_add,T3 w b _ hh];exact hv,this.1,this.2⟩
    obtain ⟨v,hv,hrep⟩:=fk hT hat h
    rw[Nat.zero_add] at hv
    exact ⟨v,by simp[Instr.loadAt,Instr.sureAddr,hv],hrep⟩
  ·cases h
 ·rename_i id ver i off
  split at h
  ·rename_i es xs fz ho
   split at h
   ·rename_i hver
    subst hver
    split at h
    ·rename_i p hp
     cases hq:ga ti.td.isAgg ti.size off p with
     | none=>rw[hq] at h;simp at h
     | some q=>
      rw[hq] at h
      simp only[Option.map_some,Option.some.injEq] at h
      subst h
      cases hx with
      | eptr _ _ _ _ b cap es' hm hi=>
       obtain ⟨rfl,arr,ty,fr,hh,hcap,hmax,hasz,hes,hcr,_,_⟩:=hB.arr_open ho hm
       have hat:mr m K w b (i*es') (p.cells.map .pv):=by
        intro j a ha
        simp only[List.getElem?_map,Option.map_eq_some_iff] at ha
        obtain ⟨c,hc,rfl⟩:=ha
        have hlt:j<es':=by rw[← hes p (List.mem_of_getElem? hp)];exact (List.getElem?_eq_some_iff.1 hc).1
        have hf:=bd hes hp j hlt
        rw[hc] at hf
        have hlt2:i*es'+j<arr.size:=by
         have h1:=(List.getElem?_eq_some_iff.1 hf).1
         rw[I6 hes] at h1
         have h2:xs.length*es'≤cap*es':=Nat.mul_le_mul_right _ hcap
         omega
        have hv:arr[i*es'+j]? = some arr[i*es'+j]:=Array.getElem?_eq_getElem hlt2
        have:=hcr _ _ _ hf hv
        exact ⟨_,by rw[T3 w b _ hh];exact hv,.pv _ _ this.1,this.2⟩
       obtain ⟨v,hv,hrep⟩:=fk hT hat (gq hq)
       exact ⟨v,by simp[Instr.loadAt,Instr.sureAddr,hv],hrep⟩
    ·cases h
   ·cases h
  ·cases h
 ·rename_i p off
  cases hq:ga ti.td.isAgg ti.size off p with
  | none=>rw[hq] at h;simp at h
  | some q=>
   rw[hq] at h
   simp only[Option.map_some,Option.some.injEq] at h
   subst h
   cases hx with
   | ro _ _ b o vs hl hr hk=>
    have hat:mr m K w b o (p.cells.map .pv):=by
     intro j a ha
     simp only[List.getElem?_map,Option.map_eq_some_iff] at ha
     obtain ⟨c,hc,rfl⟩:=ha
     have hlt:j<vs.length:=by rw[← hl];exact (List.getElem?_eq_some_iff.1 hc).1
     have hv:vs[j]? = some vs[j]:=List.getElem?_eq_getElem hlt
     have h2:=hB.keep _ _ _ (hk j _ hv)
     exact ⟨_,h2.1,.pv _ _ (hr j c _ hc hv),h2.2⟩
    obtain ⟨v,hv,hrep⟩:=fk hT hat (gq hq)
    exact ⟨v,by simp[Instr.loadAt,Instr.sureAddr,hv],hrep⟩
 ·cases h
theorem flat_part{xs:List PV}{es i off:Nat}{p p':PV}{ps:List PV}(hes:∀x∈xs,x.cells.length=es)(hi:xs[i]? = some p)(hle:off+ps.length≤p.cells.length)(hp':p'.cells=P1 p.cells off ps):
  N8 (xs.set i p')=P1 (N8 xs) (i*es+off) ps∧(∀ x∈xs.set i p',x.cells.length=es)∧i*es+off+ps.length≤(N8 xs).length:=by
 have hlt:i<xs.length:=(List.getElem?_eq_some_iff.1 hi).1
 have hpl:p.cells.length=es:=hes p (List.mem_of_getElem? hi)
 have hpl':p'.cells.length=es:=by rw[hp',co _ _ _ hle,hpl]
 have hes':∀x∈xs.set i p',x.cells.length=es:=by
  intro x hx
  rcases List.mem_or_eq_of_mem_set hx with h|h
  ·exact hes x h
  ·rw[h];exact hpl'
 have hfl:=I6 hes
 have hle2:i*es+es≤xs.length*es:=by
  have:(i+1)*es≤xs.length*es:=Nat.mul_le_mul_right _ hlt
  rw[Nat.add_mul] at this;omega
 refine ⟨?_,hes',by omega⟩
 apply List.ext_getElem?
 intro k
 rw[ca _ _ _ (by omega)]
 by_cases hk:k<xs.length*es
 ·by_cases h0:es=0
  ·subst h0;omega
  ·have hpos:0<es:=Nat.pos_of_ne_zero h0
   have hd:k / es<xs.length:=(Nat.div_lt_iff_lt_mul hpos).2 hk
   have hm:k % es<es:=Nat.mod_lt _ hpos
   have hkk:k / es*es+k % es=k:=by rw[Nat.mul_comm];exact Nat.div_add_mod _ _
   by_cases hik:k / es=i
   ·have hg:(xs.set i p')[k / es]? = some p':=by rw[hik];simp[hlt]
    have h1:=bd hes' hg (k % es) hm
    rw[hkk] at h1
    rw[h1,hp',ca _ _ _ hle]
    have h2:=bd hes (i:=k / es) (x:=p) (by rw[hik];exact hi) (k % es) hm
    rw[hkk] at h2
    rw[← h2]
    rw[hik] at hkk
    by_cases hin:off≤k % es∧k % es<off+ps.length
    ·rw[if_pos hin,if_pos (by omega)]
     congr 1;omega
    ·rw[if_neg hin,if_neg (by omega)]
   ·have hx:xs[k / es]? = some xs[k / es]:=List.getElem?_eq_getElem hd
    have hg:(xs.set i p')[k / es]? = some xs[k / es]:=by rw[List.getElem?_set_ne (Ne.symm hik)];exact hx
    have h1:=bd hes' hg (k % es) hm
    have h2:=bd hes hx (k % es) hm
    rw[hkk] at h1 h2
    rw[h1,h2,if_neg]
    intro hc
    rcases Nat.lt_or_ge (k / es) i with h|h
    ·have:(k / es+1)*es≤i*es:=Nat.mul_le_mul_right _ h
     rw[Nat.add_mul] at this
     omega
    ·have h3:i+1≤k / es:=by omega
     have:(i+1)*es≤k / es*es:=Nat.mul_le_mul_right _ h3
     rw[Nat.add_mul] at this
     omega
 ·rw[List.getElem?_eq_none (by rw[I6 hes',List.length_set];omega),if_neg (by omega),List.getElem?_eq_none (by omega)]
theorem store_sound{C:Ctx}{m:Mp}{K:KS}{σ:A1}{w:World}(hB:C5 C m K σ w){t:TypeId}{ti:TI}(hT:N0 C.P t ti){a v:AV}{x y:Value}(hx:C7 m K a x)(hy:C7 m K v y){σ':A1}(h:C2 σ ti a v=some σ'):
  ∃w' m' K',(Instr.storeAt t x y).run C.P w = .ok () w'∧C5 C m' K' σ' w'∧Ext m K m' K':=by
 unfold C2 at h
 simp only at h
 split at h
 ·rename_i hc
  obtain ⟨hsz,h1⟩:=hc
  have hcr:=iv hy h1
  have hrun:∀(ad:Addr) w',(storeCells ad y.cells.toList).run C.P w = .ok () w'→(Instr.storeAt t (.pointer (some ad)) y).run C.P w = .ok () w':=by
   intro ad w' hst
   have:y.cells.size=ti.size:=by rw[← hcr.1];exact hsz
   simp[Instr.storeAt,Instr.sureAddr,storeVar,R3 hT,this,hst]
  have h1v:∀u∈y.cells.toList,u.oneCell'=true:=by
   intro u hu
   obtain ⟨j,hj⟩:=List.getElem?_of_mem hu
   have hj':y.cells[j]? = some u:=by simpa using hj
   have hlt:j<v.cells.length:=by rw[hcr.1];exact (Array.getElem?_eq_some_iff.1 hj').1
   exact (hcr.2 j _ u (List.getElem?_eq_getElem hlt) hj').2
  split at h
  ·rename_i id off
   split at h
   ·rename_i ty cs ho
    split at h
    ·rename_i hle
     cases h
     cases hx with
     | ptr _ _ b cap es hm=>
      obtain ⟨w',hst,hB'⟩:=hB.store_cells ho hm off v.cells y.cells.toList hle (by simpa using hcr.1) (fun j a u ha hu=>hcr.2 j a u ha (by simpa using hu))
      exact ⟨w',m,K,hrun _ _ hst,hB',Ext.refl _ _⟩
    ·cases h
   ·cases h
  ·rename_i id ver i off
   split at h
   ·rename_i es xs ps ho hps
    split at h
    ·rename_i hver
     subst hver
     have hvs:=ir hps
     have hpl:ps.length=v.cells.length:=by rw[hvs];simp
     cases hx with
     | eptr _ _ _ _ b cap es' hm hi=>
      obtain ⟨rfl,arr,ty,fr,hh,hcap,hmax,hasz,hes,hcr2,hfr,hkk⟩:=hB.arr_open ho hm
      have core:∀p p':PV,xs[i]? = some p→off+ps.length≤p.cells.length→p'.cells=P1 p.cells off ps →
        ∃w' m' K',(Instr.storeAt t (.pointer (some ⟨b,i*es'+off,none⟩)) y).run C.P w = .ok () w'∧C5 C m' K' (σ.set id (.arr es' (xs.set i p') false)) w'∧Ext m K m' K':=by
       intro p p' hp hle hp'
       obtain ⟨hf,hes2,hle2⟩:=flat_part hes hp hle hp'
       have hfl:=I6 hes
       have hmul:xs.length*es'≤cap*es':=Nat.mul_le_mul_right _ hcap
       have hyl:y.cells.toList.length=ps.length:=by rw[hpl,hcr.1];simp
       obtain ⟨w',cur',hst,hsb,hb',hsz',hk⟩:=X8 C.P b (i*es'+off) ty fr y.cells.toList 0 arr w hh (by omega) (fun j a b=>hfr j (by simp) (by omega)) h1v
       obtain ⟨m',q1,q2,q3⟩:=hB.arr_change ho hm hh hsb hb' hsz' (xs.set i p') (by simp) (by simpa using hcap) hes2 (fun j q u hq hu=>by
        rw[hf,ca _ _ _ hle2] at hq
        rw[hk j,hyl] at hu
        simp only[Nat.add_zero] at hu
        by_cases hj:i*es'+off≤j∧j<i*es'+off+ps.length
        ·rw[if_pos hj] at hq hu
         have:=hcr.2 (j-(i*es'+off)) (.pv q) u (by rw[hvs];simp[hq]) (by simpa using hu)
         exact ⟨this.1.pv_inv,this.2⟩
        ·rw[if_neg hj] at hq hu
         exact hcr2 j q u hq hu) (fun j u hK=>by have:=(hkk j u hK).1;cases this)
       exact ⟨w',m',K,hrun _ _ hst,q1,q2⟩
      split at h
      ·rename_i cs hcs
       split at h
       ·rename_i hle
        cases h
        exact core _ _ hcs hle rfl
       ·cases h
      ·rename_i p hnot hp
       split at h
       ·rename_i q
        split at h
        ·rename_i h0
         cases h
         subst h0
         have hq1:PV.one q=true:=by
          have:=h1
          rw[hvs] at this
          simp only[List.map_cons,List.map_nil,List.all_cons,List.all_nil,Bool.and_true] at this
          cases q<;>first|rfl|simp[AV.one] at this
         have hqc:q.cells = [q]:=by cases q<;>first|rfl|simp[PV.one] at hq1
         have hpc:p.cells = [p]:=by
          cases p<;>first|rfl|exact absurd rfl (hnot _)
         exact core p q hp (by rw[hpc];simp) (by rw[hqc,hpc];rfl)
        ·cases h
       ·cases h
      ·cases h
    ·cases h
   ·cases h
  ·cases h
 ·cases h
end
attribute [irreducible] A2
end Go.Sv
