/- What is read is no greater than its bulk. Hunks that a machine holds: a statement's data as hunks, and their bulk. Package unified, reading, as plain lists: lines, names in quotes, numbers, a hunk's first line. What is printed is read as it was. Names in quotes, read: as plain lists; what is quoted is read as it was. Package unified, printing: a hunk's text, a file's text: what the program and the document's answer answer. Numbers, ranges, a hunk's first line, read: as plain lists; what is printed is read as it was. -/
import Derived.Test.YtebgkjjbbnbnlaaGreatDoorSvY
import Derived.Test.YtebgkjjbbnbnlaaGreatDoorRows
import Derived.Test.YtebgkjjbbnbnlaaGreatDoorHk
import Derived.Test.YtebgkjjbbnbnlaaGreatDoorUnD
set_option linter.unusedVariables false
set_option linter.unusedSimpArgs false
set_option maxRecDepth 100000
section
namespace Go.Sv
open Go Go.Proofs Go.Proofs.YtebgkjjbbnbnlaaGreatDoor
mutual
def pvB:PV→Nat
 | .str s=>s.length+1
 | .sl xs=>R3 xs+1
 | .agg cs=>R3 cs
 | _=>1
def R3:List PV→Nat
 | []=>0
 | p::r=>pvB p+R3 r
end
theorem po:∀a b:List PV,R3 (a++b)=R3 a+R3 b
 | [],b=>by simp[R3]
 | p::r,b=>by simp[R3,po r b,Nat.add_assoc]
theorem Ql(p:PV):R3 p.cells=pvB p:=by cases p<;>simp[PV.cells,R3,pvB]
theorem Cg:∀(l:List PV) (p:PV),p∈l→pvB p≤R3 l
 | [],p,h=>by simp at h
 | q::r,p,h=>by
  rcases List.mem_cons.1 h with rfl|h
  ·simp only[R3];omega
  ·have:=Cg r p h;simp only[R3];omega
mutual
theorem Pt{H:Type}:∀d:DataW H,pvB (X6 d)≤Rows.uptoBulk d
 | .lit (.string l)=>by simp[X6,pvB,Rows.uptoBulk]
 | .slice elems sp=>by have:=Rn elems;simp only[X6,pvB,Rows.uptoBulk];omega
 | .agg parts=>by have:=Ri parts;simp only[X6,pvB,Rows.uptoBulk];omega
 | .lit (.int k n)=>by simp[X6,pvB,Rows.uptoBulk]
 | .lit (.bool b)=>by simp[X6,pvB,Rows.uptoBulk]
 | .nil=>by simp[X6,pvB,R3,Rows.uptoBulk]
 | .ptr d=>by simp[X6,pvB,R3,Rows.uptoBulk]
 | .iface _ d=>by simp[X6,pvB,R3,Rows.uptoBulk]
 | .map e=>by simp[X6,pvB,R3,Rows.uptoBulk]
 | .held _=>by simp[X6,pvB,R3,Rows.uptoBulk]
 | .lit .nil=>by simp[X6,pvB,R3,Rows.uptoBulk]
 | .lit (.float _ _)=>by simp[X6,pvB,R3,Rows.uptoBulk]
theorem Rn{H:Type}:∀l:List (DataW H),R3 (iz l)≤Rows.uptoBulkAll l
 | []=>by simp[iz,R3]
 | d::r=>by have:=Pt d;have:=Rn r;simp only[iz,R3,Rows.uptoBulkAll];omega
theorem Ri{H:Type}:∀l:List (DataW H),R3 (cu l)≤Rows.uptoBulkAll l
 | []=>by simp[cu,R3]
 | d::r=>by have:=Pt d;have:=Ri r;simp only[cu,po,Ql,Rows.uptoBulkAll];omega
end
end Go.Sv
end
section
namespace Go.Sv
open Go Go.RowKit Go.Proofs
structure Z2(h:Hnk):Prop where
 rows:h.rows.length≤1048576
 text:∀x∈h.rows,x.t.length≤1048576
 head:h.head.length≤1048576
 a:-9223372036854775808≤h.a∧h.a≤9223372036854775807
 b:-9223372036854775808≤h.b∧h.b≤9223372036854775807
open Go.Proofs.YtebgkjjbbnbnlaaGreatDoor in
theorem Lj{d:Nat}:∀xs:List PV,(∀ x∈xs,jp B2 (d+2) 51 x) → ∃l:List Row,xs=l.map I3
 | [],_=>⟨[],rfl⟩
 | x::r,h=>by
  obtain ⟨l,rfl⟩:=Lj r fun y hy=>h y (List.mem_cons_of_mem _ hy)
  obtain ⟨qs,rfl,g⟩:=kj df Xj (h x (by simp))
  clear h
  obtain ⟨_,qs,rfl,h1,h⟩:=V0 g
  obtain ⟨_,qs,rfl,h2,h⟩:=V0 h
  obtain rfl:=mi h
  obtain ⟨k,rfl,_⟩:=oi Xg Ar h1
  obtain ⟨s,rfl,_⟩:=ur ny Im h2
  exact ⟨⟨k,s⟩::l,rfl⟩
theorem Ve{n:Int}(h:(Lit.int .i64 n).wf=true):-9223372036854775808≤n∧n≤9223372036854775807:=by
 simp only[Lit.wf,Bool.and_eq_true,decide_eq_true_eq] at h
 have e1:IntKind.min .i64 = -9223372036854775808:=by decide
 have e2:IntKind.max .i64=9223372036854775807:=by decide
 rw[e1,e2] at h
 exact h
theorem Lv{d:Nat}:∀xs:List PV,(∀ x∈xs,jp B2 (d+4) 39 x) → ∃l:List Hnk,xs=l.map K6 ∧ ∀h∈l,(-9223372036854775808≤h.a∧h.a≤9223372036854775807)∧(-9223372036854775808≤h.b∧h.b≤9223372036854775807)
 | [],_=>⟨[],rfl,fun h hh=>by simp at hh⟩
 | x::r,h=>by
  obtain ⟨l,rfl,hl⟩:=Lv r fun y hy=>h y (List.mem_cons_of_mem _ hy)
  obtain ⟨qs,rfl,g⟩:=kj ke Ye (h x (by simp))
  clear h
  obtain ⟨_,qs,rfl,h1,h⟩:=V0 g
  obtain ⟨_,qs,rfl,h2,h⟩:=V0 h
  obtain ⟨_,qs,rfl,h3,h⟩:=V0 h
  obtain ⟨_,qs,rfl,h4,h⟩:=V0 h
  obtain ⟨_,qs,rfl,h5,h⟩:=V0 h
  obtain ⟨_,qs,rfl,h6,h⟩:=V0 h
  obtain rfl:=mi h
  obtain ⟨a,rfl,wa⟩:=oi Xg Ar h1
  obtain ⟨n,rfl,_⟩:=oi Xg Ar h2
  obtain ⟨b,rfl,wb⟩:=oi Xg Ar h3
  obtain ⟨m,rfl,_⟩:=oi Xg Ar h4
  obtain ⟨s,rfl,_⟩:=ur ny Im h5
  obtain ⟨ys,rfl,hy⟩:=Ag tab37 Yp h6
  obtain ⟨rs,rfl⟩:=Lj ys hy
  refine ⟨⟨a,n,b,m,s,rs⟩::l,rfl,fun h hh=>?_⟩
  rcases List.mem_cons.1 hh with rfl|hh
  ·exact ⟨Ve wa,Ve wb⟩
  ·exact hl h hh
theorem Hf:∀l:List Row,l.length≤R3 (l.map I3) ∧ ∀x∈l,x.t.length≤R3 (l.map I3)
 | []=>⟨Nat.zero_le _,fun x h=>by simp at h⟩
 | c::r=>by
  obtain ⟨h1,h2⟩:=Hf r
  simp only[List.map_cons,R3,pvB,List.length_cons]
  refine ⟨by omega,fun x hx=>?_⟩
  rcases List.mem_cons.1 hx with rfl|hx
  ·omega
  ·have:=h2 x hx;omega
theorem Uz(h:Hnk):h.rows.length≤pvB (K6 h)∧(∀ x∈h.rows,x.t.length≤pvB (K6 h))∧h.head.length≤pvB (K6 h):=by
 obtain ⟨h1,h2⟩:=Hf h.rows
 simp only[pvB,R3]
 exact ⟨by omega,fun x hx=>by have:=h2 x hx;omega,by omega⟩
theorem Ho:∀l:List Hnk,l.length≤R3 (l.map K6)
 | []=>Nat.zero_le _
 | c::r=>by
  have:=Ho r
  simp only[List.map_cons,R3,pvB,List.length_cons]
  omega
theorem Xt{l:List Hnk}{B:Nat}(hB:B≤1048576)(hb:R3 (l.map K6)≤B)(hl:∀h∈l,(-9223372036854775808≤h.a∧h.a≤9223372036854775807)∧(-9223372036854775808≤h.b∧h.b≤9223372036854775807)):l.length≤1048576 ∧ ∀h∈l,Z2 h:=by
 refine ⟨by have:=Ho l;omega,fun h hh=>?_⟩
 have h0:=Cg _ _ (List.mem_map_of_mem (f:=K6) hh)
 obtain ⟨h1,h2,h3⟩:=Uz h
 exact ⟨by omega,fun x hx=>by have:=h2 x hx;omega,by omega,(hl h hh).1,(hl h hh).2⟩
end Go.Sv
end
section
namespace Go.Sv
def M7:List UInt8→List (List UInt8)
 | []=>[]
 | c::r=>if c=10 then [10]::M7 r else match M7 r with
  | []=>[[c]]
  | l::ls=>(c::l)::ls
theorem dc:∀s:List UInt8,(M7 s).flatten=s
 | []=>rfl
 | c::r=>by
  have ih:=dc r
  unfold M7
  split
  ·rename_i h;subst h;simp[ih]
  ·split
   ·rename_i h;rw[h] at ih;simp at ih;subst ih;rfl
   ·rename_i l ls h;rw[h] at ih;simp only[List.flatten_cons,List.cons_append] at ih ⊢;rw[ih]
theorem lu:∀(s:List UInt8),∀l∈M7 s,l ≠ []
 | [],l,h=>by simp[M7] at h
 | c::r,l,h=>by
  unfold M7 at h
  split at h
  ·rcases List.mem_cons.1 h with rfl|h
   ·simp
   ·exact lu r l h
  ·split at h
   ·simp at h;subst h;simp
   ·rename_i l0 ls e
    rcases List.mem_cons.1 h with rfl|h
    ·simp
    ·exact lu r l (by rw[e];exact List.mem_cons_of_mem _ h)
theorem Qa{s:List UInt8}(h:M7 s = []):s = []:=by
 have:=dc s
 rw[h] at this
 simpa using this.symm
def Dw(s:List UInt8):Bool:=s == []||L6 s
theorem pn{c:UInt8}{r:List UInt8}(h:r ≠ []):L6 (c::r)=L6 r:=by
 cases r with
 | nil=>exact absurd rfl h
 | cons d r=>simp[L6]
theorem K2{s t:List UInt8}(h:t ≠ []):L6 (s++t)=L6 t:=by
 induction s with
 | nil=>rfl
 | cons c s ih=>rw[List.cons_append,pn (by simp[h]),ih]
theorem cm:∀(s t:List UInt8),Dw s=true→M7 (s++t)=M7 s++M7 t
 | [],t,_=>rfl
 | c::r,t,h=>by
  simp only[List.cons_append]
  by_cases hc:c=10
  ·subst hc
   have hr:Dw r=true:=by
    cases r with
    | nil=>rfl
    | cons d r=>simpa[Dw,pn] using h
   rw[M7,M7,if_pos rfl,if_pos rfl,cm r t hr];rfl
  ·have hr:L6 r=true∧r ≠ []:=by
    cases r with
    | nil=>simp[Dw,L6,hc] at h
    | cons d r=>exact ⟨by simpa[Dw,pn] using h,by simp⟩
   rw[M7,M7,if_neg hc,if_neg hc,cm r t (by simp[Dw,hr.1])]
   have hne:M7 r ≠ []:=fun e=>hr.2 (Qa e)
   cases hs:M7 r with
   | nil=>exact absurd hs hne
   | cons l ls=>simp
theorem km:∀(s:List UInt8),X1 s=true→M7 s = [s]
 | [],h=>by simp[X1] at h
 | c::r,h=>by
  cases r with
  | nil=>
   unfold M7
   split
   ·rename_i e;subst e;rfl
   ·rfl
  | cons d r=>
   simp only[X1,Bool.and_eq_true,List.dropLast_cons_cons,List.contains_cons,Bool.not_or] at h
   have hc:¬c=10:=fun e=>by subst e;simp at h
   have ih:=km (d::r) (by simp only[X1,Bool.and_eq_true];exact ⟨by simp,h.2.2⟩)
   rw[M7,if_neg hc,ih]
theorem mq:∀(s:List UInt8),s ≠ [] → ∃k:Nat,0<k∧k≤s.length∧(if Lib.indexByte s 10 = -1 then (s.length:Int) else Lib.indexByte s 10+1)=(k:Int)∧M7 s=s.take k::M7 (s.drop k)
 | [],h=>absurd rfl h
 | c::r,_=>by
  have hge:=Lib.indexByte_ge r 10
  rw[Lib.indexByte]
  by_cases hc:c=10
  ·subst hc
   exact ⟨1,by decide,by simp,by simp,by simp[M7]⟩
  ·have hb:(c==10)=false:=beq_false_of_ne hc
   rw[hb]
   simp only[Bool.false_eq_true,if_false]
   cases r with
   | nil=>exact ⟨1,by decide,by simp,by simp[Lib.indexByte],by simp[M7,hc]⟩
   | cons d r=>
    obtain ⟨k,h1,h2,h3,h4⟩:=mq (d::r) (by simp)
    refine ⟨k+1,by omega,by simp only[List.length_cons] at h2 ⊢;omega,?_,?_⟩
    ·by_cases hm:Lib.indexByte (d::r) 10 = -1
     ·rw[hm] at h3 ⊢
      simp only[if_true,beq_self_eq_true] at h3 ⊢
      simp only[List.length_cons] at h3 ⊢
      omega
     ·have hb2:(Lib.indexByte (d::r) 10 == -1)=false:=beq_false_of_ne hm
      rw[if_neg hm] at h3
      rw[hb2]
      simp only[Bool.false_eq_true,if_false]
      rw[if_neg (by omega)]
      omega
    ·rw[M7,if_neg hc,h4];rfl
end Go.Sv
end
section
namespace Go.Sv
def mo(k:Nat):Option Nat:=match k with
 | 97=>some 7|98=>some 8|116=>some 9|110=>some 10|118=>some 11|102=>some 12|114=>some 13|34=>some 34|92=>some 92|_=>none
def Qt(a b c:Nat):Option Nat:=if 48≤a∧a≤51∧48≤b∧b≤55∧48≤c∧c≤55 then some ((a-48)*64+(b-48)*8+(c-48)) else none
def Ck:List UInt8→Option Nat
 | a::b::c::_=>Qt a.toNat b.toNat c.toNat
 | _=>none
def uqL:Nat→List UInt8→List UInt8→Option (List UInt8×List UInt8)
 | 0,_,_=>none
 | _+1,[],_=>none
 | n+1,c::r,acc=>
  if c=34 then some (acc,r) else if c=10 then none else if c≠92 then uqL n r (acc ++ [c]) else
  match r with
  | []=>none
  | d::r1=>match mo d.toNat with
   | some m=>uqL n r1 (acc ++ [UInt8.ofNat m])
   | none=>match Ck (d::r1) with
    | some v=>uqL n ((d::r1).drop 3) (acc ++ [UInt8.ofNat v])
    | none=>none
def ae:List UInt8→Nat
 | []=>0
 | c::r=>if c=9∨c=10 then 0 else ae r+1
def tc(s:List UInt8):Option (List UInt8×List UInt8):=match s with
 | 34::r=>uqL (r.length+1) r []
 | s=>some (s.take (ae s),s.drop (ae s))
theorem sn:∀s:List UInt8,ae s≤s.length
 | []=>Nat.le_refl _
 | c::r=>by
  have:=sn r
  unfold ae
  split
  ·omega
  ·simp only[List.length_cons];omega
theorem xf:∀s:List UInt8,(if Lib.indexAny s [9,10]<0 then (s.length:Int) else Lib.indexAny s [9,10])=(ae s:Int)
 | []=>rfl
 | c::r=>by
  have ih:=xf r
  have hge:=Lib.indexAny_ge [9,10] r
  rw[Lib.indexAny,ae]
  have hc:([9,10]:List UInt8).contains c=true↔c=9∨c=10:=by simp
  by_cases h:c=9∨c=10
  ·rw[if_pos (hc.2 h),if_pos h];rfl
  ·rw[if_neg (fun e=>h (hc.1 e)),if_neg h]
   by_cases hm:Lib.indexAny r [9,10] = -1
   ·rw[hm] at ih ⊢
    simp only[beq_self_eq_true,if_true,List.length_cons] at ih ⊢
    rw[if_pos (by omega)] at ih
    rw[if_pos (by omega)]
    omega
   ·have hb:(Lib.indexAny r [9,10] == -1)=false:=beq_false_of_ne hm
    rw[hb]
    simp only[Bool.false_eq_true,if_false]
    rw[if_neg (by omega)] at ih
    rw[if_neg (by omega)]
    omega
def Sa(k:Nat):Bool:=
 if nh k≠0 then mo (nh k)==some k
 else if k<32∨127≤k then mo (48+k / 64)==none&&Qt (48+k / 64) (48+k / 8 % 8) (48+k % 8)==some k
 else k != 34&&k != 10&&k != 92
theorem Tx:(List.range 256).all Sa=true:=by decide +kernel
theorem Lk{k:Nat}(h:k<256):Sa k=true:=List.all_eq_true.1 Tx k (List.mem_range.2 h)
theorem Sh(k:Nat):nh k<256:=by unfold nh;split<;>omega
theorem aL(c:UInt8)(n:Nat)(X acc:List UInt8):uqL (n+1) (esc c++X) acc=uqL n X (acc ++ [c]):=by
 have hc:=c.toNat_lt
 have hok:=Lk hc
 unfold Sa at hok
 have hto:UInt8.ofNat c.toNat=c:=by simp
 have key:∀m:Nat,m<256→(UInt8.ofNat m).toNat=m:=fun m h=>UInt8.toNat_ofNat_of_lt' h
 show uqL (n+1) (sx c.toNat++X) acc=_
 unfold sx
 split at hok
 ·rename_i h
  rw[if_pos h]
  have hm:mo (nh c.toNat)=some c.toNat:=by simpa using hok
  simp only[List.cons_append,List.nil_append]
  rw[uqL,if_neg (by decide),if_neg (by decide),if_neg (by decide)]
  simp only[key _ (Sh _),hm,hto]
 ·rename_i h
  rw[if_neg h]
  split at hok
  ·rename_i h2
   rw[if_pos h2]
   simp only[Bool.and_eq_true,beq_iff_eq] at hok
   unfold zh
   simp only[List.cons_append,List.nil_append]
   rw[uqL,if_neg (by decide),if_neg (by decide),if_neg (by decide)]
   simp only[key (48+c.toNat / 64) (by omega),hok.1,Ck,key (48+c.toNat / 8 % 8) (by omega),key (48+c.toNat % 8) (by omega),hok.2,hto]
   rfl
  ·rename_i h2
   rw[if_neg h2]
   simp only[Bool.and_eq_true,bne_iff_ne,ne_eq] at hok
   have e1:c≠34:=fun e=>hok.1.1 (by subst e;rfl)
   have e2:c≠10:=fun e=>hok.1.2 (by subst e;rfl)
   have e3:c≠92:=fun e=>hok.2 (by subst e;rfl)
   simp only[List.cons_append,List.nil_append,hto]
   conv=>lhs;rw[uqL.eq_def]
   simp only[e1,e2,e3,if_false,if_true,ne_eq,not_false_eq_true]
theorem Xy(c:UInt8):1≤(esc c).length:=by
 show 1≤(sx c.toNat).length
 unfold sx zh
 repeat' split
 all_goals simp
theorem Vi:∀(p:List UInt8) (n:Nat) (rest acc:List UInt8),p.length<n→uqL n (p.flatMap esc++34::rest) acc=some (acc++p,rest)
 | [],n,rest,acc,h=>by
  cases n with
  | zero=>simp at h
  | succ n=>simp[uqL]
 | c::p,n,rest,acc,h=>by
  cases n with
  | zero=>simp at h
  | succ n=>
   rw[List.flatMap_cons,List.append_assoc,aL,Vi p n rest _ (by simpa using h)]
   simp
theorem np:∀p:List UInt8,p.length≤(p.flatMap esc).length
 | []=>by simp
 | c::p=>by
  have:=np p
  have:=Xy c
  simp only[List.flatMap_cons,List.length_append,List.length_cons]
  omega
theorem sd{c:UInt8}(h:Cr c=false):33≤c.toNat∧c.toNat<127∧c≠34∧c≠92:=by
 simp only[Cr,Bool.or_eq_false_iff,decide_eq_false_iff_not,beq_eq_false_iff_ne,ne_eq] at h
 obtain ⟨h1,h2,h3,h4⟩:=h
 refine ⟨by omega,by omega,fun e=>h3 (by subst e;rfl),fun e=>h4 (by subst e;rfl)⟩
theorem ru:∀(p rest:List UInt8),(∀ c∈p,Cr c=false)→(rest = [] ∨ ∃r,rest=9::r)→ae (p++rest)=p.length
 | [],rest,_,h=>by
  rcases h with rfl|⟨r,rfl⟩
  ·rfl
  ·simp[ae]
 | c::p,rest,hp,h=>by
  obtain ⟨h1,h2,_⟩:=sd (hp c (by simp))
  have:¬(c=9∨c=10):=by
   rintro (e|e)<;>subst e<;>simp at h1
  rw[List.cons_append,ae,if_neg this,ru p rest (fun x hx=>hp x (List.mem_cons_of_mem _ hx)) h]
  rfl
theorem qm{p rest:List UInt8}(h:rest = [] ∨ ∃r,rest=9::r):tc (lk p++rest)=some (p,rest):=by
 unfold lk
 split
 ·have e:[34]++p.flatMap esc ++ [34]++rest=34::(p.flatMap esc++34::rest):=by simp
  rw[e]
  show uqL _ _ []=_
  rw[Vi p _ rest [] (by have:=np p;simp only[List.length_append,List.length_cons];omega)]
  rfl
 ·rename_i hn
  simp only[Aw,Bool.or_eq_true,not_or,Bool.not_eq_true,List.any_eq_false] at hn
  have hp:∀c∈p,Cr c=false:=fun c hc=>by simpa using hn.2 c hc
  have hne:p ≠ []:=fun e=>by subst e;simp at hn
  cases p with
  | nil=>exact absurd rfl hne
  | cons c r=>
   have hc:=(sd (hp c (by simp))).2.2.1
   have e:=ru (c::r) rest hp h
   have hu:tc (c::r++rest)=some ((c::r++rest).take (ae (c::r++rest)),(c::r++rest).drop (ae (c::r++rest))):=by
    unfold tc
    split
    ·rename_i r' he
     simp only[List.cons_append,List.cons.injEq] at he
     exact absurd he.1 hc
    ·rfl
   rw[hu,e]
   simp
theorem Ad{p:List UInt8}:∀c∈lk p,c≠10:=by
 intro c hc
 unfold lk at hc
 split at hc
 ·simp only[List.mem_append,List.mem_singleton,List.mem_flatMap] at hc
  rcases hc with (rfl|⟨d,_,hd⟩)|rfl
  ·decide
  ·have hlt:=d.toNat_lt
   have hok:=Lk hlt
   unfold Sa at hok
   have:c∈sx d.toNat:=hd
   unfold sx zh at this
   split at hok
   ·rename_i h
    rw[if_pos h] at this
    simp only[List.mem_cons,List.not_mem_nil,or_false] at this
    rcases this with rfl|rfl
    ·decide
    ·intro e
     have e2:nh d.toNat=10:=by
      have:=congrArg UInt8.toNat e
      rwa [UInt8.toNat_ofNat_of_lt' (Sh _)] at this
     rw[e2] at hok
     simp[mo] at hok
   ·rename_i h
    rw[if_neg h] at this
    split at hok
    ·rename_i h2
     rw[if_pos h2] at this
     have key:∀m:Nat,48≤m→m<256→UInt8.ofNat m≠10:=fun m h1 h2 e=>by
      have:=congrArg UInt8.toNat e
      rw[UInt8.toNat_ofNat_of_lt' h2] at this
      have h10:UInt8.toNat 10=10:=rfl
      omega
     simp only[List.mem_cons,List.not_mem_nil,or_false] at this
     rcases this with rfl|rfl|rfl|rfl
     ·decide
     ·exact key _ (by omega) (by omega)
     ·exact key _ (by omega) (by omega)
     ·exact key _ (by omega) (by omega)
    ·rename_i h2
     rw[if_neg h2] at this
     simp only[List.mem_cons,List.not_mem_nil,or_false] at this
     simp only[Bool.and_eq_true,bne_iff_ne,ne_eq] at hok
     rw[this]
     intro e
     have:=congrArg UInt8.toNat e
     rw[UInt8.toNat_ofNat_of_lt' hlt] at this
     exact hok.1.2 this
  ·decide
 ·rename_i hn
  simp only[Aw,Bool.or_eq_true,not_or,Bool.not_eq_true,List.any_eq_false] at hn
  have:=(sd (by simpa using hn.2 c hc)).1
  intro e;subst e;simp at this
end Go.Sv
end
section
namespace Go.Sv
section
open Go Go.RowKit
theorem rn:∀l:List Row,(l.flatMap gd).length≤31*R3 (l.map I3)
 | []=>by simp
 | r::l=>by
  have ih:=rn l
  have:=Fq r
  simp only[List.flatMap_cons,List.length_append,List.map_cons,R3,pvB]
  omega
theorem Gd{h:Hnk}(hv:J2 h=true)(ok:Z2 h):(gc h).length≤100+h.head.length:=by
 obtain ⟨_,f1,f2,f3,f4,f5,f6⟩:=ca hv (Nat.le_trans ok.rows (by decide))
 have e1:=qc (a:=h.a) (n:=h.n) f5 ok.a.2 f1 (by omega)
 have e2:=qc (a:=h.b) (n:=h.m) f6 ok.b.2 f3 (by omega)
 unfold gc
 split
 ·simp only[List.length_append,List.length_cons,List.length_nil];omega
 ·simp only[List.length_append,List.length_cons,List.length_nil];omega
theorem Fr{h:Hnk}(hv:J2 h=true)(ok:Z2 h):(kh h).length≤150*pvB (K6 h):=by
 have e1:=Gd hv ok
 have e2:=rn h.rows
 simp only[kh,List.length_append,List.length_cons,List.length_nil,pvB,R3]
 omega
def ex(p s p' s':List UInt8)(l:List Hnk):List UInt8:=(((([45,45,45,32]++N4 p s) ++ [10,43,43,43,32])++N4 p' s') ++ [10])++l.flatMap kh
def ak:List Hnk→Bool
 | g::h::r=>mm g h&&ak (h::r)
 | _=>true
def T9(p s p' s':List UInt8)(l:List Hnk):Int:=
 if (N2 p s&&N2 p' s')=false then 110 else if l.all J2=false then 100 else if ak l=false then 112 else 0
end
section
open Go Go.RowKit Go.Proofs
variable {w0:B5}{σ:A2}{R:AV→A2→Prop}
abbrev tyB:TypeId:=58
def jr(h:Hnk):AV:=.tup [.pv (.str (if J2 h=true then kh h else [])),kx (J2 h)]
theorem Dm(h:Hnk)(xs:List PV)(hx:xs.length≤1048576)(v:AV):∀(r:List Row) (k:Nat) (acc:List UInt8),xs.drop k=r.map I3→(∀ x∈r,x.t.length≤1048576)→(∀ x∈r,x.k=1∨x.k=2∨x.k=3) →
  acc.length+(r.flatMap gd).length≤140737488355328→v = .tup [.pv (.str (acc++r.flatMap gd)),.pv (.raw .nilIface)] →
  G1.n26 (G1.X w0 0) w0 0 (fun r' _=>r'=v) [.cells 39 (jq h),.bld tyB 5 acc] (.ptr 1 0) (.pv (.sl xs)) xs.length k
 | [],k,acc,hd,_,_,_,hv=>by
  have hk:=N5 hd
  refine G1.n26_in ?_
  rw[G1.b27_eq,A8,if_neg (by omega)]
  refine G1.n58_in ?_
  rw[G1.b58_eq]
  refine de rfl (K9 (C4 (Nat.zero_le _) ?_))
  rw[hv];simp
 | c::r,k,acc,hd,ht,hK,hl,hv=>by
  obtain ⟨h1,h2,hk⟩:=G7 hd
  have hc:=ht c (by simp)
  have hkc:=hK c (by simp)
  simp only[List.flatMap_cons,List.length_append] at hl
  have ih:=fun acc'=>Dm h xs hx v r (k+1) acc' h2 (fun x hx=>ht x (List.mem_cons_of_mem _ hx)) (fun x hx=>hK x (List.mem_cons_of_mem _ hx))
  have next:∀s,s=acc++gd c→G1.n57 (G1.X w0 0) w0 0 (fun r' _=>r'=v) [.cells 39 (jq h),.bld tyB 5 s,.cells 51 [.pv (.int .i64 c.k),.pv (.str c.t)]] (.ptr 1 0) (.pv (.sl xs)) xs.length k:=by
   rintro s rfl
   refine G1.n57_in ?_
   rw[G1.b57_eq,J3 hk (by omega)]
   refine G1.n26_weak (M5.drop (τ:=[.cells 39 (jq h),.bld tyB 5 (acc++gd c)]) O3 (Nat.zero_le _) rfl rfl) ?_
   exact ih _ (by simp only[List.length_append];omega) (by rw[hv,List.flatMap_cons,List.append_assoc])
  have key:∀m,m=db c.k→G1.n50 (G1.X w0 0) w0 0 (fun r' _=>r'=v) [.cells 39 (jq h),.bld tyB 5 (acc++m),.cells 51 [.pv (.int .i64 c.k),.pv (.str c.t)]] (.ptr 1 0) (.ptr 2 0) (.pv (.sl xs)) xs.length k:=by
   rintro m rfl
   have hm:(db c.k).length=1:=by unfold db;split<;>(try split)<;>rfl
   have hr:(gd c).length=1+(cy c.t).length:=by simp only[gd,List.length_append,hm]
   have ht1:(cy c.t).length=if L6 c.t=true then c.t.length else c.t.length+29:=by
    unfold cy;split
    ·rfl
    ·simp only[List.length_append,List.length_cons,List.length_nil,nu]
   refine G1.n50_in ?_
   rw[G1.b50_eq]
   repeat ((with_reducible first|apply A0|apply wI|apply wT|apply wP|apply wS|apply wB);exact rfl)
   refine I6 (id:=1) rfl (by simp only[List.length_append,hm];split at ht1<;>omega) ?_
   repeat ((with_reducible first|apply A0|apply wI|apply wT|apply wP|apply wS|apply wB);exact rfl)
   refine ik (by omega) (F0 ?_)
   rw[E3]
   refine A7 (fun g=>next _ ?_) (fun g=>?_)
   ·rw[gd,cy,if_pos g,List.append_assoc]
   ·rw[if_neg (by rw[g];decide)] at ht1
    refine I6 (id:=1) rfl (by simp only[List.length_append,List.length_cons,List.length_nil,hm];omega) ?_
    refine next _ ?_
    rw[gd,cy,if_neg (by rw[g];decide)]
    simp[nu]
  refine G1.n26_in ?_
  rw[G1.b27_eq,A8,if_pos (by omega)]
  refine A0 (O1 df h1 rfl) ?_
  repeat ((with_reducible first|apply A0|apply wI|apply wT|apply wP|apply wS|apply wB);exact rfl)
  have hr:=Fq c
  have hr1:1≤(gd c).length:=by
   simp only[gd,List.length_append]
   have:(db c.k).length=1:=by unfold db;split<;>(try split)<;>rfl
   omega
  rw[H6]
  refine B6 (fun g=>?_) (fun g=>?_)
  ·refine I6 (id:=1) rfl (by simp only[List.length_cons,List.length_nil];omega) (key _ ?_)
   rw[db,if_pos g]
  ·rw[H6]
   refine B6 (fun g2=>?_) (fun g2=>?_)
   ·refine I6 (id:=1) rfl (by simp only[List.length_cons,List.length_nil];omega) (key _ ?_)
    rw[db,if_neg g,if_pos g2]
   ·refine I6 (id:=1) rfl (by simp only[List.length_cons,List.length_nil];omega) (key _ ?_)
    rw[db,if_neg g,if_neg g2]
theorem Ek(h:Hnk):AV.under 0 (jr h)=true:=by unfold jr kx;split<;>rfl
theorem Tp(L:Laid w0.w){h:Hnk}(ok:Z2 h)(hB:pvB (K6 h)≤8388608)(hR:R (jr h) σ):A1 (cx w0) G1.id [.pv (K6 h)] σ R:=by
 refine A1.alone L rfl (fun w1 L1=>?_) (Ek h) hR
 refine G1.calls ?_
 rw[G1.b0_eq]
 refine ⟨rfl,?_⟩
 repeat ((with_reducible first|apply A0|apply wI|apply wT|apply wP|apply wS|apply wB);exact rfl)
 refine iq L1 (Nat.le_trans ok.rows (by decide)) (fun x hx=>Nat.le_trans (ok.text x hx) (by decide)) (Nat.le_trans ok.head (by decide)) ok.a ok.b ?_
 cases hv:J2 h with
 | false=>
  rw[kx,if_neg (by decide),Q1]
  refine A0 rfl (A0 (v:=false) rfl (F0 ?_))
  refine A7 (fun _=>?_) (fun h=>absurd h (by decide))
  repeat ((with_reducible first|apply A0|apply wI|apply wT|apply wP|apply wS|apply wB);exact rfl)
  refine C4 (Nat.zero_le _) ?_
  unfold jr
  rw[hv];rfl
 | true=>
  rw[kx,if_pos rfl,Q1]
  refine A0 rfl (A0 (v:=true) rfl (F0 ?_))
  refine A7 (fun h=>absurd h (by decide)) (fun _=>?_)
  obtain ⟨v1,f1,f2,f3,f4,f5,f6⟩:=ca hv (Nat.le_trans ok.rows (by decide))
  have e1:=qc (a:=h.a) (n:=h.n) f5 ok.a.2 f1 (by omega)
  have e2:=qc (a:=h.b) (n:=h.m) f6 ok.b.2 f3 (by omega)
  have e3:=Fr hv ok
  have e4:=ok.head
  have fin:∀s,s=gc h→G1.n20 (G1.X w1 0) w1 0 (fun r' _=>r'=jr h) [.cells 39 (jq h),.bld tyB 5 s] (.ptr 0 0) (.ptr 1 0):=by
   rintro s rfl
   have e5:=Gd hv ok
   refine G1.n20_in ?_
   rw[G1.b20_eq]
   refine I6 (id:=1) rfl (by simp only[List.length_cons,List.length_nil];omega) ?_
   repeat ((with_reducible first|apply A0|apply wI|apply wT|apply wP|apply wS|apply wB);exact rfl)
   have:=Dm (w0:=w1) h (h.rows.map I3) (by rw[List.length_map];exact ok.rows) (jr h) h.rows 0 (gc h ++ [10]) rfl ok.text (kn _ _ _ _ v1) (by
    simp only[kh,List.length_append,List.length_cons,List.length_nil] at e3 ⊢;omega) (by
    unfold jr;rw[hv];rfl)
   exact this
  repeat ((with_reducible first|apply A0|apply wI|apply wT|apply wP|apply wS|apply wB);exact rfl)
  refine Hl L1 f5 ok.a.2 f1 (by omega) (K9 ⟨rfl,rfl,?_⟩)
  refine ⟨by simp only[List.length_cons,List.length_nil];omega,by simp only[List.length_append,List.length_cons,List.length_nil];omega,?_⟩
  refine Hl L1 f6 ok.b.2 f3 (by omega) (K9 ?_)
  refine ⟨by simp only[List.length_append,List.length_cons,List.length_nil];omega,by simp only[List.length_append,List.length_cons,List.length_nil];omega,?_⟩
  refine I6 (id:=1) rfl (by simp only[List.length_append,List.length_cons,List.length_nil];omega) ?_
  repeat ((with_reducible first|apply A0|apply wI|apply wT|apply wP|apply wS|apply wB);exact rfl)
  rw[E3,U5]
  refine B6 (fun g=>fin _ ?_) (fun g=>?_)
  ·rw[gc,if_pos g];simp
  ·repeat ((with_reducible first|apply A0|apply wI|apply wT|apply wP|apply wS|apply wB);exact rfl)
   refine ⟨by simp only[List.length_cons,List.length_nil];omega,?_⟩
   refine I6 (id:=1) rfl (by simp only[List.length_append,List.length_cons,List.length_nil];omega) (fin _ ?_)
   rw[gc,if_neg g];simp
end
end Go.Sv
end
section
namespace Go.Sv
def Is(x:Int):Int:=if 2147483648<x then 2147483648 else x
def lc:List UInt8→Int→Int×List UInt8
 | [],n=>(n,[])
 | c::r,n=>if 48≤c.toNat∧c.toNat≤57 then lc r (Is (n*10+((c.toNat:Int)-48))) else (n,c::r)
def fy(s:List UInt8):Int×List UInt8×Bool:=((lc s 0).1,(lc s 0).2,decide ((lc s 0).2.length<s.length)&&decide ((lc s 0).1≤2147483647))
def ap(s:List UInt8):Int×Int×List UInt8×Bool:=
 if (fy s).2.2=true∧Lib.hasPrefix (fy s).2.1 [44]=true then ((fy s).1,(fy ((fy s).2.1.drop 1)).1,(fy ((fy s).2.1.drop 1)).2.1,(fy ((fy s).2.1.drop 1)).2.2)
 else ((fy s).1,1,(fy s).2.1,(fy s).2.2)
def X8(s p:List UInt8):List UInt8×Bool:=if Lib.hasPrefix s p=true then (s.drop p.length,true) else (s,false)
def ln:Hnk:=⟨0,0,0,0,[],[]⟩
def Ii(h:Hnk)(s:List UInt8)(ok:Bool):Hnk×Bool:=
 if ok=false then (h,false) else if s ≠ []∧s.head? ≠ some 32 then (h,false) else ({ h with head:=Lib.trimPrefix s [32] },true)
def Qc(h:Hnk)(s:List UInt8)(ok:Bool):Hnk×Bool:=if ok=true then Ii h (X8 s [32,64,64]).1 (X8 s [32,64,64]).2 else Ii h s ok
def Pj(h:Hnk)(s:List UInt8)(ok:Bool):Hnk×Bool:=if ok=true then Qc { h with b:=(ap s).1,m:=(ap s).2.1 } (ap s).2.2.1 (ap s).2.2.2 else Qc h s ok
def Od(h:Hnk)(s:List UInt8)(ok:Bool):Hnk×Bool:=if ok=true then Pj h (X8 s [32,43]).1 (X8 s [32,43]).2 else Pj h s ok
def dl(s:List UInt8):Hnk×Bool:=if (X8 s [64,64,32,45]).2=true then Od { ln with a:=(ap (X8 s [64,64,32,45]).1).1,n:=(ap (X8 s [64,64,32,45]).1).2.1 } (ap (X8 s [64,64,32,45]).1).2.2.1 (ap (X8 s [64,64,32,45]).1).2.2.2 else Od ln (X8 s [64,64,32,45]).1 (X8 s [64,64,32,45]).2
theorem Xn:∀(u:Nat),u≤2147483647 → ∀X:List UInt8,lc (Lib.decDigits u++X) 0=lc X (u:Int):=by
 intro u
 induction u using Nat.strongRecOn with
 | ind u ih=>
  intro hu X
  have dig:∀d:Nat,d<10→(UInt8.ofNat (48+d)).toNat=48+d:=fun d h=>UInt8.toNat_ofNat_of_lt' (show 48+d<256 by omega)
  rw[Lib.decDigits]
  split
  ·rename_i h
   simp only[List.cons_append,List.nil_append]
   rw[lc,dig u h,if_pos (by omega)]
   congr 1
   unfold Is
   rw[if_neg (by omega)];omega
  ·rename_i h
   rw[List.append_assoc,ih (u / 10) (by omega) (by omega)]
   simp only[List.cons_append,List.nil_append]
   rw[lc,dig (u % 10) (by omega),if_pos (by omega)]
   congr 1
   unfold Is
   rw[if_neg (by omega)];omega
def Si(s:List UInt8):Prop:=∀c r,s=c::r → ¬(48≤c.toNat∧c.toNat≤57)
theorem Tj{s:List UInt8}(h:Si s)(n:Int):lc s n=(n,s):=by
 cases s with
 | nil=>rfl
 | cons c r=>rw[lc,if_neg (h c r rfl)]
theorem Rc(u:Nat):1≤(Lib.decDigits u).length:=by
 rw[Lib.decDigits]
 split
 ·simp
 ·simp
theorem Cm{a:Int}(h0:0≤a)(h1:a≤2147483647){X:List UInt8}(hX:Si X):fy (Lib.itoa a++X)=(a,X,true):=by
 have e:lc (Lib.itoa a++X) 0=(a,X):=by
  rw[oh h0,Xn _ (by omega),Tj hX]
  congr 1;omega
 have:=Rc a.toNat
 unfold fy
 rw[e,oh h0]
 simp only[List.length_append]
 rw[decide_eq_true (show X.length<(Lib.decDigits a.toNat).length+X.length by omega),decide_eq_true h1]
 rfl
theorem Hs{a n:Int}(h0:0≤a)(h1:a≤2147483647)(h2:0≤n)(h3:n≤2147483647)(X:List UInt8):ap (gr a n++32::X)=(a,n,32::X,true):=by
 have hX:Si (32::X):=fun c r e=>by
  simp only[List.cons.injEq] at e
  rw[← e.1]
  decide
 unfold gr
 by_cases hn:n=1
 ·rw[if_pos hn]
  have e:=Cm h0 h1 hX
  unfold ap
  rw[e]
  have hp:Lib.hasPrefix (32::X) [44]=false:=by simp[Lib.hasPrefix,List.isPrefixOf]
  simp[hp,hn]
 ·rw[if_neg hn]
  have hY:Si (44::(Lib.itoa n++32::X)):=fun c r e=>by
   simp only[List.cons.injEq] at e
   rw[← e.1]
   decide
  have e:=Cm h0 h1 hY
  have e2:=Cm h2 h3 hX
  have ea:Lib.itoa a ++ [44]++Lib.itoa n++32::X=Lib.itoa a++44::(Lib.itoa n++32::X):=by simp
  rw[ea]
  unfold ap
  rw[e]
  have hp:Lib.hasPrefix (44::(Lib.itoa n++32::X)) [44]=true:=by simp[Lib.hasPrefix,List.isPrefixOf]
  simp[hp,e2]
theorem vi(p X:List UInt8):X8 (p++X) p=(X,true):=by
 unfold X8
 have:Lib.hasPrefix (p++X) p=true:=by simp[Lib.hasPrefix]
 rw[if_pos this];simp
theorem kq{h:Hnk}(hv:J2 h=true)(ok:Z2 h):(0≤h.a∧h.a≤2147483647)∧(0≤h.n∧h.n≤2147483647)∧(0≤h.b∧h.b≤2147483647)∧(0≤h.m∧h.m≤2147483647):=by
 obtain ⟨_,f1,f2,f3,f4,f5,f6⟩:=ca hv (Nat.le_trans ok.rows (by decide))
 simp only[J2,Bool.and_eq_true,beq_iff_eq] at hv
 obtain ⟨⟨⟨⟨⟨⟨v1,v2⟩,v3⟩,v4⟩,v5⟩,v6⟩,v7⟩:=hv
 simp only[ez,Bool.and_eq_true,decide_eq_true_eq] at v4 v5
 rw[← v2] at v4
 rw[← v3] at v5
 rw[F8 (by omega) (by omega)] at v4 v5
 omega
theorem Pm{h:Hnk}(hv:J2 h=true)(ok:Z2 h):dl (gc h)=({ h with rows:=[] },true):=by
 obtain ⟨⟨a0,a1⟩,⟨n0,n1⟩,⟨b0,b1⟩,m0,m1⟩:=kq hv ok
 obtain ⟨T,hT⟩:∃T,T=(if h.head = [] then ([]:List UInt8) else [32]++h.head):=⟨_,rfl⟩
 have e:gc h = [64,64,32,45]++(gr h.a h.n++32::(43::(gr h.b h.m++32::(64::64::T)))):=by
  unfold gc
  rw[← hT]
  simp
 have c1:=vi [64,64,32,45] (gr h.a h.n++32::(43::(gr h.b h.m++32::(64::64::T))))
 have r1:=Hs a0 a1 n0 n1 (43::(gr h.b h.m++32::(64::64::T)))
 have c2:=vi [32,43] (gr h.b h.m++32::(64::64::T))
 have r2:=Hs b0 b1 m0 m1 (64::64::T)
 have c3:=vi [32,64,64] T
 simp only[List.cons_append,List.nil_append] at c1 c2 c3
 unfold dl
 rw[e]
 simp only[List.cons_append,List.nil_append,c1,r1,if_true]
 unfold Od
 simp only[if_true,c2]
 unfold Pj
 simp only[if_true,r2]
 unfold Qc
 simp only[if_true,c3]
 unfold Ii
 rw[if_neg (by decide)]
 have hh:¬(T ≠ []∧T.head? ≠ some 32):=by
  rw[hT]
  split
  ·simp
  ·simp
 rw[if_neg hh]
 have ht:Lib.trimPrefix T [32]=h.head:=by
  rw[hT]
  split
  ·rename_i e;rw[e];rfl
  ·simp[Lib.trimPrefix,Lib.hasPrefix]
 rw[ht]
 simp[ln]
end Go.Sv
end
