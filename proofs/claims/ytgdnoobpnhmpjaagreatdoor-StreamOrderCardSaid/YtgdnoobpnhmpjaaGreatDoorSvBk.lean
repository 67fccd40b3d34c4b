/- What is read is no greater than its bulk. Package unified, reading, as plain lists: lines, names in quotes, numbers, a hunk's first line. What is printed is read as it was. Names in quotes, read: as plain lists; what is quoted is read as it was. Numbers, ranges, a hunk's first line, read: as plain lists; what is printed is read as it was. A unified diff, read: as plain lists. What is printed is read as it was. What a text is read as: hunks that may be, in order; no greater than the text. What stands behind a diff changes nothing of it. -/
import Derived.Test.YtgdnoobpnhmpjaaGreatDoorSvY
import Derived.Test.YtgdnoobpnhmpjaaGreatDoorRows
import Derived.Test.YtgdnoobpnhmpjaaGreatDoorHk
set_option linter.unusedVariables false
set_option linter.unusedSimpArgs false
set_option maxRecDepth 100000
section
namespace Go.Sv
open Go Go.Proofs Go.Proofs.YtgdnoobpnhmpjaaGreatDoor
mutual
def pvB:PV→Nat
 | .str s=>s.length+1
 | .sl xs=>jq xs+1
 | .agg cs=>jq cs
 | _=>1
def jq:List PV→Nat
 | []=>0
 | p::r=>pvB p+jq r
end
theorem ut:∀a b:List PV,jq (a++b)=jq a+jq b
 | [],b=>by simp[jq]
 | p::r,b=>by simp[jq,ut r b,Nat.add_assoc]
end Go.Sv
end
section
namespace Go.Sv.U
def E4:List UInt8→List (List UInt8)
 | []=>[]
 | c::r=>if c=10 then [10]::E4 r else match E4 r with
  | []=>[[c]]
  | l::ls=>(c::l)::ls
theorem S4:∀s:List UInt8,(E4 s).flatten=s
 | []=>rfl
 | c::r=>by
  have ih:=S4 r
  unfold E4
  split
  ·rename_i h;subst h;simp[ih]
  ·split
   ·rename_i h;rw[h] at ih;simp at ih;subst ih;rfl
   ·rename_i l ls h;rw[h] at ih;simp only[List.flatten_cons,List.cons_append] at ih ⊢;rw[ih]
theorem cm:∀(s:List UInt8),∀l∈E4 s,l ≠ []
 | [],l,h=>by simp[E4] at h
 | c::r,l,h=>by
  unfold E4 at h
  split at h
  ·rcases List.mem_cons.1 h with rfl|h
   ·simp
   ·exact cm r l h
  ·split at h
   ·simp at h;subst h;simp
   ·rename_i l0 ls e
    rcases List.mem_cons.1 h with rfl|h
    ·simp
    ·exact cm r l (by rw[e];exact List.mem_cons_of_mem _ h)
theorem Z0:∀(s:List UInt8),s ≠ [] → ∃k:Nat,0<k∧k≤s.length∧(if Lib.indexByte s 10 = -1 then (s.length:Int) else Lib.indexByte s 10+1)=(k:Int)∧E4 s=s.take k::E4 (s.drop k)
 | [],h=>absurd rfl h
 | c::r,_=>by
  have hge:=Lib.indexByte_ge r 10
  rw[Lib.indexByte]
  by_cases hc:c=10
  ·subst hc
   exact ⟨1,by decide,by simp,by simp,by simp[E4]⟩
  ·have hb:(c==10)=false:=beq_false_of_ne hc
   rw[hb]
   simp only[Bool.false_eq_true,if_false]
   cases r with
   | nil=>exact ⟨1,by decide,by simp,by simp[Lib.indexByte],by simp[E4,hc]⟩
   | cons d r=>
    obtain ⟨k,h1,h2,h3,h4⟩:=Z0 (d::r) (by simp)
    refine ⟨k+1,by omega,by simp only[List.length_cons] at h2 ⊢;omega,?_,?_⟩
    ·by_cases hm:Lib.indexByte (d::r) 10 = -1
     ·rw[hm] at h3 ⊢
      simp only[if_true,beq_self_eq_true] at h3 ⊢
      simp only[List.length_cons] at h3 ⊢
      omega
     ·have hb2:(Lib.indexByte (d::r) 10 == -1)=false:=beq_false_of_ne hm
      rw[if_neg hm] at h3
      rw[hb2]
      simp only[Bool.false_eq_true,if_false]
      rw[if_neg (by omega)]
      omega
    ·rw[E4,if_neg hc,h4];rfl
end Go.Sv.U
end
section
namespace Go.Sv.U
def meantT(k:Nat):Option Nat:=match k with
 | 97=>some 7|98=>some 8|116=>some 9|110=>some 10|118=>some 11|102=>some 12|114=>some 13|34=>some 34|92=>some 92|_=>none
def octV(a b c:Nat):Option Nat:=if 48≤a∧a≤51∧48≤b∧b≤55∧48≤c∧c≤55 then some ((a-48)*64+(b-48)*8+(c-48)) else none
def octF:List UInt8→Option Nat
 | a::b::c::_=>octV a.toNat b.toNat c.toNat
 | _=>none
def uqL:Nat→List UInt8→List UInt8→Option (List UInt8×List UInt8)
 | 0,_,_=>none
 | _+1,[],_=>none
 | n+1,c::r,acc=>
  if c=34 then some (acc,r) else if c=10 then none else if c≠92 then uqL n r (acc ++ [c]) else
  match r with
  | []=>none
  | d::r1=>match meantT d.toNat with
   | some m=>uqL n r1 (acc ++ [UInt8.ofNat m])
   | none=>match octF (d::r1) with
    | some v=>uqL n ((d::r1).drop 3) (acc ++ [UInt8.ofNat v])
    | none=>none
def cr:List UInt8→Nat
 | []=>0
 | c::r=>if c=9∨c=10 then 0 else cr r+1
def unqF(s:List UInt8):Option (List UInt8×List UInt8):=match s with
 | 34::r=>uqL (r.length+1) r []
 | s=>some (s.take (cr s),s.drop (cr s))
theorem pd:∀s:List UInt8,cr s≤s.length
 | []=>Nat.le_refl _
 | c::r=>by
  have:=pd r
  unfold cr
  split
  ·omega
  ·simp only[List.length_cons];omega
theorem tk:∀s:List UInt8,(if Lib.indexAny s [9,10]<0 then (s.length:Int) else Lib.indexAny s [9,10])=(cr s:Int)
 | []=>rfl
 | c::r=>by
  have ih:=tk r
  have hge:=Lib.indexAny_ge [9,10] r
  rw[Lib.indexAny,cr]
  have hc:([9,10]:List UInt8).contains c=true↔c=9∨c=10:=by simp
  by_cases h:c=9∨c=10
  ·rw[if_pos (hc.2 h),if_pos h];rfl
  ·rw[if_neg (fun e=>h (hc.1 e)),if_neg h]
   by_cases hm:Lib.indexAny r [9,10] = -1
   ·rw[hm] at ih ⊢
    simp only[beq_self_eq_true,if_true,List.length_cons] at ih ⊢
    rw[if_pos (by omega)] at ih
    rw[if_pos (by omega)]
    omega
   ·have hb:(Lib.indexAny r [9,10] == -1)=false:=beq_false_of_ne hm
    rw[hb]
    simp only[Bool.false_eq_true,if_false]
    rw[if_neg (by omega)] at ih
    rw[if_neg (by omega)]
    omega
end Go.Sv.U
end
section
namespace Go.Sv.U
def pk(x:Int):Int:=if 2147483648<x then 2147483648 else x
def bg:List UInt8→Int→Int×List UInt8
 | [],n=>(n,[])
 | c::r,n=>if 48≤c.toNat∧c.toNat≤57 then bg r (pk (n*10+((c.toNat:Int)-48))) else (n,c::r)
def L4(s:List UInt8):Int×List UInt8×Bool:=((bg s 0).1,(bg s 0).2,decide ((bg s 0).2.length<s.length)&&decide ((bg s 0).1≤2147483647))
def Z4(s:List UInt8):Int×Int×List UInt8×Bool:=
 if (L4 s).2.2=true∧Lib.hasPrefix (L4 s).2.1 [44]=true then ((L4 s).1,(L4 ((L4 s).2.1.drop 1)).1,(L4 ((L4 s).2.1.drop 1)).2.1,(L4 ((L4 s).2.1.drop 1)).2.2)
 else ((L4 s).1,1,(L4 s).2.1,(L4 s).2.2)
def W1(s p:List UInt8):List UInt8×Bool:=if Lib.hasPrefix s p=true then (s.drop p.length,true) else (s,false)
def X3:Hnk:=⟨0,0,0,0,[],[]⟩
def fst4(h:Hnk)(s:List UInt8)(ok:Bool):Hnk×Bool:=
 if ok=false then (h,false) else if s ≠ []∧s.head? ≠ some 32 then (h,false) else ({ h with head:=Lib.trimPrefix s [32] },true)
def fst3(h:Hnk)(s:List UInt8)(ok:Bool):Hnk×Bool:=if ok=true then fst4 h (W1 s [32,64,64]).1 (W1 s [32,64,64]).2 else fst4 h s ok
def fst2(h:Hnk)(s:List UInt8)(ok:Bool):Hnk×Bool:=if ok=true then fst3 { h with b:=(Z4 s).1,m:=(Z4 s).2.1 } (Z4 s).2.2.1 (Z4 s).2.2.2 else fst3 h s ok
def fst1(h:Hnk)(s:List UInt8)(ok:Bool):Hnk×Bool:=if ok=true then fst2 h (W1 s [32,43]).1 (W1 s [32,43]).2 else fst2 h s ok
def Q4(s:List UInt8):Hnk×Bool:=if (W1 s [64,64,32,45]).2=true then fst1 { X3 with a:=(Z4 (W1 s [64,64,32,45]).1).1,n:=(Z4 (W1 s [64,64,32,45]).1).2.1 } (Z4 (W1 s [64,64,32,45]).1).2.2.1 (Z4 (W1 s [64,64,32,45]).1).2.2.2 else fst1 X3 (W1 s [64,64,32,45]).1 (W1 s [64,64,32,45]).2
end Go.Sv.U
end
section
namespace Go.Sv.U
abbrev Ln:=List UInt8
def je:Ln→Option Row
 | []=>none
 | c::t=>if c=32 then some ⟨1,t⟩ else if c=10 then some ⟨1,[10]⟩ else if c=45 then some ⟨2,t⟩ else if c=43 then some ⟨3,t⟩ else none
def ay(l:List Row):List Row:=match l.getLast? with
 | none=>l
 | some r=>l.dropLast ++ [⟨r.k,H4 r.t⟩]
def sw(k n:Int):Int:=if k=3 then n else n+1
def ve(k m:Int):Int:=if k=2 then m else m+1
def Z6(N M:Int):List Ln→Int→Int→Bool→List Row→Option (List Row×List Ln)
 | [],n,m,_,acc=>if n=N∧m=M then some (acc,[]) else none
 | l::ls,n,m,fr,acc=>
  if l.head? = some 92 then (if fr=true then Z6 N M ls n m false (ay acc) else none)
  else if n=N∧m=M then some (acc,l::ls)
  else match je l with
   | none=>none
   | some r=>if N<sw r.k n∨M<ve r.k m then none else Z6 N M ls (sw r.k n) (ve r.k m) true (acc ++ [r])
def ordL(ahead:List Hnk)(h:Hnk):Bool:=match ahead.getLast? with
 | none=>true
 | some g=>ordB g h
def ku(ahead:List Hnk):List Ln→Option (Hnk×List Ln)
 | []=>none
 | l::ls=>if (Q4 (H4 l)).2=true then match Z6 (Q4 (H4 l)).1.n (Q4 (H4 l)).1.m ls 0 0 false [] with
   | none=>none
   | some (rows,r)=>if T1 { (Q4 (H4 l)).1 with rows:=rows }=true then (if ordL ahead { (Q4 (H4 l)).1 with rows:=rows }=true then some ({ (Q4 (H4 l)).1 with rows:=rows },r) else none) else none
  else none
def X9:Nat→List Hnk→List Ln→Option (List Hnk×List Ln)
 | 0,_,_=>none
 | _+1,acc,[]=>some (acc,[])
 | f+1,acc,l::ls=>if Lib.hasPrefix l [64,64,32,45]=true then match ku acc (l::ls) with
   | none=>none
   | some (h,r)=>X9 f (acc ++ [h]) r
  else some (acc,l::ls)
def bl(mark l:Ln):Option (Ln×Ln):=if Lib.hasPrefix l mark=true then match unqF ((H4 l).drop mark.length) with
  | none=>none
  | some (p,[])=>some (p,[])
  | some (p,c::r)=>if c=9 then some (p,r) else none
 else none
structure Pars where
 a:Ln×Ln
 b:Ln×Ln
 l:List Hnk
 r:List Ln
def gm:List Ln→Option Pars
 | l1::l2::ls=>match bl [45,45,45,32] l1,bl [43,43,43,32] l2 with
  | some a,some b=>match X9 (ls.length+1) [] ls with
   | some (h::hs,r)=>some ⟨a,b,h::hs,r⟩
   | _=>none
  | _,_=>none
 | _=>none
def X0(s:Ln):Ln:=if s ≠ []∧P6 s=false then s ++ [10] else s
def sizeF(s:Ln)(r:List Ln):Nat:=(X0 s).length-r.flatten.length
def parseF(s:Ln):Option (Pars×Ln):=if 4194304<s.length then none else match gm (E4 (X0 s)) with
 | none=>none
 | some x=>some (x,s.drop (min (sizeF s x.r) s.length))
end Go.Sv.U
end
section
namespace Go.Sv.U
theorem Y7(t:Ln):(H4 t).length≤t.length:=by
 unfold H4;split
 ·rw[List.length_dropLast];omega
 ·omega
theorem rowOf_le{l:Ln}{r:Row}(h:je l=some r):r.t.length≤l.length:=by
 cases l with
 | nil=>simp[je] at h
 | cons c t=>
  simp only[je] at h
  repeat' split at h
  all_goals first|(cases h;done)|(cases h;simp)
theorem rowOf_pos{l:Ln}{r:Row}(h:je l=some r):1≤l.length:=by
 cases l with
 | nil=>simp[je] at h
 | cons c t=>simp
theorem jj(a b:List Row):jq ((a++b).map P0)=jq (a.map P0)+jq (b.map P0):=by rw[List.map_append,ut]
theorem bareLast_len(l:List Row):(ay l).length=l.length:=by
 unfold ay
 rcases List.eq_nil_or_concat l with rfl|⟨p,r,rfl⟩
 ·rfl
 ·rw[List.concat_eq_append];simp
theorem bareLast_bulk(l:List Row):jq ((ay l).map P0)≤jq (l.map P0):=by
 unfold ay
 rcases List.eq_nil_or_concat l with rfl|⟨p,r,rfl⟩
 ·exact Nat.le_refl _
 ·rw[List.concat_eq_append]
  have:=Y7 r.t
  simp only[List.getLast?_append,List.getLast?_singleton,Option.some_or,List.dropLast_concat,jj,List.map_cons,List.map_nil,jq,pvB]
  omega
theorem bareLast_text{T:Nat}{l:List Row}(h:∀r∈l,r.t.length≤T):∀r∈ay l,r.t.length≤T:=by
 unfold ay
 rcases List.eq_nil_or_concat l with rfl|⟨p,r,rfl⟩
 ·exact h
 ·rw[List.concat_eq_append] at *
  simp only[List.getLast?_append,List.getLast?_singleton,Option.some_or,List.dropLast_concat]
  intro x hx
  rcases List.mem_append.1 hx with hx|hx
  ·exact h x (by simp[hx])
  ·rw[List.mem_singleton] at hx;subst hx
   exact Nat.le_trans (Y7 r.t) (h r (by simp))
structure RowsOut(T:Nat)(ls:List Ln)(acc rows:List Row)(r:List Ln):Prop where
 pre:∃p,ls=p++r
 bulk:jq (rows.map P0)+3*r.flatten.length≤jq (acc.map P0)+3*ls.flatten.length
 len:rows.length+r.flatten.length≤acc.length+ls.flatten.length
 text:(∀ x∈acc,x.t.length≤T) → ∀x∈rows,x.t.length≤T
theorem nk(N M:Int)(T:Nat):∀(ls:List Ln) (n m:Int) (fr:Bool) (acc rows:List Row) (r:List Ln),(∀ l∈ls,l.length≤T)→Z6 N M ls n m fr acc=some (rows,r)→RowsOut T ls acc rows r
 | [],n,m,fr,acc,rows,r,hT,h=>by
  unfold Z6 at h
  split at h
  ·cases h;exact ⟨⟨[],rfl⟩,Nat.le_refl _,Nat.le_refl _,fun h=>h⟩
  ·cases h
 | l::ls,n,m,fr,acc,rows,r,hT,h=>by
  have hTs:∀x∈ls,x.length≤T:=fun x hx=>hT x (List.mem_cons_of_mem _ hx)
  have hl:=hT l (by simp)
  unfold Z6 at h
  split at h
  ·split at h
   ·obtain ⟨⟨p,hp⟩,h2,h3,h4⟩:=nk N M T ls _ _ _ _ rows r hTs h
    have b1:=bareLast_bulk acc
    have b2:=bareLast_len acc
    refine ⟨⟨l::p,by rw[hp];rfl⟩,?_,?_,fun ha=>h4 (bareLast_text ha)⟩
    ·simp only[List.flatten_cons,List.length_append];omega
    ·simp only[List.flatten_cons,List.length_append];omega
   ·cases h
  ·split at h
   ·cases h;exact ⟨⟨[],rfl⟩,Nat.le_refl _,Nat.le_refl _,fun h=>h⟩
   ·split at h
    ·cases h
    ·rename_i w hw
     split at h
     ·cases h
     ·obtain ⟨⟨p,hp⟩,h2,h3,h4⟩:=nk N M T ls _ _ _ _ rows r hTs h
      have b1:=rowOf_le hw
      have b2:=rowOf_pos hw
      simp only[jj,List.map_cons,List.map_nil,jq,pvB,List.length_append,List.length_singleton] at h2 h3
      refine ⟨⟨l::p,by rw[hp];rfl⟩,?_,?_,fun ha=>h4 fun x hx=>?_⟩
      ·simp only[List.flatten_cons,List.length_append];omega
      ·simp only[List.flatten_cons,List.length_append];omega
      ·rcases List.mem_append.1 hx with hx|hx
       ·exact ha x hx
       ·rw[List.mem_singleton] at hx;subst hx
        omega
theorem lw:∀(s:Ln) (n:Int),0≤n→n≤2147483648→0≤(bg s n).1∧(bg s n).1≤2147483648∧(bg s n).2.length≤s.length
 | [],n,h0,h1=>⟨h0,h1,Nat.le_refl _⟩
 | c::r,n,h0,h1=>by
  unfold bg
  split
  ·rename_i hc
   have:=lw r (pk (n*10+((c.toNat:Int)-48))) (by unfold pk;split<;>omega) (by unfold pk;split<;>omega)
   exact ⟨this.1,this.2.1,by simp only[List.length_cons];omega⟩
  ·exact ⟨h0,h1,Nat.le_refl _⟩
theorem ct(s:Ln):0≤(L4 s).1∧(L4 s).1≤2147483648∧(L4 s).2.1.length≤s.length:=lw s 0 (by omega) (by omega)
theorem na(s:Ln):(0≤(Z4 s).1∧(Z4 s).1≤2147483648)∧(0≤(Z4 s).2.1∧(Z4 s).2.1≤2147483648)∧(Z4 s).2.2.1.length≤s.length:=by
 have h1:=ct s
 have h2:=ct ((L4 s).2.1.drop 1)
 rw[List.length_drop] at h2
 unfold Z4
 split
 ·refine ⟨⟨h1.1,h1.2.1⟩,⟨h2.1,h2.2.1⟩,?_⟩
  show (L4 ((L4 s).2.1.drop 1)).2.1.length≤_
  omega
 ·exact ⟨⟨h1.1,h1.2.1⟩,⟨by show (0:Int)≤1;omega,by show (1:Int)≤_;omega⟩,h1.2.2⟩
theorem bn(s p:Ln):(W1 s p).1.length≤s.length:=by
 unfold W1;split
 ·simp
 ·exact Nat.le_refl _
def hSm(k:Nat)(h:Hnk):Prop:=(0≤h.a∧h.a≤2147483648)∧(0≤h.n∧h.n≤2147483648)∧(0≤h.b∧h.b≤2147483648)∧(0≤h.m∧h.m≤2147483648)∧h.head.length≤k∧h.rows = []
theorem fst4_out{k:Nat}{h:Hnk}{s:Ln}{ok:Bool}(hh:hSm k h)(hs:s.length≤k):hSm k (fst4 h s ok).1:=by
 unfold fst4
 split
 ·exact hh
 ·split
  ·exact hh
  ·refine ⟨hh.1,hh.2.1,hh.2.2.1,hh.2.2.2.1,?_,hh.2.2.2.2.2⟩
   show (Lib.trimPrefix s [32]).length≤k
   unfold Lib.trimPrefix
   split
   ·rw[List.length_drop];omega
   ·exact hs
theorem fst3_out{k:Nat}{h:Hnk}{s:Ln}{ok:Bool}(hh:hSm k h)(hs:s.length≤k):hSm k (fst3 h s ok).1:=by
 have:=bn s [32,64,64]
 unfold fst3;split
 ·exact fst4_out hh (by omega)
 ·exact fst4_out hh hs
theorem fst2_out{k:Nat}{h:Hnk}{s:Ln}{ok:Bool}(hh:hSm k h)(hs:s.length≤k):hSm k (fst2 h s ok).1:=by
 have:=na s
 unfold fst2;split
 ·exact fst3_out ⟨hh.1,hh.2.1,this.1,this.2.1,hh.2.2.2.2⟩ (by omega)
 ·exact fst3_out hh hs
theorem fst1_out{k:Nat}{h:Hnk}{s:Ln}{ok:Bool}(hh:hSm k h)(hs:s.length≤k):hSm k (fst1 h s ok).1:=by
 have:=bn s [32,43]
 unfold fst1;split
 ·exact fst2_out hh (by omega)
 ·exact fst2_out hh hs
theorem zero_sm(k:Nat):hSm k X3:=by simp[hSm,X3]
theorem firstF_out(s:Ln):hSm s.length (Q4 s).1:=by
 have h1:=bn s [64,64,32,45]
 have h2:=na (W1 s [64,64,32,45]).1
 unfold Q4;split
 ·exact fst1_out ⟨h2.1,h2.2.1,(zero_sm _).2.2⟩ (by omega)
 ·exact fst1_out (zero_sm _) h1
structure HunkOut(T:Nat)(ahead:List Hnk)(ls:List Ln)(h:Hnk)(r:List Ln):Prop where
 pre:∃l p,ls=l::(p++r)
 valid:T1 h=true
 ord:ordL ahead h=true
 small:(0≤h.a∧h.a≤2147483648)∧(0≤h.b∧h.b≤2147483648)∧h.head.length≤T∧(∀ x∈h.rows,x.t.length≤T)
 bulk:pvB (O2 h)+7*r.flatten.length≤7*ls.flatten.length
 len:h.rows.length+r.flatten.length≤ls.flatten.length
theorem hunkL_out{T:Nat}{ahead:List Hnk}{ls:List Ln}{h:Hnk}{r:List Ln}(hT:∀l∈ls,l.length≤T)(hne:∀l∈ls,l ≠ [])(e:ku ahead ls=some (h,r)):HunkOut T ahead ls h r:=by
 cases ls with
 | nil=>simp[ku] at e
 | cons l ls=>
  have f:=firstF_out (H4 l)
  have hb:=Y7 l
  have hl:=hT l (by simp)
  have hl1:1≤l.length:=List.length_pos_iff.2 (hne l (by simp))
  simp only[ku] at e
  split at e
  ·split at e
   ·cases e
   ·rename_i rows r' hr
    split at e
    ·rename_i hv
     split at e
     ·rename_i ho
      cases e
      have o:=nk _ _ T ls 0 0 false [] rows r (fun x hx=>hT x (List.mem_cons_of_mem _ hx)) hr
      obtain ⟨p,hp⟩:=o.pre
      have ob:=o.bulk
      have ol:=o.len
      obtain ⟨f1,f2,f3,f4,f5,f6⟩:=f
      simp only[List.map_nil,jq,List.length_nil,Nat.zero_add] at ob ol
      refine ⟨⟨l,p,by rw[hp]⟩,hv,ho,⟨f1,f3,by show (Q4 (H4 l)).1.head.length≤T;omega,o.text (by simp)⟩,?_,?_⟩
      ·simp only[pvB,jq,List.flatten_cons,List.length_append]
       omega
      ·simp only[List.flatten_cons,List.length_append]
       omega
     ·cases e
    ·cases e
  ·cases e
theorem vn:∀(n:Nat) (s acc p r:Ln),uqL n s acc=some (p,r)→p.length+r.length≤acc.length+s.length
 | 0,s,acc,p,r,h=>by simp[uqL] at h
 | n+1,[],acc,p,r,h=>by simp[uqL] at h
 | n+1,c::s,acc,p,r,h=>by
  rw[uqL.eq_def] at h
  simp only at h
  split at h
  ·cases h;simp only[List.length_cons];omega
  ·split at h
   ·cases h
   ·split at h
    ·have:=vn n s _ p r h
     simp only[List.length_append,List.length_cons,List.length_nil] at this ⊢;omega
    ·split at h
     ·cases h
     ·rename_i d r1
      split at h
      ·have:=vn n r1 _ p r h
       simp only[List.length_append,List.length_cons,List.length_nil] at this ⊢;omega
      ·split at h
       ·rename_i v hv
        have:=vn n _ _ p r h
        simp only[List.length_append,List.length_cons,List.length_nil,List.length_drop] at this ⊢;omega
       ·cases h
theorem unqF_out{s p r:Ln}(h:unqF s=some (p,r)):p.length+r.length≤s.length:=by
 unfold unqF at h
 split at h
 ·have:=vn _ _ _ p r h
  simp only[List.length_cons,List.length_nil] at this ⊢;omega
 ·cases h
  rw[List.length_take,List.length_drop]
  have:=pd s
  omega
theorem mem_flatten_len{l:Ln}:∀{L:List Ln},l∈L→l.length≤L.flatten.length
 | x::L,h=>by
  rw[List.flatten_cons,List.length_append]
  rcases List.mem_cons.1 h with rfl|h
  ·omega
  ·have:=mem_flatten_len h;omega
theorem wholeF_len(s:Ln):(X0 s).length≤s.length+1:=by
 unfold X0;split
 ·simp
 ·omega
end Go.Sv.U
end
