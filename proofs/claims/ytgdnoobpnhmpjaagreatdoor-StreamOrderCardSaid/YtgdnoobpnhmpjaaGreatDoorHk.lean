/- Hunks and their rows, as plain data: what the code asks of them, on both sides. The document's answer for hunks (selvageref10.Valid and what it calls): what it answers. The program's hunks.Valid and what it calls: what it answers. Package unified, printing: names, ranges, order, the text of a hunk: what the program and the document's answer compute. -/
import Derived.Test.YtgdnoobpnhmpjaaGreatDoorSvY
import Derived.Lib.Strings
import Derived.Lib.IndexAny
import Derived.Test.YtgdnoobpnhmpjaaGreatDoorSvT
import Derived.KernelRfl
import Derived.Test.YtgdnoobpnhmpjaaGreatDoorFnG
import Derived.Test.YtgdnoobpnhmpjaaGreatDoorUnB
set_option linter.unusedVariables false
set_option linter.unusedSimpArgs false
set_option maxRecDepth 100000
section
namespace Go.Sv
section
open Go Go.RowKit
structure Row where
 k:Int
 t:List UInt8
abbrev P0(r:Row):PV:=.agg [.int .i64 r.k,.str r.t]
structure Hnk where
 a:Int
 n:Int
 b:Int
 m:Int
 head:List UInt8
 rows:List Row
abbrev iz(l:List Row):PV:=.sl (l.map P0)
abbrev O2(h:Hnk):PV:=.agg [.int .i64 h.a,.int .i64 h.n,.int .i64 h.b,.int .i64 h.m,.str h.head,iz h.rows]
abbrev uu(l:List Hnk):AV:=.pv (.sl (l.map O2))
def P6(s:List UInt8):Bool:=match s.getLast? with
 | some c=>c==10
 | none=>false
def bv(s:List UInt8):Bool:=!(s == []) && !(s.dropLast.contains 10)
def H4(s:List UInt8):List UInt8:=if P6 s=true then s.dropLast else s
theorem rh(s:List UInt8):Lib.hasSuffix s [10]=P6 s:=by
 rcases List.eq_nil_or_concat s with rfl|⟨p,c,rfl⟩
 ·rfl
 ·simp only[Lib.hasSuffix,List.concat_eq_append,P6,List.getLast?_append,List.getLast?_singleton,Option.some_or]
  rw[Bool.eq_iff_iff,List.isSuffixOf_iff_suffix,beq_iff_eq]
  constructor
  ·rintro ⟨t,h⟩
   have:=List.append_inj' h rfl
   exact (List.cons.inj this.2).1.symm
  ·rintro rfl;exact ⟨p,rfl⟩
theorem trim_bare(s:List UInt8):Lib.trimSuffix s [10]=H4 s:=by
 unfold Lib.trimSuffix H4
 rw[rh]
 split
 ·rw[List.dropLast_eq_take];rfl
 ·rfl
theorem line_same(s:List UInt8):(!(s == []) && !(decide (0≤Lib.indexByte (H4 s) 10)))=bv s:=by
 rw[← Lib.contains_iff_indexByte]
 unfold bv H4
 rcases List.eq_nil_or_concat s with rfl|⟨p,c,rfl⟩
 ·rfl
 ·rw[List.concat_eq_append]
  have hw:P6 (p ++ [c])=(c==10):=by simp[P6]
  rw[hw]
  by_cases h:c=10
  ·subst h;simp
  ·rw[if_neg (by simpa using h)]
   simp[List.dropLast_concat,Ne.symm h]
def ko(k:Int):Bool:=k==1||k==2
def kn(k:Int):Bool:=k==1||k==3
def badR(r:Row)(e o:Bool):Bool:=(!ko r.k && !kn r.k) || !bv r.t||(ko r.k&&e)||(kn r.k&&o)
def vr:List Row→Bool→Bool→Bool→Bool
 | [],_,_,c=>c
 | r::l,e,o,c=>if badR r e o=true then false else vr l (e||(!P6 r.t&&ko r.k)) (o||(!P6 r.t&&kn r.k)) (c || !(r.k==1))
def nv(f:Int→Bool):List Row→Int→Int
 | [],n=>n
 | r::l,n=>nv f l (if f r.k=true then IntKind.wrap .i64 (n+1) else n)
structure Sd where
 n:Int
 e:Bool
abbrev sdA(s:Sd):AV:=.pv (.agg [.int .i64 s.n,.bool s.e])
def gy(s:Sd)(t:List UInt8):Sd:=if s.e=true then s else ⟨IntKind.wrap .i64 (s.n+1),!P6 t⟩
def dn(k:Int):Bool:=decide (1≤k)&&decide (k≤3)
def Z8:List Row→Sd→Sd→Bool→Sd×Sd×Bool
 | [],p,q,c=>(p,q,c)
 | r::l,p,q,c=>
  if dn r.k=true∧bv r.t=true then
   if r.k≠3∧p.e=true then (p,q,false) else
   if r.k≠2∧q.e=true then (if r.k≠3 then gy p r.t else p,q,false) else
   Z8 l (if r.k≠3 then gy p r.t else p) (if r.k≠2 then gy q r.t else q) (c || !(r.k==1))
  else (p,q,false)
def outS(x:Sd×Sd×Bool):AV:=.tup [sdA x.1,sdA x.2.1,.pv (.bool x.2.2)]
theorem kind_cases{k:Int}(h:dn k=true):k=1∨k=2∨k=3:=by
 simp[dn] at h;omega
theorem sides_same:∀(l:List Row) (p q:Sd) (c:Bool),(Z8 l p q c).2.2=vr l p.e q.e c∧(vr l p.e q.e c=true→(Z8 l p q c).1.n=nv ko l p.n∧(Z8 l p q c).2.1.n=nv kn l q.n)
 | [],p,q,c=>⟨rfl,fun _=>⟨rfl,rfl⟩⟩
 | r::l,p,q,c=>by
  unfold Z8 vr nv
  by_cases h1:dn r.k=true∧bv r.t=true
  ·rw[if_pos h1]
   obtain ⟨hk,hl⟩:=h1
   have ih:=sides_same l (if r.k≠3 then gy p r.t else p) (if r.k≠2 then gy q r.t else q) (c || !(r.k==1))
   rcases kind_cases hk with e|e|e<;>cases hp:p.e<;>cases hq:q.e<;>simp[e,badR,ko,kn,hl,hp,hq,gy] at ih ⊢
   all_goals exact ih
  ·rw[if_neg h1]
   have:badR r p.e q.e=true:=by
    unfold badR
    by_cases hl:bv r.t=true
    ·have hk:dn r.k=false:=by
      cases h:dn r.k with
      | false=>rfl
      | true=>exact absurd ⟨h,hl⟩ h1
     have h2:ko r.k=false:=by
      simp[dn] at hk;simp[ko];omega
     have h3:kn r.k=false:=by
      simp[dn] at hk;simp[kn];omega
     simp[h2,h3]
    ·simp[hl]
   rw[if_pos this]
   exact ⟨rfl,fun h=>by cases h⟩
theorem vl(f:Int→Bool):∀(l:List Row) (n:Int),0≤n→n+l.length≤9223372036854775807→n≤nv f l n∧nv f l n≤n+l.length
 | [],n,_,_=>by simp[nv]
 | r::l,n,h0,h1=>by
  unfold nv
  simp only[List.length_cons] at h1 ⊢
  split
  ·rw[D8 (by omega) (by omega)]
   have:=vl f l (n+1) (by omega) (by omega)
   omega
  ·have:=vl f l n h0 (by omega)
   omega
def fu(a n:Int):Bool:=decide (0≤n)&&decide (0≤a)&&(decide (0<a)||n==0)&&decide (a≤2147483647)&&decide (n≤IntKind.wrap .i64 (2147483647-a))
def startB(a n:Int):Bool:=decide ((if n=0 then 0 else 1)≤a)&&decide (a≤IntKind.wrap .i64 (2147483647-n))
theorem tm{a n:Int}(h0:0≤n)(h1:n≤9223372036854775807)(a0:-9223372036854775808≤a)(a1:a≤9223372036854775807):fu a n=startB a n:=by
 unfold fu startB
 rw[D8 (n:=2147483647-n) (by omega) (by omega)]
 by_cases ha:0≤a
 ·rw[D8 (n:=2147483647-a) (by omega) (by omega)]
  rw[Bool.eq_iff_iff]
  simp only[Bool.and_eq_true,Bool.or_eq_true,decide_eq_true_eq,beq_iff_eq]
  split<;>omega
 ·have e1:decide (0≤a)=false:=by simpa using ha
  rw[e1]
  rw[Bool.eq_iff_iff]
  simp only[Bool.and_eq_true,Bool.or_eq_true,decide_eq_true_eq,beq_iff_eq,Bool.and_false,Bool.false_and]
  split<;>simp<;>omega
def T1(h:Hnk):Bool:=vr h.rows false false false&&h.n==nv ko h.rows 0&&h.m==nv kn h.rows 0&&startB h.a (nv ko h.rows 0)&&startB h.b (nv kn h.rows 0)&&decide (h.head.length≤4096) && !h.head.contains 10
end
section
open Go Go.RowKit Go.Proofs
section
variable {w0:B4}{σ:A1}{R:AV→A1→Prop}
abbrev hnkC(h:Hnk):List AV:=[.pv (.int .i64 h.a),.pv (.int .i64 h.n),.pv (.int .i64 h.b),.pv (.int .i64 h.m),.pv (.str h.head),.pv (iz h.rows)]
end
end
section
open Go Go.RowKit Go.Proofs
abbrev sdC(s:Sd):List AV:=[.pv (.int .i64 s.n),.pv (.bool s.e)]
section
variable {w0:B4}{σ:A1}{R:AV→A1→Prop}
theorem W8{s:List UInt8}(hs:s.length≤140737488355328)(hR:R (.pv (.str (H4 s))) σ):A2 (cx w0) L6.id [.pv (.str s)] σ R:=by
 refine L6.calls ?_
 rw[L6.b0_eq]
 refine km (by omega) (F4 ?_)
 rw[trim_bare]
 exact D5 hR
theorem bz{s:List UInt8}(hs:s.length≤140737488355328)(hR:R (.pv (.bool (P6 s))) σ):A2 (cx w0) M4.id [.pv (.str s)] σ R:=by
 refine M4.calls ?_
 rw[M4.b0_eq]
 refine lj (by omega) (E5 ?_)
 rw[rh]
 exact D5 hR
theorem line_spec{s:List UInt8}(hs:s.length≤140737488355328)(hR:R (.pv (.bool (bv s))) σ):A2 (cx w0) P7.id [.pv (.str s)] σ R:=by
 have fin:∀t,t=bv s→P7.n4 (P7.X w0 σ.length) w0 σ.length R σ t:=by
  rintro t rfl
  refine P7.n4_in ?_
  rw[P7.b4_eq]
  exact D5 hR
 refine P7.calls ?_
 rw[P7.b0_eq]
 refine A4 (fun g=>?_) (fun g=>fin _ ?_)
 ·refine W8 hs (F4 (ba (E5 (fin _ ?_))))
  rw[← line_same,g,Bool.true_and,Lib.contains_iff_indexByte]
 ·rw[bv,g];rfl
theorem aj{a m:Int}(hR:R (.pv (.bool (fu a m))) σ):A2 (cx w0) M6.id [.pv (.int .i64 a),.pv (.int .i64 m)] σ R:=by
 have fin:∀t,t=fu a m→M6.n4 (M6.X w0 σ.length) w0 σ.length R σ t:=by
  rintro t rfl
  refine M6.n4_in ?_
  rw[M6.b4_eq]
  exact D5 hR
 refine M6.calls ?_
 rw[M6.b0_eq]
 refine A4 (fun g1=>?_) (fun g1=>fin _ ?_)
 ·have g1':decide (0≤m)=true:=g1
  refine A4 (fun g2=>?_) (fun g2=>fin _ ?_)
  ·have g2':decide (0≤a)=true:=g2
   refine A4 (fun g3=>?_) (fun g3=>?_)
   ·have g3':decide (0<a)=true:=g3
    refine A4 (fun g4=>fin _ ?_) (fun g4=>fin _ ?_)
    ·rw[fu,g1',g2',g3',g4];rfl
    ·rw[fu,g1',g2',g3',g4];rfl
   ·have g3':decide (0<a)=false:=g3
    refine A4 (fun g5=>?_) (fun g5=>fin _ ?_)
    ·refine A4 (fun g4=>fin _ ?_) (fun g4=>fin _ ?_)
     ·rw[fu,g1',g2',g3',g4,g5];rfl
     ·rw[fu,g1',g2',g3',g4,g5];rfl
    ·rw[fu,g1',g2',g3',g5];rfl
  ·have g2':decide (0≤a)=false:=g2
   rw[fu,g1',g2'];rfl
 ·have g1':decide (0≤m)=false:=g1
  rw[fu,g1'];rfl
theorem store_cells{id off:Nat}{ty:TypeId}{cs:List AV}{ti:TI}{v:AV}(ho:σ[id]? = some (.cells ty cs))(h1:v.cells.length=ti.size)(h2:v.cells.all AV.one=true)(h3:off+v.cells.length≤cs.length):C2 σ ti (.ptr id off) v=some (σ.set id (.cells ty (P1 cs off v.cells))):=by
 unfold C2
 simp only
 rw[if_pos ⟨h1,h2⟩,ho]
 simp only
 rw[if_pos h3]
theorem ip{id:Nat}{s:Sd}{t:List UInt8}(ho:σ[id]? = some (.cells 198 (sdC s)))(ht:t.length≤140737488355328)(hR:R (.pv (.bool (!s.e))) (σ.set id (.cells 198 (sdC (gy s t))))):A2 (cx w0) K9.id [.ptr id 0,.pv (.str t)] σ R:=by
 have hid:=(List.getElem?_eq_some_iff.1 ho).1
 refine K9.calls ?_
 rw[K9.b0_eq]
 refine A0 rfl (A0 (v:=.ptr id (0+1)) rfl ?_)
 refine A0 (v:=.pv (.bool s.e)) (by rw[ul ho];rfl) (E5 ?_)
 refine A4 (fun g=>D5 ?_) (fun g=>?_)
 ·rw[g,gy,if_pos g,wd ho] at hR
  exact hR
 ·refine A0 rfl (A0 (v:=.ptr id (0+0)) rfl ?_)
  refine A0 (v:=.pv (.int .i64 s.n)) (by rw[ul ho];rfl) (G2 ?_)
  refine A0 rfl (A0 (v:=.ptr id (0+0)) rfl ?_)
  refine A0 (store_cells ho rfl rfl (by simp[AV.cells,PV.cells])) ?_
  refine bz ht (E5 ?_)
  refine A0 rfl (A0 (v:=.ptr id (0+1)) rfl ?_)
  refine A0 (store_cells (List.getElem?_set_self hid) rfl rfl (by simp[AV.cells,PV.cells,P1])) ?_
  refine D6 (by simp) ?_
  rw[List.set_set]
  rw[g,gy,if_neg (by rw[g];decide)] at hR
  exact hR
theorem xf(L:Laid w0.w)(h:Hnk)(xs:List PV)(hx:xs.length≤140737488355328):∀(r:List Row) (k:Nat) (p q:Sd) (ch:Bool),xs.drop k=r.map P0→(∀ x∈r,x.t.length≤140737488355328) →
  G9.n8 (G9.X w0 0) w0 0 (fun r' _=>r'=outS (Z8 r p q ch)) [.cells 46 (hnkC h),.cells 198 (sdC p),.cells 198 (sdC q)] (.ptr 1 0) (.ptr 2 0) ch (.pv (.sl xs)) xs.length k
 | [],k,p,q,ch,hd,_=>by
  have hk:=X7 hd
  refine G9.n8_in ?_
  rw[G9.b9_eq,B0,if_neg (by omega)]
  refine G9.n37_in ?_
  rw[G9.b37_eq]
  repeat ((with_reducible first|apply A0|apply wI|apply wT|apply wP|apply wS|apply wB);exact rfl)
  exact D6 (Nat.zero_le _) rfl
 | c::r,k,p,q,ch,hd,ht=>by
  obtain ⟨h1,h2,hk⟩:=Q6 hd
  have hc:=ht c (by simp)
  have ih:=fun p' q' ch'=>xf L h xs hx r (k+1) p' q' ch' h2 (fun x hx=>ht x (List.mem_cons_of_mem _ hx))
  have key31:∀(p' q':Sd) (t:Bool),Z8 (c::r) p q ch=(if t=true then (p',q',false) else Z8 r p' q' (ch || !(c.k==1))) →
    G9.n31 (G9.X w0 0) w0 0 (fun r' _=>r'=outS (Z8 (c::r) p q ch)) [.cells 46 (hnkC h),.cells 198 (sdC p'),.cells 198 (sdC q'),.cells 79 [.pv (.int .i64 c.k),.pv (.str c.t)]] (.ptr 1 0) (.ptr 2 0) (ch || !(c.k==1)) (.pv (.sl xs)) xs.length k t:=by
   intro p' q' t he
   rw[he]
   refine G9.n31_in ?_
   rw[G9.b31_eq]
   refine A4 (fun g=>?_) (fun g=>?_)
   ·rw[if_pos g]
    repeat ((with_reducible first|apply A0|apply wI|apply wT|apply wP|apply wS|apply wB);exact rfl)
    exact D6 (Nat.zero_le _) rfl
   ·rw[if_neg (by rw[g];decide),K6 hk (by omega)]
    exact G9.n8_weak (N2.drop (τ:=[.cells 46 (hnkC h),.cells 198 (sdC p'),.cells 198 (sdC q')]) L5 (Nat.zero_le _) rfl rfl) (ih _ _ _)
  have key29:dn c.k=true→bv c.t=true → ∀ch',ch'=(ch || !(c.k==1))→G9.n29 (G9.X w0 0) w0 0 (fun r' _=>r'=outS (Z8 (c::r) p q ch)) [.cells 46 (hnkC h),.cells 198 (sdC p),.cells 198 (sdC q),.cells 79 [.pv (.int .i64 c.k),.pv (.str c.t)]] (.ptr 1 0) (.ptr 2 0) ch' (.ptr 3 0) (.pv (.sl xs)) xs.length k:=by
   rintro gk gl ch' rfl
   have hs:Z8 (c::r) p q ch=if c.k≠3∧p.e=true then (p,q,false) else if c.k≠2∧q.e=true then (if c.k≠3 then gy p c.t else p,q,false) else
     Z8 r (if c.k≠3 then gy p c.t else p) (if c.k≠2 then gy q c.t else q) (ch || !(c.k==1)):=by
    rw[Z8,if_pos ⟨gk,gl⟩]
   refine G9.n29_in ?_
   rw[G9.b29_eq]
   repeat ((with_reducible first|apply A0|apply wI|apply wT|apply wP|apply wS|apply wB);exact rfl)
   rw[T7]
   refine B5 (fun g3=>?_) (fun g3=>?_)
   ·-- a new line alone
    repeat ((with_reducible first|apply A0|apply wI|apply wT|apply wP|apply wS|apply wB);exact rfl)
    rw[T7,if_neg (by omega)]
    repeat ((with_reducible first|apply A0|apply wI|apply wT|apply wP|apply wS|apply wB);exact rfl)
    refine ip (id:=2) (s:=q) rfl hc (E5 ?_)
    rw[Bool.not_not]
    refine key31 p (gy q c.t) q.e ?_
    rw[hs]
    cases hq:q.e<;>simp[g3,hq,gy]
   ·repeat ((with_reducible first|apply A0|apply wI|apply wT|apply wP|apply wS|apply wB);exact rfl)
    refine ip (id:=1) (s:=p) rfl hc (E5 ?_)
    rw[Bool.not_not]
    refine A4 (fun ge=>?_) (fun ge=>?_)
    ·refine key31 (gy p c.t) q true ?_
     rw[hs]
     simp[g3,ge,gy]
    ·repeat ((with_reducible first|apply A0|apply wI|apply wT|apply wP|apply wS|apply wB);exact rfl)
     rw[T7]
     refine B5 (fun g2=>?_) (fun g2=>?_)
     ·refine key31 (gy p c.t) q false ?_
      rw[hs]
      simp[ge,g2,gy]
     ·repeat ((with_reducible first|apply A0|apply wI|apply wT|apply wP|apply wS|apply wB);exact rfl)
      refine ip (id:=2) (s:=q) rfl hc (E5 ?_)
      rw[Bool.not_not]
      refine key31 (gy p c.t) (gy q c.t) q.e ?_
      rw[hs]
      cases hq:q.e<;>simp[g3,g2,ge,hq,gy]
  have key22:∀t,t = !(dn c.k&&bv c.t)→G9.n22 (G9.X w0 0) w0 0 (fun r' _=>r'=outS (Z8 (c::r) p q ch)) [.cells 46 (hnkC h),.cells 198 (sdC p),.cells 198 (sdC q),.cells 79 [.pv (.int .i64 c.k),.pv (.str c.t)]] (.ptr 1 0) (.ptr 2 0) ch (.ptr 3 0) (.pv (.sl xs)) xs.length k t:=by
   rintro t rfl
   refine G9.n22_in ?_
   rw[G9.b22_eq,E9]
   refine A4 (fun g=>?_) (fun g=>?_)
   ·rw[Bool.and_eq_true] at g
    refine A4 (fun g2=>key29 g.1 g.2 _ ?_) (fun g2=>?_)
    ·rw[g2];rfl
    ·repeat ((with_reducible first|apply A0|apply wI|apply wT|apply wP|apply wS|apply wB);exact rfl)
     refine key29 g.1 g.2 _ ?_
     rw[g2];rfl
   ·repeat ((with_reducible first|apply A0|apply wI|apply wT|apply wP|apply wS|apply wB);exact rfl)
    refine D6 (Nat.zero_le _) ?_
    rw[Z8,if_neg (fun h=>by rw[h.1,h.2] at g;cases g)]
    rfl
  refine G9.n8_in ?_
  rw[G9.b9_eq,B0,if_pos (by omega)]
  refine A0 (T6 tab79 h1 rfl) ?_
  repeat ((with_reducible first|apply A0|apply wI|apply wT|apply wP|apply wS|apply wB);exact rfl)
  rw[B0]
  refine B5 (fun g=>key22 _ ?_) (fun g=>?_)
  ·have:dn c.k=false:=by simp[dn];omega
   rw[this];rfl
  repeat ((with_reducible first|apply A0|apply wI|apply wT|apply wP|apply wS|apply wB);exact rfl)
  rw[B0]
  refine B5 (fun g'=>key22 _ ?_) (fun g'=>?_)
  ·have:dn c.k=false:=by simp[dn];omega
   rw[this];rfl
  repeat ((with_reducible first|apply A0|apply wI|apply wT|apply wP|apply wS|apply wB);exact rfl)
  refine line_spec hc (E5 (key22 _ ?_))
  have:dn c.k=true:=by simp[dn];omega
  rw[this,Bool.true_and]
theorem sides_spec(L:Laid w0.w){h:Hnk}(hl:h.rows.length≤140737488355328)(ht:∀x∈h.rows,x.t.length≤140737488355328)(hR:R (outS (Z8 h.rows ⟨0,false⟩ ⟨0,false⟩ false)) σ):A2 (cx w0) G9.id [.pv (O2 h)] σ R:=by
 refine A2.alone L rfl (fun w1 L1=>?_) rfl hR
 refine G9.calls ?_
 rw[G9.b0_eq]
 refine ⟨rfl,?_⟩
 repeat ((with_reducible first|apply A0|apply wI|apply wT|apply wP|apply wS|apply wB);exact rfl)
 exact xf L1 h (h.rows.map P0) (by simpa using hl) h.rows 0 ⟨0,false⟩ ⟨0,false⟩ false rfl ht
def vErr(b:Bool):AV:=if b=true then .pv (.raw .nilIface) else .pv (.iface 61 (.int .i64 100))
theorem pf(L:Laid w0.w){h:Hnk}(hl:h.rows.length≤140737488355328)(ht:∀x∈h.rows,x.t.length≤140737488355328)(hh:h.head.length≤140737488355328)(ha:-9223372036854775808≤h.a∧h.a≤9223372036854775807)(hb:-9223372036854775808≤h.b∧h.b≤9223372036854775807)(hR:R (vErr (T1 h)) σ):A2 (cx w0) M0.id [.pv (O2 h)] σ R:=by
 refine A2.alone L rfl (fun w1 L1=>?_) (by unfold vErr;split<;>rfl) hR
 obtain ⟨s1,s2⟩:=sides_same h.rows ⟨0,false⟩ ⟨0,false⟩ false
 have c1:=vl ko h.rows 0 (by omega) (by omega)
 have c2:=vl kn h.rows 0 (by omega) (by omega)
 have key:∀S t,t = !T1 h→M0.n7 (M0.X w1 0) w1 0 (fun r' _=>r'=vErr (T1 h)) S t:=by
  rintro S t rfl
  refine M0.n7_in ?_
  rw[M0.b7_eq,E9]
  refine A4 (fun g=>D6 (Nat.zero_le _) ?_) (fun g=>A0 rfl (D6 (Nat.zero_le _) ?_))
  ·rw[g];rfl
  ·rw[g];rfl
 refine M0.calls ?_
 rw[M0.b0_eq]
 refine ⟨rfl,?_⟩
 repeat ((with_reducible first|apply A0|apply wI|apply wT|apply wP|apply wS|apply wB);exact rfl)
 refine sides_spec L1 hl ht ?_
 repeat ((with_reducible first|apply A0|apply wI|apply wT|apply wP|apply wS|apply wB);exact rfl)
 rw[E9]
 refine A4 (fun g1=>?_) (fun g1=>key _ _ ?_)
 ·have g1':vr h.rows false false false=true:=by rw[← s1];exact g1
  obtain ⟨e1,e2⟩:=s2 g1'
  repeat ((with_reducible first|apply A0|apply wI|apply wT|apply wP|apply wS|apply wB);exact rfl)
  rw[T7]
  refine B5 (fun g2=>?_) (fun g2=>key _ _ ?_)
  ·repeat ((with_reducible first|apply A0|apply wI|apply wT|apply wP|apply wS|apply wB);exact rfl)
   rw[T7]
   refine B5 (fun g3=>?_) (fun g3=>key _ _ ?_)
   ·have n1:h.n=nv ko h.rows 0:=by rw[← g2];exact e1
    have n2:h.m=nv kn h.rows 0:=by rw[← g3];exact e2
    repeat ((with_reducible first|apply A0|apply wI|apply wT|apply wP|apply wS|apply wB);exact rfl)
    refine aj (E5 ?_)
    rw[E9,n1,tm c1.1 (by omega) ha.1 ha.2]
    refine A4 (fun g4=>?_) (fun g4=>key _ _ ?_)
    ·repeat ((with_reducible first|apply A0|apply wI|apply wT|apply wP|apply wS|apply wB);exact rfl)
     refine aj (E5 ?_)
     rw[E9,n2,tm c2.1 (by omega) hb.1 hb.2]
     refine A4 (fun g5=>?_) (fun g5=>key _ _ ?_)
     ·repeat ((with_reducible first|apply A0|apply wI|apply wT|apply wP|apply wS|apply wB);exact rfl)
      rw[B0]
      refine B5 (fun g6=>key _ _ ?_) (fun g6=>?_)
      ·have:decide (h.head.length≤4096)=false:=by simp;omega
       simp[T1,this]
      ·repeat ((with_reducible first|apply A0|apply wI|apply wT|apply wP|apply wS|apply wB);exact rfl)
       refine ba (E5 (key _ _ ?_))
       have:decide (h.head.length≤4096)=true:=by simp;omega
       simp[T1,g1',←n1,←n2,this]
       rw[← n1] at g4
       rw[← n2] at g5
       simp[g4,g5]
     ·simp[T1,g5]
    ·simp[T1,g4]
   ·have:(h.m==nv kn h.rows 0)=false:=beq_false_of_ne fun e=>g3 (by rw[e];exact e2)
    simp[T1,this]
  ·have:(h.n==nv ko h.rows 0)=false:=beq_false_of_ne fun e=>g2 (by rw[e];exact e1)
   simp[T1,this]
 ·have:vr h.rows false false false=false:=by rw[← s1];exact g1
  simp[T1,this]
end
end
end Go.Sv
end
section
namespace Go.Sv.U
section
open Go Go.RowKit
abbrev nmP(p s:List UInt8):PV:=.agg [.str p,.str s]
def sc(a n:Int):Int:=if n=0 then a else IntKind.wrap .i64 (a-1)
def ordB(g h:Hnk):Bool:=decide (sc h.a h.n≥IntKind.wrap .i64 (sc g.a g.n+g.n))&&decide (sc h.b h.m≥IntKind.wrap .i64 (sc g.b g.m+g.m))
end
section
open Go Go.RowKit Go.Proofs
variable {w0:B4}{σ:A1}{R:AV→A1→Prop}
theorem gx{a n:Int}(hR:R (.pv (.int .i64 (sc a n))) σ):A2 (cx w0) O7.id [.pv (.int .i64 a),.pv (.int .i64 n)] σ R:=by
 refine O7.calls ?_
 rw[O7.b0_eq,G6]
 unfold sc at hR
 refine B5 (fun g=>?_) (fun g=>?_)
 ·rw[if_pos g] at hR;exact D5 hR
 ·rw[if_neg g] at hR;exact D5 hR
theorem js(L:Laid w0.w){g h:Hnk}(hR:R (.pv (.bool (ordB g h))) σ):A2 (cx w0) J1.id [.pv (O2 g),.pv (O2 h)] σ R:=by
 refine A2.alone L rfl (fun w1 L1=>?_) rfl hR
 have fin:∀t,t=ordB g h→J1.n4 (J1.X w1 0) w1 0 (fun r' _=>r' = .pv (.bool (ordB g h))) [.cells 46 (hnkC g),.cells 46 (hnkC h)] t:=by
  rintro t rfl
  refine J1.n4_in ?_
  rw[J1.b4_eq]
  exact D6 (Nat.zero_le _) rfl
 refine J1.calls ?_
 rw[J1.b0_eq]
 refine ⟨rfl,rfl,?_⟩
 repeat ((with_reducible first|apply A0|apply wI|apply wT|apply wP|apply wS|apply wB);exact rfl)
 refine gx (G2 ⟨rfl,rfl,rfl,?_⟩)
 refine gx (G2 ⟨rfl,?_⟩)
 refine A4 (fun g1=>?_) (fun g1=>fin _ ?_)
 ·repeat ((with_reducible first|apply A0|apply wI|apply wT|apply wP|apply wS|apply wB);exact rfl)
  refine gx (G2 ⟨rfl,rfl,rfl,?_⟩)
  refine gx (G2 ⟨rfl,fin _ ?_⟩)
  rw[ordB,g1];rfl
 ·rw[ordB,g1];rfl
end
end Go.Sv.U
end
