/- Hunks and their rows, as plain data: what the code asks of them, on both sides. The document's answer for hunks (selvageref10.Valid and what it calls): what it answers. The program's hunks.Valid and what it calls: what it answers. -/
import Derived.Test.YtebgkjjbbnbnlaaGreatDoorSvY
import Derived.Lib.Strings
import Derived.Lib.IndexAny
import Derived.Test.YtebgkjjbbnbnlaaGreatDoorStI
import Derived.Test.YtebgkjjbbnbnlaaGreatDoorFnG
set_option linter.unusedVariables false
set_option linter.unusedSimpArgs false
set_option maxRecDepth 100000
namespace Go.Sv
section
open Go Go.RowKit
structure Row where
 k:Int
 t:List UInt8
abbrev I3(r:Row):PV:=.agg [.int .i64 r.k,.str r.t]
structure Hnk where
 a:Int
 n:Int
 b:Int
 m:Int
 head:List UInt8
 rows:List Row
abbrev M8(l:List Row):PV:=.sl (l.map I3)
abbrev K6(h:Hnk):PV:=.agg [.int .i64 h.a,.int .i64 h.n,.int .i64 h.b,.int .i64 h.m,.str h.head,M8 h.rows]
abbrev cg(l:List Hnk):AV:=.pv (.sl (l.map K6))
def L6(s:List UInt8):Bool:=match s.getLast? with
 | some c=>c==10
 | none=>false
def X1(s:List UInt8):Bool:=!(s == []) && !(s.dropLast.contains 10)
def N7(s:List UInt8):List UInt8:=if L6 s=true then s.dropLast else s
theorem ui(s:List UInt8):Lib.hasSuffix s [10]=L6 s:=by
 rcases List.eq_nil_or_concat s with rfl|⟨p,c,rfl⟩
 ·rfl
 ·simp only[Lib.hasSuffix,List.concat_eq_append,L6,List.getLast?_append,List.getLast?_singleton,Option.some_or]
  rw[Bool.eq_iff_iff,List.isSuffixOf_iff_suffix,beq_iff_eq]
  constructor
  ·rintro ⟨t,h⟩
   have:=List.append_inj' h rfl
   exact (List.cons.inj this.2).1.symm
  ·rintro rfl;exact ⟨p,rfl⟩
theorem Ty(s:List UInt8):Lib.trimSuffix s [10]=N7 s:=by
 unfold Lib.trimSuffix N7
 rw[ui]
 split
 ·rw[List.dropLast_eq_take];rfl
 ·rfl
theorem Sy(s:List UInt8):(!(s == []) && !(decide (0≤Lib.indexByte (N7 s) 10)))=X1 s:=by
 rw[← Lib.contains_iff_indexByte]
 unfold X1 N7
 rcases List.eq_nil_or_concat s with rfl|⟨p,c,rfl⟩
 ·rfl
 ·rw[List.concat_eq_append]
  have hw:L6 (p ++ [c])=(c==10):=by simp[L6]
  rw[hw]
  by_cases h:c=10
  ·subst h;simp
  ·rw[if_neg (by simpa using h)]
   simp[List.dropLast_concat,Ne.symm h]
def V3(k:Int):Bool:=k==1||k==2
def U3(k:Int):Bool:=k==1||k==3
def lh(r:Row)(e o:Bool):Bool:=(!V3 r.k && !U3 r.k) || !X1 r.t||(V3 r.k&&e)||(U3 r.k&&o)
def Y6:List Row→Bool→Bool→Bool→Bool
 | [],_,_,c=>c
 | r::l,e,o,c=>if lh r e o=true then false else Y6 l (e||(!L6 r.t&&V3 r.k)) (o||(!L6 r.t&&U3 r.k)) (c || !(r.k==1))
def Y9(f:Int→Bool):List Row→Int→Int
 | [],n=>n
 | r::l,n=>Y9 f l (if f r.k=true then IntKind.wrap .i64 (n+1) else n)
structure Sd where
 n:Int
 e:Bool
abbrev sdA(s:Sd):AV:=.pv (.agg [.int .i64 s.n,.bool s.e])
def ld(s:Sd)(t:List UInt8):Sd:=if s.e=true then s else ⟨IntKind.wrap .i64 (s.n+1),!L6 t⟩
def gm(k:Int):Bool:=decide (1≤k)&&decide (k≤3)
def cj:List Row→Sd→Sd→Bool→Sd×Sd×Bool
 | [],p,q,c=>(p,q,c)
 | r::l,p,q,c=>
  if gm r.k=true∧X1 r.t=true then
   if r.k≠3∧p.e=true then (p,q,false) else
   if r.k≠2∧q.e=true then (if r.k≠3 then ld p r.t else p,q,false) else
   cj l (if r.k≠3 then ld p r.t else p) (if r.k≠2 then ld q r.t else q) (c || !(r.k==1))
  else (p,q,false)
def Vm(x:Sd×Sd×Bool):AV:=.tup [sdA x.1,sdA x.2.1,.pv (.bool x.2.2)]
theorem Ov{k:Int}(h:gm k=true):k=1∨k=2∨k=3:=by
 simp[gm] at h;omega
theorem Cl:∀(l:List Row) (p q:Sd) (c:Bool),(cj l p q c).2.2=Y6 l p.e q.e c∧(Y6 l p.e q.e c=true→(cj l p q c).1.n=Y9 V3 l p.n∧(cj l p q c).2.1.n=Y9 U3 l q.n)
 | [],p,q,c=>⟨rfl,fun _=>⟨rfl,rfl⟩⟩
 | r::l,p,q,c=>by
  unfold cj Y6 Y9
  by_cases h1:gm r.k=true∧X1 r.t=true
  ·rw[if_pos h1]
   obtain ⟨hk,hl⟩:=h1
   have ih:=Cl l (if r.k≠3 then ld p r.t else p) (if r.k≠2 then ld q r.t else q) (c || !(r.k==1))
   rcases Ov hk with e|e|e<;>cases hp:p.e<;>cases hq:q.e<;>simp[e,lh,V3,U3,hl,hp,hq,ld] at ih ⊢
   all_goals exact ih
  ·rw[if_neg h1]
   have:lh r p.e q.e=true:=by
    unfold lh
    by_cases hl:X1 r.t=true
    ·have hk:gm r.k=false:=by
      cases h:gm r.k with
      | false=>rfl
      | true=>exact absurd ⟨h,hl⟩ h1
     have h2:V3 r.k=false:=by
      simp[gm] at hk;simp[V3];omega
     have h3:U3 r.k=false:=by
      simp[gm] at hk;simp[U3];omega
     simp[h2,h3]
    ·simp[hl]
   rw[if_pos this]
   exact ⟨rfl,fun h=>by cases h⟩
theorem fh(f:Int→Bool):∀(l:List Row) (n:Int),0≤n→n+l.length≤9223372036854775807→n≤Y9 f l n∧Y9 f l n≤n+l.length
 | [],n,_,_=>by simp[Y9]
 | r::l,n,h0,h1=>by
  unfold Y9
  simp only[List.length_cons] at h1 ⊢
  split
  ·rw[F8 (by omega) (by omega)]
   have:=fh f l (n+1) (by omega) (by omega)
   omega
  ·have:=fh f l n h0 (by omega)
   omega
def ir(a n:Int):Bool:=decide (0≤n)&&decide (0≤a)&&(decide (0<a)||n==0)&&decide (a≤2147483647)&&decide (n≤IntKind.wrap .i64 (2147483647-a))
def ez(a n:Int):Bool:=decide ((if n=0 then 0 else 1)≤a)&&decide (a≤IntKind.wrap .i64 (2147483647-n))
theorem xl{a n:Int}(h0:0≤n)(h1:n≤9223372036854775807)(a0:-9223372036854775808≤a)(a1:a≤9223372036854775807):ir a n=ez a n:=by
 unfold ir ez
 rw[F8 (n:=2147483647-n) (by omega) (by omega)]
 by_cases ha:0≤a
 ·rw[F8 (n:=2147483647-a) (by omega) (by omega)]
  rw[Bool.eq_iff_iff]
  simp only[Bool.and_eq_true,Bool.or_eq_true,decide_eq_true_eq,beq_iff_eq]
  split<;>omega
 ·have e1:decide (0≤a)=false:=by simpa using ha
  rw[e1]
  rw[Bool.eq_iff_iff]
  simp only[Bool.and_eq_true,Bool.or_eq_true,decide_eq_true_eq,beq_iff_eq,Bool.and_false,Bool.false_and]
  split<;>simp<;>omega
def J2(h:Hnk):Bool:=Y6 h.rows false false false&&h.n==Y9 V3 h.rows 0&&h.m==Y9 U3 h.rows 0&&ez h.a (Y9 V3 h.rows 0)&&ez h.b (Y9 U3 h.rows 0)&&decide (h.head.length≤4096) && !h.head.contains 10
end
section
open Go Go.RowKit Go.Proofs
theorem qa(c:UInt8):((c.toNat:Int)=10)↔c=10:=by
 constructor
 ·intro h
  have h':c.toNat=(10:UInt8).toNat:=by simpa using (by omega:c.toNat=10)
  exact UInt8.toNat_inj.1 h'
 ·rintro rfl;rfl
section
variable {w0:B5}{σ:A2}{R:AV→A2→Prop}
theorem nz(L:Laid w0.w){r:Row}(hR:R (.pv (.bool (V3 r.k))) σ):A1 (cx w0) K4.id [.pv (I3 r)] σ R:=by
 refine A1.alone L rfl (fun w1 L1=>?_) rfl hR
 have fin:∀σ' t,t=V3 r.k→K4.n4 (K4.X w1 0) w1 0 (fun r' _=>r' = .pv (.bool (V3 r.k))) σ' t:=by
  rintro σ' t rfl
  refine K4.n4_in ?_
  rw[K4.b4_eq]
  exact C4 (Nat.zero_le _) rfl
 refine K4.calls ?_
 rw[K4.b0_eq]
 refine ⟨rfl,?_⟩
 repeat ((with_reducible first|apply A0|apply wI|apply wT|apply wP|apply wS|apply wB);exact rfl)
 refine A7 (fun h=>fin _ _ ?_) (fun h=>?_)
 ·rw[V3,h];rfl
 ·repeat ((with_reducible first|apply A0|apply wI|apply wT|apply wP|apply wS|apply wB);exact rfl)
  refine fin _ _ ?_
  rw[V3,h];rfl
theorem jb(L:Laid w0.w){r:Row}(hR:R (.pv (.bool (U3 r.k))) σ):A1 (cx w0) H3.id [.pv (I3 r)] σ R:=by
 refine A1.alone L rfl (fun w1 L1=>?_) rfl hR
 have fin:∀σ' t,t=U3 r.k→H3.n4 (H3.X w1 0) w1 0 (fun r' _=>r' = .pv (.bool (U3 r.k))) σ' t:=by
  rintro σ' t rfl
  refine H3.n4_in ?_
  rw[H3.b4_eq]
  exact C4 (Nat.zero_le _) rfl
 refine H3.calls ?_
 rw[H3.b0_eq]
 refine ⟨rfl,?_⟩
 repeat ((with_reducible first|apply A0|apply wI|apply wT|apply wP|apply wS|apply wB);exact rfl)
 refine A7 (fun h=>fin _ _ ?_) (fun h=>?_)
 ·rw[U3,h];rfl
 ·repeat ((with_reducible first|apply A0|apply wI|apply wT|apply wP|apply wS|apply wB);exact rfl)
  refine fin _ _ ?_
  rw[U3,h];rfl
theorem Cd(s:List UInt8)(hs:s.length≤140737488355328):∀(r:List UInt8) (k:Nat),s.drop k=r→R (.pv (.bool (!(s == []) && !(r.dropLast.contains 10)))) σ→G0.n6 (G0.X w0 σ.length) w0 σ.length R σ s k
 | [],k,h,hR=>by
  have hk:=N5 h
  refine G0.n6_in ?_
  rw[G0.b7_eq,A8,F8 (by omega) (by omega),if_neg (by omega)]
  refine G0.n23_in ?_
  rw[G0.b23_eq]
  refine P8 ?_
  simpa using hR
 | [c],k,h,hR=>by
  obtain ⟨h1,h2,hk⟩:=G7 h
  have:=N5 h2
  refine G0.n6_in ?_
  rw[G0.b7_eq,A8,F8 (by omega) (by omega),if_neg (by omega)]
  refine G0.n23_in ?_
  rw[G0.b23_eq]
  refine P8 ?_
  simpa using hR
 | c::d::r,k,h,hR=>by
  obtain ⟨h1,h2,hk⟩:=G7 h
  obtain ⟨_,_,hk2⟩:=G7 h2
  refine G0.n6_in ?_
  rw[G0.b7_eq,A8,F8 (by omega) (by omega),if_pos (by omega)]
  refine A0 (R4 h1) (L3 ?_)
  rw[H6]
  simp only[List.dropLast_cons_cons,List.contains_cons] at hR
  refine B6 (fun g=>P8 ?_) (fun g=>?_)
  ·rw[(qa c).1 g] at hR
   simpa using hR
  ·rw[qa] at g
   have e:((10:UInt8)==c)=false:=beq_false_of_ne (Ne.symm g)
   rw[e,Bool.false_or] at hR
   rw[J3 hk (by omega)]
   exact Cd s hs (d::r) (k+1) h2 hR
theorem Ee{s:List UInt8}(hs:s.length≤140737488355328)(hR:R (.pv (.bool (X1 s))) σ):A1 (cx w0) G0.id [.pv (.str s)] σ R:=by
 refine G0.calls ?_
 rw[G0.b0_eq]
 exact Cd s hs s 0 rfl hR
theorem Ku{s:List UInt8}(hs:s.length≤140737488355328)(hR:R (.pv (.bool (L6 s))) σ):A1 (cx w0) M1.id [.pv (.str s)] σ R:=by
 have fin:∀t,t=L6 s→M1.n4 (M1.X w0 σ.length) w0 σ.length R σ t:=by
  rintro t rfl
  refine M1.n4_in ?_
  rw[M1.b4_eq]
  exact P8 hR
 refine M1.calls ?_
 rw[M1.b0_eq,A8]
 refine B6 (fun h=>?_) (fun h=>fin _ ?_)
 ·have hp:0<s.length:=by omega
  rw[F8 (by omega) (by omega),show ((s.length:Int)-1)=((s.length-1:Nat):Int) by omega]
  have hl:s[s.length-1]? = some (s.getLast (List.length_pos_iff.1 hp)):=by
   rw[List.getLast_eq_getElem];exact List.getElem?_eq_getElem _
  refine A0 (R4 hl) (L3 (fin _ ?_))
  unfold L6
  rw[List.getLast?_eq_some_getLast (List.length_pos_iff.1 hp)]
  rw[Bool.eq_iff_iff,beq_iff_eq,beq_iff_eq]
  exact qa _
 ·have:s = []:=List.length_eq_zero_iff.1 (by omega)
  subst this;rfl
theorem yz(L:Laid w0.w)(xs:List PV)(hx:xs.length≤140737488355328):∀(r:List Row) (k:Nat) (a b:Int),xs.drop k=r.map I3→R (.tup [.pv (.int .i64 (Y9 V3 r a)),.pv (.int .i64 (Y9 U3 r b))]) σ→D9.n8 (D9.X w0 σ.length) w0 σ.length R σ (.pv (.sl xs)) a b k
 | [],k,a,b,h,hR=>by
  have hk:=N5 h
  refine D9.n8_in ?_
  rw[D9.b9_eq]
  repeat ((with_reducible first|apply A0|apply wI|apply wT|apply wP|apply wS|apply wB);exact rfl)
  rw[A8,if_neg (by omega)]
  refine D9.n29_in ?_
  rw[D9.b29_eq]
  exact P8 hR
 | c::r,k,a,b,h,hR=>by
  obtain ⟨h1,h2,hk⟩:=G7 h
  have idx:B9 σ B2 R7.td (.pv (.sl xs)) (k:Int)=some (.ro (I3 c) 0):=O1 df h1 rfl
  simp only[Y9] at hR
  refine D9.n8_in ?_
  rw[D9.b9_eq]
  repeat ((with_reducible first|apply A0|apply wI|apply wT|apply wP|apply wS|apply wB);exact rfl)
  rw[A8,if_pos (by omega)]
  refine A0 idx ?_
  repeat ((with_reducible first|apply A0|apply wI|apply wT|apply wP|apply wS|apply wB);exact rfl)
  refine nz L (F0 ?_)
  have next:∀a',a'=(if V3 c.k=true then IntKind.wrap .i64 (a+1) else a)→D9.n23 (D9.X w0 σ.length) w0 σ.length R σ (.pv (.sl xs)) a' b k:=by
   rintro a' rfl
   refine D9.n23_in ?_
   rw[D9.b23_eq]
   refine A0 idx ?_
   repeat ((with_reducible first|apply A0|apply wI|apply wT|apply wP|apply wS|apply wB);exact rfl)
   refine jb L (F0 ?_)
   have next2:∀b',b'=(if U3 c.k=true then IntKind.wrap .i64 (b+1) else b)→D9.n28 (D9.X w0 σ.length) w0 σ.length R σ (.pv (.sl xs)) (if V3 c.k=true then IntKind.wrap .i64 (a+1) else a) b' k:=by
    rintro b' rfl
    refine D9.n28_in ?_
    rw[D9.b28_eq,J3 hk (by omega)]
    exact yz L xs hx r (k+1) _ _ h2 hR
   exact A7 (fun g=>next2 _ (by rw[if_pos g])) (fun g=>next2 _ (by rw[if_neg (by rw[g];decide)]))
  exact A7 (fun g=>next _ (by rw[if_pos g])) (fun g=>next _ (by rw[if_neg (by rw[g];decide)]))
theorem Kz(L:Laid w0.w){l:List Row}(hl:l.length≤140737488355328)(hR:R (.tup [.pv (.int .i64 (Y9 V3 l 0)),.pv (.int .i64 (Y9 U3 l 0))]) σ):A1 (cx w0) D9.id [.pv (M8 l)] σ R:=by
 refine D9.calls ?_
 rw[D9.b0_eq]
 exact yz L (l.map I3) (by simpa using hl) l 0 0 0 rfl hR
abbrev jq(h:Hnk):List AV:=[.pv (.int .i64 h.a),.pv (.int .i64 h.n),.pv (.int .i64 h.b),.pv (.int .i64 h.m),.pv (.str h.head),.pv (M8 h.rows)]
theorem Bh{a m:Int}(hR:R (.pv (.bool (ez a m))) σ):A1 (cx w0) I0.id [.pv (.int .i64 a),.pv (.int .i64 m)] σ R:=by
 have fin:∀t,t=ez a m→I0.n12 (I0.X w0 σ.length) w0 σ.length R σ t:=by
  rintro t rfl
  refine I0.n12_in ?_
  rw[I0.b12_eq]
  exact P8 hR
 have mid:∀x:Int,x=(if m=0 then 0 else 1)→I0.n10 (I0.X w0 σ.length) w0 σ.length R σ a m x:=by
  rintro x rfl
  refine I0.n10_in ?_
  rw[I0.b10_eq]
  refine A7 (fun g=>fin _ ?_) (fun g=>fin _ ?_)
  ·have g':decide ((if m=0 then (0:Int) else 1)≤a)=true:=g
   rw[ez,g',Bool.true_and]
  ·have g':decide ((if m=0 then (0:Int) else 1)≤a)=false:=g
   rw[ez,g',Bool.false_and]
 refine I0.calls ?_
 rw[I0.b0_eq,H6]
 exact B6 (fun g=>mid _ (by rw[if_pos g])) (fun g=>mid _ (by rw[if_neg g]))
theorem Ds(L:Laid w0.w)(xs:List PV)(hx:xs.length≤140737488355328):∀(r:List Row) (k:Nat) (e o ch:Bool),xs.drop k=r.map I3→(∀ x∈r,x.t.length≤140737488355328) →
  C8.n8 (C8.X w0 0) w0 0 (fun r' _=>r' = .pv (.bool (Y6 r e o ch))) [] (.pv (.sl xs)) e o ch k
 | [],k,e,o,ch,h,_=>by
  have hk:=N5 h
  refine C8.n8_in ?_
  rw[C8.b9_eq]
  repeat ((with_reducible first|apply A0|apply wI|apply wT|apply wP|apply wS|apply wB);exact rfl)
  rw[A8,if_neg (by omega)]
  refine C8.n35_in ?_
  rw[C8.b35_eq]
  exact C4 (Nat.zero_le _) rfl
 | c::r,k,e,o,ch,h,ht=>by
  obtain ⟨h1,h2,hk⟩:=G7 h
  have hc:=ht c (by simp)
  have idx:B9 [] B2 R7.td (.pv (.sl xs)) (k:Int)=some (.ro (I3 c) 0):=O1 df h1 rfl
  have ih:=fun e' o' ch'=>Ds L xs hx r (k+1) e' o' ch' h2 (fun x hx=>ht x (List.mem_cons_of_mem _ hx))
  have key:∀t,t=lh c e o→C8.n22 (C8.X w0 0) w0 0 (fun r' _=>r' = .pv (.bool (Y6 (c::r) e o ch))) [.cells 51 [.pv (.int .i64 c.k),.pv (.str c.t)]] (.pv (.sl xs)) e o ch k (.ptr 0 0) t:=by
   rintro t rfl
   refine C8.n22_in ?_
   rw[C8.b22_eq]
   refine A7 (fun hb=>C4 (Nat.zero_le _) ?_) (fun hb=>?_)
   ·simp only[Y6,if_pos hb]
   have hr:Y6 (c::r) e o ch=Y6 r (e||(!L6 c.t&&V3 c.k)) (o||(!L6 c.t&&U3 c.k)) (ch || !(c.k==1)):=by
    simp only[Y6,hb];rfl
   rw[hr]
   have f34:∀ch',ch'=(ch || !(c.k==1)) → ∀o' e',C8.n34 (C8.X w0 0) w0 0 (fun r' _=>r' = .pv (.bool (Y6 r e' o' (ch || !(c.k==1))))) [.cells 51 [.pv (.int .i64 c.k),.pv (.str c.t)]] (.pv (.sl xs)) e' o' ch' k:=by
    rintro ch' rfl o' e'
    refine C8.n34_in ?_
    rw[C8.b34_eq,J3 hk (by omega)]
    exact C8.n8_weak (M5.drop (τ:=[]) O3 (Nat.zero_le _) rfl rfl) (ih _ _ _)
   have f33:∀o',o'=(o||(!L6 c.t&&U3 c.k)) → ∀e',C8.n33 (C8.X w0 0) w0 0 (fun r' _=>r' = .pv (.bool (Y6 r e' (o||(!L6 c.t&&U3 c.k)) (ch || !(c.k==1))))) [.cells 51 [.pv (.int .i64 c.k),.pv (.str c.t)]] (.pv (.sl xs)) e' o' ch k (.ptr 0 0):=by
    rintro o' rfl e'
    refine C8.n33_in ?_
    rw[C8.b33_eq]
    refine A7 (fun g=>f34 _ ?_ _ _) (fun g=>?_)
    ·rw[g];rfl
    ·repeat ((with_reducible first|apply A0|apply wI|apply wT|apply wP|apply wS|apply wB);exact rfl)
     refine f34 _ ?_ _ _
     rw[g];rfl
   have f31:∀e',e'=(e||(!L6 c.t&&V3 c.k))→C8.n31 (C8.X w0 0) w0 0 (fun r' _=>r' = .pv (.bool (Y6 r (e||(!L6 c.t&&V3 c.k)) (o||(!L6 c.t&&U3 c.k)) (ch || !(c.k==1))))) [.cells 51 [.pv (.int .i64 c.k),.pv (.str c.t)]] (.pv (.sl xs)) e' o ch k (.ptr 0 0) (!L6 c.t):=by
    rintro e' rfl
    refine C8.n31_in ?_
    rw[C8.b31_eq]
    refine A7 (fun g=>f33 _ ?_ _) (fun g=>?_)
    ·rw[g];rfl
    refine A7 (fun g2=>?_) (fun g2=>f33 _ ?_ _)
    ·repeat ((with_reducible first|apply A0|apply wI|apply wT|apply wP|apply wS|apply wB);exact rfl)
     refine jb L (F0 (f33 _ ?_ _))
     rw[g,g2];rfl
    ·rw[g,g2];rfl
   repeat ((with_reducible first|apply A0|apply wI|apply wT|apply wP|apply wS|apply wB);exact rfl)
   refine Ku hc (F0 ?_)
   refine A7 (fun g=>f31 _ ?_) (fun g=>?_)
   ·rw[g];rfl
   refine A7 (fun g2=>?_) (fun g2=>f31 _ ?_)
   ·repeat ((with_reducible first|apply A0|apply wI|apply wT|apply wP|apply wS|apply wB);exact rfl)
    refine nz L (F0 (f31 _ ?_))
    rw[g,g2];rfl
   ·rw[g,g2];rfl
  refine C8.n8_in ?_
  rw[C8.b9_eq]
  repeat ((with_reducible first|apply A0|apply wI|apply wT|apply wP|apply wS|apply wB);exact rfl)
  rw[A8,if_pos (by omega)]
  refine A0 idx ?_
  repeat ((with_reducible first|apply A0|apply wI|apply wT|apply wP|apply wS|apply wB);exact rfl)
  refine nz L (F0 ?_)
  rw[E3]
  refine A7 (fun g1=>?_) (fun g1=>?_)
  ·repeat ((with_reducible first|apply A0|apply wI|apply wT|apply wP|apply wS|apply wB);exact rfl)
   refine Ee hc (F0 ?_)
   rw[E3]
   refine A7 (fun gl=>?_) (fun gl=>key _ (by simp[lh,gl]))
   repeat ((with_reducible first|apply A0|apply wI|apply wT|apply wP|apply wS|apply wB);exact rfl)
   refine nz L (F0 ?_)
   rw[g1,L4]
   refine A7 (fun ge=>key _ (by simp[lh,g1,ge])) (fun ge=>?_)
   repeat ((with_reducible first|apply A0|apply wI|apply wT|apply wP|apply wS|apply wB);exact rfl)
   refine jb L (F0 ?_)
   exact A7 (fun gn=>key _ (by simp[lh,g1,ge,gn,gl])) (fun gn=>key _ (by simp[lh,g1,ge,gn,gl]))
  ·repeat ((with_reducible first|apply A0|apply wI|apply wT|apply wP|apply wS|apply wB);exact rfl)
   refine jb L (F0 ?_)
   rw[E3]
   refine A7 (fun g2=>?_) (fun g2=>key _ (by simp[lh,g1,g2]))
   repeat ((with_reducible first|apply A0|apply wI|apply wT|apply wP|apply wS|apply wB);exact rfl)
   refine Ee hc (F0 ?_)
   rw[E3]
   refine A7 (fun gl=>?_) (fun gl=>key _ (by simp[lh,gl]))
   repeat ((with_reducible first|apply A0|apply wI|apply wT|apply wP|apply wS|apply wB);exact rfl)
   refine nz L (F0 ?_)
   rw[g1,I7]
   repeat ((with_reducible first|apply A0|apply wI|apply wT|apply wP|apply wS|apply wB);exact rfl)
   refine jb L (F0 ?_)
   exact A7 (fun gn=>key _ (by simp[lh,g1,gn,gl])) (fun gn=>key _ (by simp[lh,g1,gn,gl,g2] at *))
theorem Qr(L:Laid w0.w){l:List Row}(hl:l.length≤140737488355328)(ht:∀x∈l,x.t.length≤140737488355328)(hR:R (.pv (.bool (Y6 l false false false))) σ):A1 (cx w0) C8.id [.pv (M8 l)] σ R:=by
 refine A1.alone L rfl (fun w1 L1=>?_) rfl hR
 refine C8.calls ?_
 rw[C8.b0_eq]
 exact Ds L1 (l.map I3) (by simpa using hl) l 0 _ _ _ rfl ht
def v01(b:Bool):AV:=.pv (.int .i64 (if b=true then 0 else 100))
theorem Cj(h:Hnk)(hx:h.head.length≤140737488355328):∀(r:List UInt8) (k:Nat) (ok:Bool),h.head.drop k=r →
  E7.n10 (E7.X w0 0) w0 0 (fun r' _=>r'=v01 (ok && !r.contains 10)) [.cells 39 (jq h)] (.ptr 0 0) ok k
 | [],k,ok,hd=>by
  have hk:=N5 hd
  refine E7.n10_in ?_
  rw[E7.b11_eq]
  repeat ((with_reducible first|apply A0|apply wI|apply wT|apply wP|apply wS|apply wB);exact rfl)
  rw[A8,if_neg (by omega)]
  refine E7.n21_in ?_
  rw[E7.b21_eq,E3]
  refine A7 (fun g=>C4 (Nat.zero_le _) ?_) (fun g=>C4 (Nat.zero_le _) ?_)
  ·rw[g];rfl
  ·rw[g];rfl
 | c::r,k,ok,hd=>by
  obtain ⟨h1,h2,hk⟩:=G7 hd
  have next:∀ok',ok'=(ok && !(10==c))→E7.n20 (E7.X w0 0) w0 0 (fun r' _=>r'=v01 (ok && !(c::r).contains 10)) [.cells 39 (jq h)] (.ptr 0 0) ok' k:=by
   rintro ok' rfl
   refine E7.n20_in ?_
   rw[E7.b20_eq,J3 hk (by omega)]
   have e:(ok && !(c::r).contains 10)=((ok && !(10==c)) && !r.contains 10):=by
    rw[List.contains_cons,Bool.not_or,Bool.and_assoc]
   rw[e]
   exact Cj h hx r (k+1) _ h2
  refine E7.n10_in ?_
  rw[E7.b11_eq]
  repeat ((with_reducible first|apply A0|apply wI|apply wT|apply wP|apply wS|apply wB);exact rfl)
  rw[A8,if_pos (by omega)]
  refine A7 (fun g=>?_) (fun g=>next _ ?_)
  ·repeat ((with_reducible first|apply A0|apply wI|apply wT|apply wP|apply wS|apply wB);exact rfl)
   refine A0 (R4 h1) (L3 (next _ ?_))
   rw[g,Bool.true_and]
   show (!((c.toNat:Int)==10))=_
   congr 1
   rw[Bool.eq_iff_iff,beq_iff_eq,beq_iff_eq,qa]
   exact eq_comm
  ·rw[g];rfl
theorem Lx(L:Laid w0.w){h:Hnk}(hl:h.rows.length≤140737488355328)(ht:∀x∈h.rows,x.t.length≤140737488355328)(hh:h.head.length≤140737488355328)(hR:R (v01 (J2 h)) σ):A1 (cx w0) E7.id [.pv (K6 h)] σ R:=by
 refine A1.alone L rfl (fun w1 L1=>?_) rfl hR
 have key:∀ok,ok=(Y6 h.rows false false false&&h.n==Y9 V3 h.rows 0&&h.m==Y9 U3 h.rows 0&&ez h.a (Y9 V3 h.rows 0)&&ez h.b (Y9 U3 h.rows 0)&&decide (h.head.length≤4096)) →
   E7.n6 (E7.X w1 0) w1 0 (fun r' _=>r'=v01 (J2 h)) [.cells 39 (jq h)] (.ptr 0 0) ok:=by
  rintro ok rfl
  refine E7.n6_in ?_
  rw[E7.b6_eq]
  exact Cj h hh h.head 0 _ rfl
 refine E7.calls ?_
 rw[E7.b0_eq]
 refine ⟨rfl,?_⟩
 repeat ((with_reducible first|apply A0|apply wI|apply wT|apply wP|apply wS|apply wB);exact rfl)
 refine Kz L1 hl ?_
 repeat ((with_reducible first|apply A0|apply wI|apply wT|apply wP|apply wS|apply wB);exact rfl)
 refine Qr L1 hl ht (F0 ?_)
 refine A7 (fun g1=>?_) (fun g1=>key _ (by simp[g1]))
 repeat ((with_reducible first|apply A0|apply wI|apply wT|apply wP|apply wS|apply wB);exact rfl)
 refine A7 (fun g2=>?_) (fun g2=>key _ (by simp[g1,g2]))
 repeat ((with_reducible first|apply A0|apply wI|apply wT|apply wP|apply wS|apply wB);exact rfl)
 refine A7 (fun g3=>?_) (fun g3=>key _ (by simp[g1,g2,g3]))
 repeat ((with_reducible first|apply A0|apply wI|apply wT|apply wP|apply wS|apply wB);exact rfl)
 refine Bh (F0 ?_)
 refine A7 (fun g4=>?_) (fun g4=>key _ (by simp[g1,g2,g3,g4]))
 repeat ((with_reducible first|apply A0|apply wI|apply wT|apply wP|apply wS|apply wB);exact rfl)
 refine Bh (F0 ?_)
 refine A7 (fun g5=>?_) (fun g5=>key _ (by simp[g1,g2,g3,g4,g5]))
 repeat ((with_reducible first|apply A0|apply wI|apply wT|apply wP|apply wS|apply wB);exact rfl)
 refine key _ ?_
 rw[g1,g2,g3,g4,g5,Bool.true_and,Bool.true_and,Bool.true_and,Bool.true_and,Bool.true_and,Bool.eq_iff_iff,decide_eq_true_eq,decide_eq_true_eq]
 omega
end
end
section
open Go Go.RowKit Go.Proofs
abbrev sdC(s:Sd):List AV:=[.pv (.int .i64 s.n),.pv (.bool s.e)]
section
variable {w0:B5}{σ:A2}{R:AV→A2→Prop}
theorem ii{s:List UInt8}(hs:s.length≤140737488355328)(hR:R (.pv (.str (N7 s))) σ):A1 (cx w0) R5.id [.pv (.str s)] σ R:=by
 refine R5.calls ?_
 rw[R5.b0_eq]
 refine nj (by omega) (K9 ?_)
 rw[Ty]
 exact P8 hR
theorem ik{s:List UInt8}(hs:s.length≤140737488355328)(hR:R (.pv (.bool (L6 s))) σ):A1 (cx w0) Q7.id [.pv (.str s)] σ R:=by
 refine Q7.calls ?_
 rw[Q7.b0_eq]
 refine pq (by omega) (F0 ?_)
 rw[ui]
 exact P8 hR
theorem Ta{s:List UInt8}(hs:s.length≤140737488355328)(hR:R (.pv (.bool (X1 s))) σ):A1 (cx w0) T2.id [.pv (.str s)] σ R:=by
 have fin:∀t,t=X1 s→T2.n4 (T2.X w0 σ.length) w0 σ.length R σ t:=by
  rintro t rfl
  refine T2.n4_in ?_
  rw[T2.b4_eq]
  exact P8 hR
 refine T2.calls ?_
 rw[T2.b0_eq]
 refine A7 (fun g=>?_) (fun g=>fin _ ?_)
 ·refine ii hs (K9 (du (F0 (fin _ ?_))))
  rw[← Sy,g,Bool.true_and,Lib.contains_iff_indexByte]
 ·rw[X1,g];rfl
theorem Da{a m:Int}(hR:R (.pv (.bool (ir a m))) σ):A1 (cx w0) Q0.id [.pv (.int .i64 a),.pv (.int .i64 m)] σ R:=by
 have fin:∀t,t=ir a m→Q0.n4 (Q0.X w0 σ.length) w0 σ.length R σ t:=by
  rintro t rfl
  refine Q0.n4_in ?_
  rw[Q0.b4_eq]
  exact P8 hR
 refine Q0.calls ?_
 rw[Q0.b0_eq]
 refine A7 (fun g1=>?_) (fun g1=>fin _ ?_)
 ·have g1':decide (0≤m)=true:=g1
  refine A7 (fun g2=>?_) (fun g2=>fin _ ?_)
  ·have g2':decide (0≤a)=true:=g2
   refine A7 (fun g3=>?_) (fun g3=>?_)
   ·have g3':decide (0<a)=true:=g3
    refine A7 (fun g4=>fin _ ?_) (fun g4=>fin _ ?_)
    ·rw[ir,g1',g2',g3',g4];rfl
    ·rw[ir,g1',g2',g3',g4];rfl
   ·have g3':decide (0<a)=false:=g3
    refine A7 (fun g5=>?_) (fun g5=>fin _ ?_)
    ·refine A7 (fun g4=>fin _ ?_) (fun g4=>fin _ ?_)
     ·rw[ir,g1',g2',g3',g4,g5];rfl
     ·rw[ir,g1',g2',g3',g4,g5];rfl
    ·rw[ir,g1',g2',g3',g5];rfl
  ·have g2':decide (0≤a)=false:=g2
   rw[ir,g1',g2'];rfl
 ·have g1':decide (0≤m)=false:=g1
  rw[ir,g1'];rfl
theorem store_cells{id off:Nat}{ty:TypeId}{cs:List AV}{ti:TI}{v:AV}(ho:σ[id]? = some (.cells ty cs))(h1:v.cells.length=ti.size)(h2:v.cells.all AV.one=true)(h3:off+v.cells.length≤cs.length):C3 σ ti (.ptr id off) v=some (σ.set id (.cells ty (T1 cs off v.cells))):=by
 unfold C3
 simp only
 rw[if_pos ⟨h1,h2⟩,ho]
 simp only
 rw[if_pos h3]
theorem Bq{id:Nat}{s:Sd}{t:List UInt8}(ho:σ[id]? = some (.cells 116 (sdC s)))(ht:t.length≤140737488355328)(hR:R (.pv (.bool (!s.e))) (σ.set id (.cells 116 (sdC (ld s t))))):A1 (cx w0) P0.id [.ptr id 0,.pv (.str t)] σ R:=by
 have hid:=(List.getElem?_eq_some_iff.1 ho).1
 refine P0.calls ?_
 rw[P0.b0_eq]
 refine A0 rfl (A0 (v:=.ptr id (0+1)) rfl ?_)
 refine A0 (v:=.pv (.bool s.e)) (by rw[yf ho];rfl) (F0 ?_)
 refine A7 (fun g=>P8 ?_) (fun g=>?_)
 ·rw[g,ld,if_pos g,ve ho] at hR
  exact hR
 ·refine A0 rfl (A0 (v:=.ptr id (0+0)) rfl ?_)
  refine A0 (v:=.pv (.int .i64 s.n)) (by rw[yf ho];rfl) (L3 ?_)
  refine A0 rfl (A0 (v:=.ptr id (0+0)) rfl ?_)
  refine A0 (store_cells ho rfl rfl (by simp[AV.cells,PV.cells])) ?_
  refine ik ht (F0 ?_)
  refine A0 rfl (A0 (v:=.ptr id (0+1)) rfl ?_)
  refine A0 (store_cells (List.getElem?_set_self hid) rfl rfl (by simp[AV.cells,PV.cells,T1])) ?_
  refine C4 (by simp) ?_
  rw[List.set_set]
  rw[g,ld,if_neg (by rw[g];decide)] at hR
  exact hR
theorem Ce(L:Laid w0.w)(h:Hnk)(xs:List PV)(hx:xs.length≤140737488355328):∀(r:List Row) (k:Nat) (p q:Sd) (ch:Bool),xs.drop k=r.map I3→(∀ x∈r,x.t.length≤140737488355328) →
  H9.n8 (H9.X w0 0) w0 0 (fun r' _=>r'=Vm (cj r p q ch)) [.cells 39 (jq h),.cells 116 (sdC p),.cells 116 (sdC q)] (.ptr 1 0) (.ptr 2 0) ch (.pv (.sl xs)) xs.length k
 | [],k,p,q,ch,hd,_=>by
  have hk:=N5 hd
  refine H9.n8_in ?_
  rw[H9.b9_eq,A8,if_neg (by omega)]
  refine H9.n37_in ?_
  rw[H9.b37_eq]
  repeat ((with_reducible first|apply A0|apply wI|apply wT|apply wP|apply wS|apply wB);exact rfl)
  exact C4 (Nat.zero_le _) rfl
 | c::r,k,p,q,ch,hd,ht=>by
  obtain ⟨h1,h2,hk⟩:=G7 hd
  have hc:=ht c (by simp)
  have ih:=fun p' q' ch'=>Ce L h xs hx r (k+1) p' q' ch' h2 (fun x hx=>ht x (List.mem_cons_of_mem _ hx))
  have key31:∀(p' q':Sd) (t:Bool),cj (c::r) p q ch=(if t=true then (p',q',false) else cj r p' q' (ch || !(c.k==1))) →
    H9.n31 (H9.X w0 0) w0 0 (fun r' _=>r'=Vm (cj (c::r) p q ch)) [.cells 39 (jq h),.cells 116 (sdC p'),.cells 116 (sdC q'),.cells 51 [.pv (.int .i64 c.k),.pv (.str c.t)]] (.ptr 1 0) (.ptr 2 0) (ch || !(c.k==1)) (.pv (.sl xs)) xs.length k t:=by
   intro p' q' t he
   rw[he]
   refine H9.n31_in ?_
   rw[H9.b31_eq]
   refine A7 (fun g=>?_) (fun g=>?_)
   ·rw[if_pos g]
    repeat ((with_reducible first|apply A0|apply wI|apply wT|apply wP|apply wS|apply wB);exact rfl)
    exact C4 (Nat.zero_le _) rfl
   ·rw[if_neg (by rw[g];decide),J3 hk (by omega)]
    exact H9.n8_weak (M5.drop (τ:=[.cells 39 (jq h),.cells 116 (sdC p'),.cells 116 (sdC q')]) O3 (Nat.zero_le _) rfl rfl) (ih _ _ _)
  have key29:gm c.k=true→X1 c.t=true → ∀ch',ch'=(ch || !(c.k==1))→H9.n29 (H9.X w0 0) w0 0 (fun r' _=>r'=Vm (cj (c::r) p q ch)) [.cells 39 (jq h),.cells 116 (sdC p),.cells 116 (sdC q),.cells 51 [.pv (.int .i64 c.k),.pv (.str c.t)]] (.ptr 1 0) (.ptr 2 0) ch' (.ptr 3 0) (.pv (.sl xs)) xs.length k:=by
   rintro gk gl ch' rfl
   have hs:cj (c::r) p q ch=if c.k≠3∧p.e=true then (p,q,false) else if c.k≠2∧q.e=true then (if c.k≠3 then ld p c.t else p,q,false) else
     cj r (if c.k≠3 then ld p c.t else p) (if c.k≠2 then ld q c.t else q) (ch || !(c.k==1)):=by
    rw[cj,if_pos ⟨gk,gl⟩]
   refine H9.n29_in ?_
   rw[H9.b29_eq]
   repeat ((with_reducible first|apply A0|apply wI|apply wT|apply wP|apply wS|apply wB);exact rfl)
   rw[Q2]
   refine B6 (fun g3=>?_) (fun g3=>?_)
   ·-- a new line alone
    repeat ((with_reducible first|apply A0|apply wI|apply wT|apply wP|apply wS|apply wB);exact rfl)
    rw[Q2,if_neg (by omega)]
    repeat ((with_reducible first|apply A0|apply wI|apply wT|apply wP|apply wS|apply wB);exact rfl)
    refine Bq (id:=2) (s:=q) rfl hc (F0 ?_)
    rw[Bool.not_not]
    refine key31 p (ld q c.t) q.e ?_
    rw[hs]
    cases hq:q.e<;>simp[g3,hq,ld]
   ·repeat ((with_reducible first|apply A0|apply wI|apply wT|apply wP|apply wS|apply wB);exact rfl)
    refine Bq (id:=1) (s:=p) rfl hc (F0 ?_)
    rw[Bool.not_not]
    refine A7 (fun ge=>?_) (fun ge=>?_)
    ·refine key31 (ld p c.t) q true ?_
     rw[hs]
     simp[g3,ge,ld]
    ·repeat ((with_reducible first|apply A0|apply wI|apply wT|apply wP|apply wS|apply wB);exact rfl)
     rw[Q2]
     refine B6 (fun g2=>?_) (fun g2=>?_)
     ·refine key31 (ld p c.t) q false ?_
      rw[hs]
      simp[ge,g2,ld]
     ·repeat ((with_reducible first|apply A0|apply wI|apply wT|apply wP|apply wS|apply wB);exact rfl)
      refine Bq (id:=2) (s:=q) rfl hc (F0 ?_)
      rw[Bool.not_not]
      refine key31 (ld p c.t) (ld q c.t) q.e ?_
      rw[hs]
      cases hq:q.e<;>simp[g3,g2,ge,hq,ld]
  have key22:∀t,t = !(gm c.k&&X1 c.t)→H9.n22 (H9.X w0 0) w0 0 (fun r' _=>r'=Vm (cj (c::r) p q ch)) [.cells 39 (jq h),.cells 116 (sdC p),.cells 116 (sdC q),.cells 51 [.pv (.int .i64 c.k),.pv (.str c.t)]] (.ptr 1 0) (.ptr 2 0) ch (.ptr 3 0) (.pv (.sl xs)) xs.length k t:=by
   rintro t rfl
   refine H9.n22_in ?_
   rw[H9.b22_eq,E3]
   refine A7 (fun g=>?_) (fun g=>?_)
   ·rw[Bool.and_eq_true] at g
    refine A7 (fun g2=>key29 g.1 g.2 _ ?_) (fun g2=>?_)
    ·rw[g2];rfl
    ·repeat ((with_reducible first|apply A0|apply wI|apply wT|apply wP|apply wS|apply wB);exact rfl)
     refine key29 g.1 g.2 _ ?_
     rw[g2];rfl
   ·repeat ((with_reducible first|apply A0|apply wI|apply wT|apply wP|apply wS|apply wB);exact rfl)
    refine C4 (Nat.zero_le _) ?_
    rw[cj,if_neg (fun h=>by rw[h.1,h.2] at g;cases g)]
    rfl
  refine H9.n8_in ?_
  rw[H9.b9_eq,A8,if_pos (by omega)]
  refine A0 (O1 df h1 rfl) ?_
  repeat ((with_reducible first|apply A0|apply wI|apply wT|apply wP|apply wS|apply wB);exact rfl)
  rw[A8]
  refine B6 (fun g=>key22 _ ?_) (fun g=>?_)
  ·have:gm c.k=false:=by simp[gm];omega
   rw[this];rfl
  repeat ((with_reducible first|apply A0|apply wI|apply wT|apply wP|apply wS|apply wB);exact rfl)
  rw[A8]
  refine B6 (fun g'=>key22 _ ?_) (fun g'=>?_)
  ·have:gm c.k=false:=by simp[gm];omega
   rw[this];rfl
  repeat ((with_reducible first|apply A0|apply wI|apply wT|apply wP|apply wS|apply wB);exact rfl)
  refine Ta hc (F0 (key22 _ ?_))
  have:gm c.k=true:=by simp[gm];omega
  rw[this,Bool.true_and]
theorem Qe(L:Laid w0.w){h:Hnk}(hl:h.rows.length≤140737488355328)(ht:∀x∈h.rows,x.t.length≤140737488355328)(hR:R (Vm (cj h.rows ⟨0,false⟩ ⟨0,false⟩ false)) σ):A1 (cx w0) H9.id [.pv (K6 h)] σ R:=by
 refine A1.alone L rfl (fun w1 L1=>?_) rfl hR
 refine H9.calls ?_
 rw[H9.b0_eq]
 refine ⟨rfl,?_⟩
 repeat ((with_reducible first|apply A0|apply wI|apply wT|apply wP|apply wS|apply wB);exact rfl)
 exact Ce L1 h (h.rows.map I3) (by simpa using hl) h.rows 0 ⟨0,false⟩ ⟨0,false⟩ false rfl ht
def kx(b:Bool):AV:=if b=true then .pv (.raw .nilIface) else .pv (.iface 63 (.int .i64 100))
theorem iq(L:Laid w0.w){h:Hnk}(hl:h.rows.length≤140737488355328)(ht:∀x∈h.rows,x.t.length≤140737488355328)(hh:h.head.length≤140737488355328)(ha:-9223372036854775808≤h.a∧h.a≤9223372036854775807)(hb:-9223372036854775808≤h.b∧h.b≤9223372036854775807)(hR:R (kx (J2 h)) σ):A1 (cx w0) O7.id [.pv (K6 h)] σ R:=by
 refine A1.alone L rfl (fun w1 L1=>?_) (by unfold kx;split<;>rfl) hR
 obtain ⟨s1,s2⟩:=Cl h.rows ⟨0,false⟩ ⟨0,false⟩ false
 have c1:=fh V3 h.rows 0 (by omega) (by omega)
 have c2:=fh U3 h.rows 0 (by omega) (by omega)
 have key:∀S t,t = !J2 h→O7.n7 (O7.X w1 0) w1 0 (fun r' _=>r'=kx (J2 h)) S t:=by
  rintro S t rfl
  refine O7.n7_in ?_
  rw[O7.b7_eq,E3]
  refine A7 (fun g=>C4 (Nat.zero_le _) ?_) (fun g=>A0 rfl (C4 (Nat.zero_le _) ?_))
  ·rw[g];rfl
  ·rw[g];rfl
 refine O7.calls ?_
 rw[O7.b0_eq]
 refine ⟨rfl,?_⟩
 repeat ((with_reducible first|apply A0|apply wI|apply wT|apply wP|apply wS|apply wB);exact rfl)
 refine Qe L1 hl ht ?_
 repeat ((with_reducible first|apply A0|apply wI|apply wT|apply wP|apply wS|apply wB);exact rfl)
 rw[E3]
 refine A7 (fun g1=>?_) (fun g1=>key _ _ ?_)
 ·have g1':Y6 h.rows false false false=true:=by rw[← s1];exact g1
  obtain ⟨e1,e2⟩:=s2 g1'
  repeat ((with_reducible first|apply A0|apply wI|apply wT|apply wP|apply wS|apply wB);exact rfl)
  rw[Q2]
  refine B6 (fun g2=>?_) (fun g2=>key _ _ ?_)
  ·repeat ((with_reducible first|apply A0|apply wI|apply wT|apply wP|apply wS|apply wB);exact rfl)
   rw[Q2]
   refine B6 (fun g3=>?_) (fun g3=>key _ _ ?_)
   ·have n1:h.n=Y9 V3 h.rows 0:=by rw[← g2];exact e1
    have n2:h.m=Y9 U3 h.rows 0:=by rw[← g3];exact e2
    repeat ((with_reducible first|apply A0|apply wI|apply wT|apply wP|apply wS|apply wB);exact rfl)
    refine Da (F0 ?_)
    rw[E3,n1,xl c1.1 (by omega) ha.1 ha.2]
    refine A7 (fun g4=>?_) (fun g4=>key _ _ ?_)
    ·repeat ((with_reducible first|apply A0|apply wI|apply wT|apply wP|apply wS|apply wB);exact rfl)
     refine Da (F0 ?_)
     rw[E3,n2,xl c2.1 (by omega) hb.1 hb.2]
     refine A7 (fun g5=>?_) (fun g5=>key _ _ ?_)
     ·repeat ((with_reducible first|apply A0|apply wI|apply wT|apply wP|apply wS|apply wB);exact rfl)
      rw[A8]
      refine B6 (fun g6=>key _ _ ?_) (fun g6=>?_)
      ·have:decide (h.head.length≤4096)=false:=by simp;omega
       simp[J2,this]
      ·repeat ((with_reducible first|apply A0|apply wI|apply wT|apply wP|apply wS|apply wB);exact rfl)
       refine du (F0 (key _ _ ?_))
       have:decide (h.head.length≤4096)=true:=by simp;omega
       simp[J2,g1',←n1,←n2,this]
       rw[← n1] at g4
       rw[← n2] at g5
       simp[g4,g5]
     ·simp[J2,g5]
    ·simp[J2,g4]
   ·have:(h.m==Y9 U3 h.rows 0)=false:=beq_false_of_ne fun e=>g3 (by rw[e];exact e2)
    simp[J2,this]
  ·have:(h.n==Y9 V3 h.rows 0)=false:=beq_false_of_ne fun e=>g2 (by rw[e];exact e1)
   simp[J2,this]
 ·have:Y6 h.rows false false false=false:=by rw[← s1];exact g1
  simp[J2,this]
end
end
end Go.Sv
