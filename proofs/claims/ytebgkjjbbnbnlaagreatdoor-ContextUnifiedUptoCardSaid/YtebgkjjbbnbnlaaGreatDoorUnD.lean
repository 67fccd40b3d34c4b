/- Package unified, printing: names, ranges, order, the text of a hunk: what the program and the document's answer compute. -/
import Derived.Test.YtebgkjjbbnbnlaaGreatDoorUnB
import Derived.Test.YtebgkjjbbnbnlaaGreatDoorUnC
import Derived.Test.YtebgkjjbbnbnlaaGreatDoorStI
import Derived.Test.YtebgkjjbbnbnlaaGreatDoorHk
set_option linter.unusedVariables false
set_option linter.unusedSimpArgs false
set_option maxRecDepth 100000
namespace Go.Sv
section
open Go Go.RowKit
abbrev nmP(p s:List UInt8):PV:=.agg [.str p,.str s]
def sr(s bytes:List UInt8):Bool:=s.any fun c=>bytes.contains c
theorem Lf:∀(s t:List UInt8),Lib.containsAny s t=sr s t
 | [],t=>rfl
 | c::r,t=>by
  have ih:=Lf r t
  have hg:=Lib.indexAny_ge t r
  unfold Lib.containsAny at ih ⊢
  simp only[sr,List.any_cons] at ih ⊢
  rw[Lib.indexAny]
  cases hc:t.contains c with
  | true=>simp
  | false=>
   rw[Bool.false_or,←ih]
   simp only[Bool.false_eq_true,if_false]
   by_cases hm:Lib.indexAny r t = -1
   ·rw[hm];rfl
   ·rw[if_neg (by simpa using hm),decide_eq_decide];omega
theorem Wu(s:List UInt8)(c:UInt8):sr s [c]=s.contains c:=by
 induction s with
 | nil=>rfl
 | cons a r ih=>
  simp only[sr,List.any_cons] at ih ⊢
  rw[ih,List.contains_cons]
  congr 1
  show (a==c||false)=_
  rw[Bool.or_false,Bool.eq_iff_iff,beq_iff_eq,beq_iff_eq]
  exact eq_comm
def N2(p s:List UInt8):Bool:=!(p == []) && !(p.contains 0) && !(sr s [9,10,0])
def N4(p s:List UInt8):List UInt8:=if s = [] then lk p else (lk p ++ [9])++s
def gr(a n:Int):List UInt8:=if n=1 then Lib.itoa a else (Lib.itoa a ++ [44])++Lib.itoa n
def kw(a n:Int):Int:=if n=0 then a else IntKind.wrap .i64 (a-1)
def mm(g h:Hnk):Bool:=decide (kw h.a h.n≥IntKind.wrap .i64 (kw g.a g.n+g.n))&&decide (kw h.b h.m≥IntKind.wrap .i64 (kw g.b g.m+g.m))
def nu:List UInt8:=[92,32,78,111,32,110,101,119,108,105,110,101,32,97,116,32,101,110,100,32,111,102,32,102,105,108,101,10]
def cy(t:List UInt8):List UInt8:=if L6 t=true then t else (t ++ [10])++nu
def db(k:Int):List UInt8:=if k=2 then [45] else if k=3 then [43] else [32]
def gd(r:Row):List UInt8:=db r.k++cy r.t
def gc(h:Hnk):List UInt8:=(((([64,64,32,45]++gr h.a h.n) ++ [32,43])++gr h.b h.m) ++ [32,64,64])++(if h.head = [] then [] else [32]++h.head)
def kh(h:Hnk):List UInt8:=(gc h ++ [10])++h.rows.flatMap gd
theorem fx{n:Int}(h0:0≤n)(h1:n≤9223372036854775807):(Lib.itoa n).length≤20:=by
 rw[oh h0];exact Xs (by omega)
theorem qc{a n:Int}(h0:0≤a)(h1:a≤9223372036854775807)(h2:0≤n)(h3:n≤9223372036854775807):(gr a n).length≤41:=by
 have e1:=fx h0 h1
 have e2:=fx h2 h3
 unfold gr
 split
 ·omega
 ·simp only[List.length_append,List.length_cons,List.length_nil];omega
theorem mz{p s:List UInt8}:(N4 p s).length≤4*p.length+s.length+3:=by
 have:=Ap p
 unfold N4
 split
 ·omega
 ·simp only[List.length_append,List.length_cons,List.length_nil];omega
theorem Fq(r:Row):(gd r).length≤r.t.length+30:=by
 have e1:(db r.k).length=1:=by unfold db;split<;>(try split)<;>rfl
 have e2:(cy r.t).length≤r.t.length+29:=by
  unfold cy
  split
  ·omega
  ·simp only[List.length_append,List.length_cons,List.length_nil,nu];omega
 simp only[gd,List.length_append];omega
theorem ca{h:Hnk}(hv:J2 h=true)(hl:h.rows.length≤140737488355328):Y6 h.rows false false false=true∧0≤h.n∧h.n≤140737488355328∧0≤h.m∧h.m≤140737488355328∧0≤h.a∧0≤h.b:=by
 simp only[J2,Bool.and_eq_true,beq_iff_eq] at hv
 obtain ⟨⟨⟨⟨⟨⟨v1,v2⟩,v3⟩,v4⟩,v5⟩,v6⟩,v7⟩:=hv
 have c1:=fh V3 h.rows 0 (by omega) (by omega)
 have c2:=fh U3 h.rows 0 (by omega) (by omega)
 simp only[ez,Bool.and_eq_true,decide_eq_true_eq] at v4 v5
 refine ⟨v1,by omega,by omega,by omega,by omega,?_,?_⟩
 ·have:=v4.1;split at this<;>omega
 ·have:=v5.1;split at this<;>omega
theorem kn:∀(l:List Row) (e o c:Bool),Y6 l e o c=true → ∀r∈l,r.k=1∨r.k=2∨r.k=3
 | [],_,_,_,_,r,h=>by simp at h
 | x::l,e,o,c,h,r,hr=>by
  rw[Y6] at h
  have hb:lh x e o=false:=by
   cases hb:lh x e o with
   | false=>rfl
   | true=>rw[hb] at h;cases h
  rw[hb] at h
  rcases List.mem_cons.1 hr with rfl|hr
  ·simp only[lh,V3,U3,Bool.or_eq_false_iff,Bool.and_eq_false_iff,Bool.not_eq_false',Bool.or_eq_true,beq_iff_eq] at hb
   obtain ⟨⟨⟨h1,_⟩,_⟩,_⟩:=hb
   omega
  ·exact kn l _ _ _ (by simpa using h) r hr
end
section
open Go Go.RowKit Go.Proofs
variable {w0:B5}{σ:A2}{R:AV→A2→Prop}
theorem yy(L:Laid w0.w){p s:List UInt8}(hp:p.length≤1048576)(hs:s.length≤1048576)(hR:R (.tup [.pv (.str (if N2 p s=true then N4 p s else [])),.pv (.bool (N2 p s))]) σ):A1 (cx w0) J5.id [.pv (nmP p s)] σ R:=by
 refine A1.alone L rfl (fun w1 L1=>?_) rfl hR
 have q:=Ap p
 have key:∀t,t = !N2 p s→J5.n5 (J5.X w1 0) w1 0 (fun r' _=>r' = .tup [.pv (.str (if N2 p s=true then N4 p s else [])),.pv (.bool (N2 p s))]) [.cells 23 [.pv (.str p),.pv (.str s)]] (.ptr 0 0) t:=by
  rintro t rfl
  refine J5.n5_in ?_
  rw[J5.b5_eq,E3]
  refine A7 (fun g=>?_) (fun g=>C4 (Nat.zero_le _) ?_)
  ·have fin:∀t,t=N4 p s→J5.n18 (J5.X w1 0) w1 0 (fun r' _=>r' = .tup [.pv (.str (if N2 p s=true then N4 p s else [])),.pv (.bool (N2 p s))]) [.cells 23 [.pv (.str p),.pv (.str s)]] t:=by
    rintro t rfl
    refine J5.n18_in ?_
    rw[J5.b18_eq]
    refine C4 (Nat.zero_le _) ?_
    rw[g];rfl
   repeat ((with_reducible first|apply A0|apply wI|apply wT|apply wP|apply wS|apply wB);exact rfl)
   refine Og L1 (by omega) (K9 ?_)
   repeat ((with_reducible first|apply A0|apply wI|apply wT|apply wP|apply wS|apply wB);exact rfl)
   rw[E3,U5]
   refine B6 (fun g2=>fin _ ?_) (fun g2=>?_)
   ·rw[N4,if_pos g2]
   ·repeat ((with_reducible first|apply A0|apply wI|apply wT|apply wP|apply wS|apply wB);exact rfl)
    refine ⟨by simp only[List.length_cons,List.length_nil];omega,by simp only[List.length_append,List.length_cons,List.length_nil];omega,fin _ ?_⟩
    rw[N4,if_neg g2,List.append_assoc]
  ·rw[g];rfl
 refine J5.calls ?_
 rw[J5.b0_eq]
 refine ⟨rfl,?_⟩
 repeat ((with_reducible first|apply A0|apply wI|apply wT|apply wP|apply wS|apply wB);exact rfl)
 refine A7 (fun g1=>key _ ?_) (fun g1=>?_)
 ·rw[N2,g1];rfl
 repeat ((with_reducible first|apply A0|apply wI|apply wT|apply wP|apply wS|apply wB);exact rfl)
 refine du (F0 ?_)
 refine A7 (fun g2=>key _ ?_) (fun g2=>?_)
 ·rw[N2,g1,g2];rfl
 repeat ((with_reducible first|apply A0|apply wI|apply wT|apply wP|apply wS|apply wB);exact rfl)
 refine lx (by decide) (by omega) (by decide) (F0 (key _ ?_))
 rw[Lf,N2,g1,g2]
 show _ = !(!(sr s [9,10,0]))
 rw[Bool.not_not]
theorem Hr(s t:List UInt8)(hs:s.length≤1048576)(ht:t.length≤1000)(i:Nat)(c:UInt8)(hi:s[i]? = some c)(v:Bool)(hv:v=(t.contains c||sr (s.drop (i+1)) t))
  (next:E9.n6 (E9.X w0 0) w0 0 (fun r' _=>r' = .pv (.bool (sr (s.drop (i+1)) t))) [] s t ((i+1:Nat):Int)):∀(r:List UInt8) (k:Nat),t.drop k=r→v=(r.contains c||sr (s.drop (i+1)) t) →
  E9.n18 (E9.X w0 0) w0 0 (fun r' _=>r' = .pv (.bool v)) [] s t i k
 | [],k,h,e=>by
  have hk:=N5 h
  refine E9.n18_in ?_
  rw[E9.b19_eq,A8,if_neg (by omega)]
  refine E9.n35_in ?_
  rw[E9.b35_eq,J3 (List.getElem?_eq_some_iff.1 hi).1 (by omega),e]
  exact next
 | d::r,k,h,e=>by
  obtain ⟨h1,h2,hk⟩:=G7 h
  refine E9.n18_in ?_
  rw[E9.b19_eq,A8,if_pos (by omega)]
  refine A0 (R4 hi) (L3 ?_)
  refine A0 (R4 h1) (L3 ?_)
  rw[H6]
  rw[List.contains_cons] at e
  refine B6 (fun g=>C4 (Nat.zero_le _) ?_) (fun g=>?_)
  ·have hcd:c=d:=UInt8.toNat_inj.1 (by omega)
   rw[e,hcd];simp
  ·rw[J3 hk (by omega)]
   refine Hr s t hs ht i c hi v hv next r (k+1) h2 ?_
   have:(c==d)=false:=beq_false_of_ne fun h=>g (by rw[h])
   rw[e,this,Bool.false_or]
theorem Lc(s t:List UInt8)(hs:s.length≤1048576)(ht:t.length≤1000):∀(r:List UInt8) (i:Nat),s.drop i=r→E9.n6 (E9.X w0 0) w0 0 (fun r' _=>r' = .pv (.bool (sr r t))) [] s t i
 | [],i,h=>by
  have hk:=N5 h
  refine E9.n6_in ?_
  rw[E9.b7_eq,A8,if_neg (by omega)]
  refine E9.n36_in ?_
  rw[E9.b36_eq]
  exact C4 (Nat.zero_le _) rfl
 | c::r,i,h=>by
  obtain ⟨h1,h2,hk⟩:=G7 h
  refine E9.n6_in ?_
  rw[E9.b7_eq,A8,if_pos (by omega)]
  have e:sr (c::r) t=(t.contains c||sr (s.drop (i+1)) t):=by rw[h2];rfl
  exact Hr s t hs ht i c h1 _ e (by rw[h2];exact Lc s t hs ht r (i+1) h2) t 0 rfl e
theorem Nh(L:Laid w0.w){s t:List UInt8}(hs:s.length≤1048576)(ht:t.length≤1000)(hR:R (.pv (.bool (sr s t))) σ):A1 (cx w0) E9.id [.pv (.str s),.pv (.str t)] σ R:=by
 refine A1.alone L rfl (fun w1 L1=>?_) rfl hR
 refine E9.calls ?_
 rw[E9.b0_eq]
 exact Lc s t hs ht s 0 rfl
theorem yn(L:Laid w0.w){p s:List UInt8}(hp:p.length≤1048576)(hs:s.length≤1048576)(hR:R (.pv (.bool (N2 p s))) σ):A1 (cx w0) J7.id [.pv (nmP p s)] σ R:=by
 refine A1.alone L rfl (fun w1 L1=>?_) rfl hR
 have fin:∀t,t=N2 p s→J7.n4 (J7.X w1 0) w1 0 (fun r' _=>r' = .pv (.bool (N2 p s))) [.cells 23 [.pv (.str p),.pv (.str s)]] t:=by
  rintro t rfl
  refine J7.n4_in ?_
  rw[J7.b4_eq]
  exact C4 (Nat.zero_le _) rfl
 refine J7.calls ?_
 rw[J7.b0_eq]
 refine ⟨rfl,?_⟩
 repeat ((with_reducible first|apply A0|apply wI|apply wT|apply wP|apply wS|apply wB);exact rfl)
 rw[E3]
 refine A7 (fun g1=>fin _ ?_) (fun g1=>?_)
 ·rw[N2,g1];rfl
 repeat ((with_reducible first|apply A0|apply wI|apply wT|apply wP|apply wS|apply wB);exact rfl)
 refine Nh L1 hp (by decide) (F0 ?_)
 rw[E3,Wu]
 refine A7 (fun g2=>fin _ ?_) (fun g2=>?_)
 ·rw[N2,g1,g2];rfl
 repeat ((with_reducible first|apply A0|apply wI|apply wT|apply wP|apply wS|apply wB);exact rfl)
 refine Nh L1 hs (by decide) (F0 (fin _ ?_))
 rw[N2,g1,g2];rfl
theorem Hl(L:Laid w0.w){a n:Int}(h0:0≤a)(h1:a≤9223372036854775807)(h2:0≤n)(h3:n≤9223372036854775807)(hR:R (.pv (.str (gr a n))) σ):A1 (cx w0) S8.id [.pv (.int .i64 a),.pv (.int .i64 n)] σ R:=by
 have e1:=fx h0 h1
 have e2:=fx h2 h3
 refine S8.calls ?_
 rw[S8.b0_eq,H6]
 unfold gr at hR
 refine B6 (fun g=>?_) (fun g=>?_)
 ·rw[if_pos g] at hR
  exact eh L (by omega) h1 (K9 (P8 hR))
 ·rw[if_neg g] at hR
  refine eh L (by omega) h1 (K9 ⟨by simp only[List.length_cons,List.length_nil];omega,?_⟩)
  exact eh L (by omega) h3 (K9 ⟨by simp only[List.length_append,List.length_cons,List.length_nil];omega,P8 hR⟩)
theorem ka{a n:Int}(hR:R (.pv (.int .i64 (kw a n))) σ):A1 (cx w0) P4.id [.pv (.int .i64 a),.pv (.int .i64 n)] σ R:=by
 refine P4.calls ?_
 rw[P4.b0_eq,H6]
 unfold kw at hR
 refine B6 (fun g=>?_) (fun g=>?_)
 ·rw[if_pos g] at hR;exact P8 hR
 ·rw[if_neg g] at hR;exact P8 hR
theorem ku{a n:Int}(hR:R (.pv (.int .i64 (kw a n))) σ):A1 (cx w0) N1.id [.pv (.int .i64 a),.pv (.int .i64 n)] σ R:=by
 refine N1.calls ?_
 rw[N1.b0_eq,H6]
 unfold kw at hR
 refine B6 (fun g=>?_) (fun g=>?_)
 ·rw[if_pos g] at hR;exact P8 hR
 ·rw[if_neg g] at hR;exact P8 hR
theorem tv(L:Laid w0.w){g h:Hnk}(hR:R (.pv (.bool (mm g h))) σ):A1 (cx w0) L8.id [.pv (K6 g),.pv (K6 h)] σ R:=by
 refine A1.alone L rfl (fun w1 L1=>?_) rfl hR
 have fin:∀t,t=mm g h→L8.n4 (L8.X w1 0) w1 0 (fun r' _=>r' = .pv (.bool (mm g h))) [.cells 39 (jq g),.cells 39 (jq h)] t:=by
  rintro t rfl
  refine L8.n4_in ?_
  rw[L8.b4_eq]
  exact C4 (Nat.zero_le _) rfl
 refine L8.calls ?_
 rw[L8.b0_eq]
 refine ⟨rfl,rfl,?_⟩
 repeat ((with_reducible first|apply A0|apply wI|apply wT|apply wP|apply wS|apply wB);exact rfl)
 refine ka (L3 ⟨rfl,rfl,rfl,?_⟩)
 refine ka (L3 ⟨rfl,?_⟩)
 refine A7 (fun g1=>?_) (fun g1=>fin _ ?_)
 ·repeat ((with_reducible first|apply A0|apply wI|apply wT|apply wP|apply wS|apply wB);exact rfl)
  refine ka (L3 ⟨rfl,rfl,rfl,?_⟩)
  refine ka (L3 ⟨rfl,fin _ ?_⟩)
  rw[mm,g1];rfl
 ·rw[mm,g1];rfl
theorem Ig(L:Laid w0.w){g h:Hnk}(hR:R (.pv (.bool (mm g h))) σ):A1 (cx w0) K3.id [.pv (K6 g),.pv (K6 h)] σ R:=by
 refine A1.alone L rfl (fun w1 L1=>?_) rfl hR
 have fin:∀t,t=mm g h→K3.n4 (K3.X w1 0) w1 0 (fun r' _=>r' = .pv (.bool (mm g h))) [.cells 39 (jq g),.cells 39 (jq h)] t:=by
  rintro t rfl
  refine K3.n4_in ?_
  rw[K3.b4_eq]
  exact C4 (Nat.zero_le _) rfl
 refine K3.calls ?_
 rw[K3.b0_eq]
 refine ⟨rfl,rfl,?_⟩
 repeat ((with_reducible first|apply A0|apply wI|apply wT|apply wP|apply wS|apply wB);exact rfl)
 refine ku (L3 ⟨rfl,rfl,rfl,?_⟩)
 refine ku (L3 ⟨rfl,?_⟩)
 refine A7 (fun g1=>?_) (fun g1=>fin _ ?_)
 ·repeat ((with_reducible first|apply A0|apply wI|apply wT|apply wP|apply wS|apply wB);exact rfl)
  refine ku (L3 ⟨rfl,rfl,rfl,?_⟩)
  refine ku (L3 ⟨rfl,fin _ ?_⟩)
  rw[mm,g1];rfl
 ·rw[mm,g1];rfl
end
end Go.Sv
