/- What the code of reading answers: numbers, a hunk's first line, a header's name. What the code of reading answers: a header's name, a hunk's rows. What the code of reading answers: a hunk's rows. -/
import Derived.Test.YtebgkjjbbnbnlaaGreatDoorUnT
import Derived.Test.YtebgkjjbbnbnlaaGreatDoorUnQ
import Derived.Test.YtebgkjjbbnbnlaaGreatDoorSvC
set_option linter.unusedVariables false
set_option linter.unusedSimpArgs false
set_option maxRecDepth 100000
section
namespace Go.Sv
open Go Go.RowKit Go.Proofs
section
variable {w0:B5}{σ:A2}{R:AV→A2→Prop}
abbrev aC(x:Int×Ln×Bool):AV:=.tup [.pv (.int .i64 x.1),.pv (.str x.2.1),.pv (.bool x.2.2)]
theorem Vb(s:Ln)(hs:s.length≤140737488355328)(v:AV):∀(r:Ln) (i:Nat) (n:Int),s.drop i=r→i≤s.length→0≤n→n≤2147483648 →
  v=aC ((lc r n).1,(lc r n).2,decide ((lc r n).2.length<s.length)&&decide ((lc r n).1≤2147483647)) →
  F7.n6 (F7.X w0 0) w0 0 (fun r' _=>r'=v) [] s n (i:Int):=by
 have stop:∀(r:Ln) (i:Nat) (n:Int),s.drop i=r→i≤s.length→v=aC (n,r,decide (r.length<s.length)&&decide (n≤2147483647))→F7.n17 (F7.X w0 0) w0 0 (fun r' _=>r'=v) [] s n (i:Int):=by
  intro r i n hd hi hv
  have hr:r.length=s.length-i:=by rw[← hd,List.length_drop]
  have fin:∀t,t=(decide (r.length<s.length)&&decide (n≤2147483647))→F7.n19 (F7.X w0 0) w0 0 (fun r' _=>r'=v) [] n r t:=by
   rintro t rfl
   refine F7.n19_in ?_
   rw[F7.b19_eq]
   exact C4 (Nat.zero_le _) hv.symm
  refine F7.n17_in ?_
  rw[F7.b17_eq]
  refine A0 (K8 hi) (K9 ?_)
  rw[hd,A8]
  refine B6 (fun g=>⟨A0 (K8 hi) (by rw[hd]),fin _ ?_⟩) (fun g=>⟨A0 (K8 hi) (by rw[hd]),fin _ ?_⟩)
  ·rw[decide_eq_true (show r.length<s.length by omega),Bool.true_and]
  ·rw[decide_eq_false (show ¬r.length<s.length by omega),Bool.false_and]
 intro r
 induction r with
 | nil=>
  intro i n hd hi h0 h1 hv
  have hk:=N5 hd
  refine F7.n6_in ?_
  rw[F7.b7_eq,A8,if_neg (by omega)]
  refine F7.n10_in ?_
  rw[F7.b10_eq,I7]
  exact stop [] i n hd hi hv
 | cons c r ih=>
  intro i n hd hi h0 h1 hv
  obtain ⟨g1,g2,hk⟩:=G7 hd
  have hc:=c.toNat_lt
  have key:∀t,t=decide (48≤c.toNat∧c.toNat≤57)→F7.n10 (F7.X w0 0) w0 0 (fun r' _=>r'=v) [] s n (i:Int) t:=by
   rintro t rfl
   refine F7.n10_in ?_
   rw[F7.b10_eq,A8]
   rw[lc] at hv
   refine B6 (fun g=>?_) (fun g=>?_)
   ·rw[if_pos g] at hv
    refine A0 (R4 g1) (L3 ?_)
    rw[Jq (n:=(c.toNat:Int)-48) (by omega) (by omega),F8 (n:=n*10) (by omega) (by omega),F8 (n:=(c.toNat:Int)-48) (by omega) (by omega),F8 (n:=n*10+((c.toNat:Int)-48)) (by omega) (by omega),J3 hk (by omega)]
    exact ih (i+1) (Is (n*10+((c.toNat:Int)-48))) g2 (by omega) (by unfold Is;split<;>omega) (by unfold Is;split<;>omega) hv
   ·rw[if_neg g] at hv
    exact stop (c::r) i n hd hi hv
  refine F7.n6_in ?_
  rw[F7.b7_eq,A8,if_pos (by omega)]
  refine A0 (R4 g1) (L3 ?_)
  rw[A8]
  refine B6 (fun g=>?_) (fun g=>key _ ?_)
  ·refine A0 (R4 g1) (L3 (key _ ?_))
   rw[decide_eq_decide];omega
  ·rw[decide_eq_false (by omega)]
theorem xd(L:Laid w0.w){s:Ln}(hs:s.length≤140737488355328)(hR:R (aC (fy s)) σ):A1 (cx w0) F7.id [.pv (.str s)] σ R:=by
 refine A1.alone L rfl (fun w1 L1=>?_) rfl hR
 refine F7.calls ?_
 rw[F7.b0_eq]
 exact Vb s hs _ s 0 0 rfl (Nat.zero_le _) (by omega) (by omega) rfl
abbrev Zh(x:Int×Int×Ln×Bool):AV:=.tup [.pv (.int .i64 x.1),.pv (.int .i64 x.2.1),.pv (.str x.2.2.1),.pv (.bool x.2.2.2)]
theorem xm(L:Laid w0.w){s:Ln}(hs:s.length≤140737488355328)(hR:R (Zh (ap s)) σ):A1 (cx w0) P1.id [.pv (.str s)] σ R:=by
 refine A1.alone L rfl (fun w1 L1=>?_) rfl hR
 have hn:=Eb s
 have key:∀t,t = !((fy s).2.2&&Lib.hasPrefix (fy s).2.1 [44])→P1.n7 (P1.X w1 0) w1 0 (fun r' _=>r'=Zh (ap s)) [] (fy s).2.1 (fy s).1 (fy s).2.2 t:=by
  rintro t rfl
  refine P1.n7_in ?_
  rw[P1.b7_eq,E3]
  refine A7 (fun g=>?_) (fun g=>?_)
  ·rw[Bool.and_eq_true] at g
   have hle:=Gf g.2
   refine A0 (K8 (k:=1) (by simpa using hle)) (K9 ?_)
   refine xd L1 (by rw[List.length_drop];omega) ?_
   repeat ((with_reducible first|apply A0|apply wI|apply wT|apply wP|apply wS|apply wB);exact rfl)
   refine C4 (Nat.zero_le _) ?_
   unfold ap
   rw[if_pos g]
  ·refine C4 (Nat.zero_le _) ?_
   unfold ap
   rw[if_neg (by rw[← Bool.and_eq_true,g];decide)]
 refine P1.calls ?_
 rw[P1.b0_eq]
 refine xd L1 hs ?_
 repeat ((with_reducible first|apply A0|apply wI|apply wT|apply wP|apply wS|apply wB);exact rfl)
 rw[E3]
 refine A7 (fun g=>?_) (fun g=>key _ ?_)
 ·refine Z7 (F0 (key _ ?_))
  rw[g,Bool.true_and]
 ·rw[g];rfl
abbrev hC0(h:Hnk):List AV:=[.pv (.int .i64 h.a),.pv (.int .i64 h.n),.pv (.int .i64 h.b),.pv (.int .i64 h.m),.pv (.str h.head),.nilsl]
abbrev fS(h:Hnk):A2:=[.cells 39 (hC0 ln),.cells 39 (hC0 h)]
def vj(x:Hnk×Bool):AV:=.tup [.agg (hC0 x.1),.pv (.bool x.2)]
theorem Hi(L:Laid w0.w){h:Hnk}{s:Ln}{ok:Bool}(hs:s.length≤140737488355328):G5.n30 (G5.X w0 0) w0 0 (fun r' _=>r'=vj (Ii h s ok)) (fS h) s (.ptr 0 0) (.ptr 1 0) ok:=by
 have key:∀t,t = !(ok && !(decide (s ≠ []∧s.head? ≠ some 32)))→G5.n33 (G5.X w0 0) w0 0 (fun r' _=>r'=vj (Ii h s ok)) (fS h) s (.ptr 0 0) (.ptr 1 0) t:=by
  rintro t rfl
  refine G5.n33_in ?_
  rw[G5.b33_eq,E3]
  refine A7 (fun g=>?_) (fun g=>?_)
  ·simp only[Bool.and_eq_true,Bool.not_eq_true',decide_eq_false_iff_not] at g
   refine ct (K9 ?_)
   repeat ((with_reducible first|apply A0|apply wI|apply wT|apply wP|apply wS|apply wB);exact rfl)
   refine qf (σ:=[]) O3 rfl rfl ?_
   unfold Ii
   rw[if_neg (by rw[g.1];decide),if_neg g.2];rfl
  ·repeat ((with_reducible first|apply A0|apply wI|apply wT|apply wP|apply wS|apply wB);exact rfl)
   refine qf (σ:=[]) O3 rfl rfl ?_
   unfold Ii
   split
   ·rfl
   ·rename_i h1
    split
    ·rfl
    ·rename_i h2
     have:ok=true:=by simpa using h1
     rw[this,decide_eq_false h2] at g;cases g
 refine G5.n30_in ?_
 rw[G5.b30_eq,E3]
 refine A7 (fun g=>?_) (fun g=>key _ ?_)
 ·rw[E3,U5]
  refine B6 (fun g2=>key _ ?_) (fun g2=>?_)
  ·rw[g,decide_eq_false (by rw[g2];simp)];rfl
  ·cases s with
   | nil=>exact absurd rfl g2
   | cons c r=>
    refine A0 (R4 (c:=c) rfl) (L3 (key _ ?_))
    rw[g,Bool.true_and,Bool.not_not]
    have:((c::r) ≠ []∧(c::r).head? ≠ some 32) ↔ ¬((c.toNat:Int)=32):=by
     simp only[List.head?_cons,ne_eq,reduceCtorEq,not_false_eq_true,true_and,Option.some.injEq]
     constructor
     ·intro h e;exact h (UInt8.toNat_inj.1 (by have:UInt8.toNat 32=32:=rfl;omega))
     ·intro h e;exact h (by rw[e];rfl)
    rw[decide_eq_decide.2 this,decide_not];rfl
 ·rw[g];rfl
theorem Fw(L:Laid w0.w){h:Hnk}{s:Ln}{ok:Bool}(hs:s.length≤140737488355328):G5.n24 (G5.X w0 0) w0 0 (fun r' _=>r'=vj (Qc h s ok)) (fS h) s (.ptr 0 0) (.ptr 1 0) ok:=by
 have:=dg s [32,64,64]
 refine G5.n24_in ?_
 rw[G5.b24_eq]
 unfold Qc
 refine A7 (fun g=>?_) (fun g=>?_)
 ·rw[if_pos g]
  refine io hs ?_
  repeat ((with_reducible first|apply A0|apply wI|apply wT|apply wP|apply wS|apply wB);exact rfl)
  exact Hi L (by omega)
 ·rw[if_neg (by rw[g];decide)]
  exact Hi L hs
theorem Gc(L:Laid w0.w){h:Hnk}{s:Ln}{ok:Bool}(hs:s.length≤140737488355328):G5.n18 (G5.X w0 0) w0 0 (fun r' _=>r'=vj (Pj h s ok)) (fS h) s (.ptr 0 0) (.ptr 1 0) ok:=by
 have:=qb s
 refine G5.n18_in ?_
 rw[G5.b18_eq]
 unfold Pj
 refine A7 (fun g=>?_) (fun g=>?_)
 ·rw[if_pos g]
  refine xm L hs ?_
  repeat ((with_reducible first|apply A0|apply wI|apply wT|apply wP|apply wS|apply wB);exact rfl)
  exact Fw L (h:={ h with b:=(ap s).1,m:=(ap s).2.1 }) (by omega)
 ·rw[if_neg (by rw[g];decide)]
  exact Fw L hs
theorem He(L:Laid w0.w){h:Hnk}{s:Ln}{ok:Bool}(hs:s.length≤140737488355328):G5.n12 (G5.X w0 0) w0 0 (fun r' _=>r'=vj (Od h s ok)) (fS h) s (.ptr 0 0) (.ptr 1 0) ok:=by
 have:=dg s [32,43]
 refine G5.n12_in ?_
 rw[G5.b12_eq]
 unfold Od
 refine A7 (fun g=>?_) (fun g=>?_)
 ·rw[if_pos g]
  refine io hs ?_
  repeat ((with_reducible first|apply A0|apply wI|apply wT|apply wP|apply wS|apply wB);exact rfl)
  exact Gc L (by omega)
 ·rw[if_neg (by rw[g];decide)]
  exact Gc L hs
theorem Oh(L:Laid w0.w){s:Ln}(hs:s.length≤140737488355328)(hR:R (vj (dl s)) σ):A1 (cx w0) G5.id [.pv (.str s)] σ R:=by
 refine A1.alone L rfl (fun w1 L1=>?_) rfl hR
 have h1:=dg s [64,64,32,45]
 have h2:=qb (X8 s [64,64,32,45]).1
 refine G5.calls ?_
 rw[G5.b0_eq]
 refine io hs ?_
 repeat ((with_reducible first|apply A0|apply wI|apply wT|apply wP|apply wS|apply wB);exact rfl)
 unfold dl
 refine A7 (fun g=>?_) (fun g=>?_)
 ·rw[if_pos g]
  refine xm L1 (by omega) ?_
  repeat ((with_reducible first|apply A0|apply wI|apply wT|apply wP|apply wS|apply wB);exact rfl)
  exact He L1 (h:={ ln with a:=(ap (X8 s [64,64,32,45]).1).1,n:=(ap (X8 s [64,64,32,45]).1).2.1 }) (by omega)
 ·rw[if_neg (by rw[g];decide)]
  exact He L1 (h:=ln) (by omega)
end
end Go.Sv
end
section
namespace Go.Sv
open Go Go.RowKit Go.Proofs
section
variable {w0:B5}{σ:A2}{R:AV→A2→Prop}
abbrev zN:P9:=.cells 23 [.pv (.str []),.pv (.str [])]
abbrev nmO(p s:Ln):P9:=.cells 23 [.pv (.str p),.pv (.str s)]
abbrev rdr(ls:List Ln)(at_:Nat):P9:=.cells 94 [.pv (re ls),.pv (.int .i64 (at_:Int))]
abbrev S6(ls:List Ln)(at_:Nat):A2:=[zN,zN,rdr ls at_,zN,zN,zN]
theorem Wc{l mark:Ln}(h:Lib.hasPrefix l mark=true)(hm:mark ≠ [])(hw:L6 mark=false):mark.length≤(N7 l).length:=by
 obtain ⟨t,rfl⟩:=List.isPrefixOf_iff_prefix.1 h
 unfold N7
 cases t with
 | nil=>
  rw[List.append_nil,hw]
  simp
 | cons c t=>
  split
  ·rw[List.length_dropLast,List.length_append,List.length_cons];omega
  ·simp
def ja(mark:Ln)(ls:List Ln)(at_:Nat):Option (Ln×Ln):=match ls[at_]? with
 | some l=>cn mark l
 | none=>none
def Az(o:Option (Ln×Ln))(at_:Nat):AV:=match o with
 | some (p,s)=>.tup [.pv (nmP p s),.pv (.raw (.pointer none))]
 | none=>.tup [.pv (nmP [] []),.ro (.agg [.int .i64 110,.int .i64 (at_:Int)]) 0]
def Ml(o:Option (Ln×Ln))(at_:Nat):Nat:=match o with
 | some _=>at_+1
 | none=>at_
theorem vz{ls:List Ln}{i:Nat}{l:Ln}(h:ls[i]? = some l):(ls.map PV.str)[i]? = some (.str l):=by rw[List.getElem?_map,h];rfl
abbrev nS(ls:List Ln)(at_:Nat)(T:A2):A2:=S6 ls at_++(T ++ [zN,.cells 99 [.pv (.int .i64 110),.pv (.int .i64 (at_:Int))]])
theorem Dd{ls:List Ln}{at_:Nat}{T:A2}(hT:T = [] ∨ ∃p s,T = [nmO p s])(hR:R (Az none at_) (S6 ls at_++T))(path rest:Ln)(t:Bool)(ht:t=true):
  E5.n17 (E5.X w0 (S6 ls at_++T).length) w0 (S6 ls at_++T).length R (nS ls at_ T) (.ptr 2 0) (.ptr (S6 ls at_++T).length 0) (.ptr ((S6 ls at_++T).length+1) 0) path rest t:=by
 subst ht
 rcases hT with rfl|⟨p0,s0,rfl⟩
 all_goals
  refine E5.n17_in ?_
  rw[E5.b17_eq,L4]
  repeat ((with_reducible first|apply A0|apply wI|apply wT|apply wP|apply wS|apply wB);exact rfl)
  exact ba (σ:=S6 ls at_++_) O3 rfl rfl hR
theorem yq{ls:List Ln}{at_:Nat}{T:A2}(hT:T = [] ∨ ∃p s,T = [nmO p s])(hat:at_≤8388608){p s rest:Ln}(e:s=Lib.trimPrefix rest [9])(hR:R (Az (some (p,s)) at_) (S6 ls (at_+1)++T))(t:Bool)(ht:t=false):
  E5.n17 (E5.X w0 (S6 ls at_++T).length) w0 (S6 ls at_++T).length R (nS ls at_ T) (.ptr 2 0) (.ptr (S6 ls at_++T).length 0) (.ptr ((S6 ls at_++T).length+1) 0) p rest t:=by
 subst ht
 subst e
 have wi:IntKind.wrap .i64 ((at_:Int)+1)=((at_+1:Nat):Int):=by rw[F8 (by omega) (by omega)];omega
 rcases hT with rfl|⟨p0,s0,rfl⟩
 all_goals
  refine E5.n17_in ?_
  rw[E5.b17_eq,I7]
  repeat ((with_reducible first|apply A0|apply wI|apply wT|apply wP|apply wS|apply wB);exact rfl)
  refine ct (K9 ?_)
  repeat ((with_reducible first|apply A0|apply wI|apply wT|apply wP|apply wS|apply wB);exact rfl)
  rw[wi]
  exact qf (σ:=S6 ls (at_+1)++_) O3 rfl rfl hR
theorem Fu(L:Laid w0.w){mark:Ln}(hm:mark ≠ [])(hw:L6 mark=false)(hm10:mark.length≤100){ls:List Ln}{at_:Nat}{T:A2}(hT:T = [] ∨ ∃p s,T = [nmO p s])(hl:ls.length≤8388608)(hx:∀l∈ls,l.length≤8388608)
  (hR:R (Az (ja mark ls at_) at_) (S6 ls (Ml (ja mark ls at_) at_)++T)):A1 (cx w0) E5.id [.ptr 2 0,.pv (.str mark)] (S6 ls at_++T) R:=by
 have hT':=hT
 rcases hT with rfl|⟨p0,s0,rfl⟩
 all_goals
  refine E5.calls ?_
  rw[E5.b0_eq]
  repeat ((with_reducible first|apply A0|apply wI|apply wT|apply wP|apply wS|apply wB);exact rfl)
  refine ⟨rfl,?_⟩
  repeat ((with_reducible first|apply A0|apply wI|apply wT|apply wP|apply wS|apply wB);exact rfl)
  rw[A8]
  refine B6 (fun g=>?_) (fun g=>?_)
  ·refine E5.n7_in ?_
   rw[E5.b7_eq,L4]
   repeat ((with_reducible first|apply A0|apply wI|apply wT|apply wP|apply wS|apply wB);exact rfl)
   have hn:ls[at_]? = none:=List.getElem?_eq_none (by rw[List.length_map] at g;omega)
   have e:ja mark ls at_=none:=by unfold ja;rw[hn]
   rw[e] at hR
   exact ba (σ:=S6 ls at_++_) O3 rfl rfl hR
  ·rw[List.length_map] at g
   obtain ⟨l,hl0⟩:∃l,ls[at_]? = some l:=⟨ls[at_]'(by omega),List.getElem?_eq_getElem (by omega)⟩
   have hll:=hx l (List.mem_of_getElem? hl0)
   have hbl:=bd l
   have e0:ja mark ls at_=cn mark l:=by unfold ja;rw[hl0]
   rw[e0] at hR
   repeat ((with_reducible first|apply A0|apply wI|apply wT|apply wP|apply wS|apply wB);exact rfl)
   refine A0 (O1 ny (vz hl0) rfl) ?_
   repeat ((with_reducible first|apply A0|apply wI|apply wT|apply wP|apply wS|apply wB);exact rfl)
   refine Z7 (F0 ?_)
   cases hp:Lib.hasPrefix l mark with
   | false=>
    refine E5.n7_in ?_
    rw[E5.b7_eq,Bool.not_false,L4]
    repeat ((with_reducible first|apply A0|apply wI|apply wT|apply wP|apply wS|apply wB);exact rfl)
    have e:cn mark l=none:=by unfold cn;rw[if_neg (by rw[hp];decide)]
    rw[e] at hR
    exact ba (σ:=S6 ls at_++_) O3 rfl rfl hR
   | true=>
    have hbe:=Wc hp hm hw
    refine E5.n7_in ?_
    rw[E5.b7_eq,Bool.not_true,I7]
    repeat ((with_reducible first|apply A0|apply wI|apply wT|apply wP|apply wS|apply wB);exact rfl)
    refine A0 (O1 ny (vz hl0) rfl) ?_
    repeat ((with_reducible first|apply A0|apply wI|apply wT|apply wP|apply wS|apply wB);exact rfl)
    refine ii (by omega) (K9 ?_)
    refine A0 (K8 hbe) (K9 ?_)
    refine uz L (by rw[List.length_drop];omega) ?_
    cases hu:tc ((N7 l).drop mark.length) with
    | none=>
     unfold Df
     repeat ((with_reducible first|apply A0|apply wI|apply wT|apply wP|apply wS|apply wB);exact rfl)
     rw[Q1]
     refine A0 rfl (A0 (v:=false) rfl (F0 ?_))
     rw[Bool.not_false,L4]
     generalize hbt:true=bt
     have e:cn mark l=none:=by unfold cn;rw[if_pos hp,hu]
     rw[e] at hR
     exact Dd hT' hR _ _ bt hbt.symm
    | some q=>
     obtain ⟨p,rest⟩:=q
     unfold Df
     repeat ((with_reducible first|apply A0|apply wI|apply wT|apply wP|apply wS|apply wB);exact rfl)
     rw[Q1]
     refine A0 rfl (A0 (v:=true) rfl (F0 ?_))
     rw[Bool.not_true,I7,E3,U5]
     refine B6 (fun g2=>?_) (fun g2=>?_)
     ·have e:cn mark l=some (p,[]):=by unfold cn;rw[if_pos hp,hu,g2]
      rw[e] at hR
      generalize hbt:false=bt
      exact yq hT' (by omega) (by rw[g2];rfl) hR bt hbt.symm
     ·cases rest with
      | nil=>exact absurd rfl g2
      | cons c r=>
       refine A0 (R4 (c:=c) rfl) (L3 ?_)
       by_cases hc:c=9
       ·have e:cn mark l=some (p,r):=by unfold cn;rw[if_pos hp,hu];simp[hc]
        rw[e] at hR
        have ht:r=Lib.trimPrefix (c::r) [9]:=by subst hc;simp[Lib.trimPrefix,Lib.hasPrefix,List.isPrefixOf]
        have hb:((c.toNat:Int) != 9)=false:=by subst hc;rfl
        exact yq hT' (by omega) ht hR _ hb
       ·have e:cn mark l=none:=by unfold cn;rw[if_pos hp,hu];simp[hc]
        rw[e] at hR
        have hb:((c.toNat:Int) != 9)=true:=by
         rw[bne_iff_ne]
         intro e
         exact hc (UInt8.toNat_inj.1 (by have:UInt8.toNat 9=9:=rfl;omega))
        exact Dd hT' hR _ _ _ hb
end
end Go.Sv
end
section
namespace Go.Sv
open Go Go.RowKit Go.Proofs
section
variable {w0:B5}{R:AV→A2→Prop}
abbrev fO(e:Int)(at_:Nat):P9:=.cells 99 [.pv (.int .i64 e),.pv (.int .i64 (at_:Int))]
abbrev rO(r:Row):P9:=.cells 51 [.pv (.int .i64 r.k),.pv (.str r.t)]
abbrev rwS(ls:List Ln)(at_:Nat)(p s p' s':Ln)(hs:List Hnk)(h:Hnk)(acc:List Row):A2:=
 [zN,zN,rdr ls at_,zN,zN,zN,nmO p s,nmO p' s',.arr 6 (hs.map K6) false,.cells 39 (hC0 ln),.cells 39 [.pv (.int .i64 h.a),.pv (.int .i64 h.n),.pv (.int .i64 h.b),.pv (.int .i64 h.m),.pv (.str h.head),.arr 11 acc.length 0 acc.length],.arr 2 (acc.map I3) false]
variable {ls:List Ln}{p s p' s':Ln}{hs:List Hnk}{h:Hnk}{at_:Nat}{acc:List Row}{n m:Int}
theorem aD(hat:at_≤8388608)(hac:acc.length≤8388608){w:Row}(t:Bool)(ht:t=decide (h.n<n∨h.m<m))
  (bad:h.n<n∨h.m<m→R (.ptr 12 0) (rwS ls at_ p s p' s' hs h acc ++ [fO 111 at_,rO w]))
  (next:¬(h.n<n∨h.m<m)→B0.n7 (B0.X w0 11) w0 11 R (rwS ls (at_+1) p s p' s' hs h (acc ++ [w])) (.ptr 2 0) (.ptr 10 0) n m true):
  B0.n91 (B0.X w0 11) w0 11 R (rwS ls at_ p s p' s' hs h acc ++ [fO 111 at_,rO w]) (.ptr 2 0) (.ptr 10 0) n m (.ptr 12 0) (.ptr 13 0) t:=by
 subst ht
 have wi:IntKind.wrap .i64 ((at_:Int)+1)=((at_+1:Nat):Int):=by rw[F8 (by omega) (by omega)];omega
 refine B0.n91_in ?_
 rw[B0.b91_eq,A8]
 refine B6 (fun g=>C4 (Nat.le_of_ble_eq_true rfl) (bad g)) (fun g=>?_)
 repeat ((with_reducible first|apply A0|apply wI|apply wT|apply wP|apply wS|apply wB);exact rfl)
 refine J4 (v:=.pv (.sl [I3 w])) rfl ⟨rfl,?_⟩
 refine J4 (X5 (id:=11) (es:=2) (ver:=acc.length) (xs:=acc.map I3) (ys:=[I3 w]) rfl rfl (List.length_map _).symm rfl rfl ⟨by rw[List.length_map];show acc.length+1≤_;omega,by rw[List.length_map];show (acc.length+1)*24≤_;omega⟩) ?_
 repeat ((with_reducible first|apply A0|apply wI|apply wT|apply wP|apply wS|apply wB);exact rfl)
 have e:acc.map I3 ++ [I3 w]=(acc ++ [w]).map I3:=by simp
 have e2:(acc.map I3).length + [I3 w].length=(acc ++ [w]).length:=by simp
 rw[wi,e,e2]
 exact B0.n7_weak (M5.drop (τ:=rwS ls (at_+1) p s p' s' hs h (acc ++ [w])) O3 (Nat.le_of_ble_eq_true rfl) rfl rfl) (next g)
theorem aQ(hn:0≤n)(hn':n≤8388608)(hm:0≤m)(hm':m≤8388608){w:Row}
  (key:∀t,t=decide (h.n<gj w.k n∨h.m<jo w.k m)→B0.n91 (B0.X w0 11) w0 11 R (rwS ls at_ p s p' s' hs h acc ++ [fO 111 at_,rO w]) (.ptr 2 0) (.ptr 10 0) (gj w.k n) (jo w.k m) (.ptr 12 0) (.ptr 13 0) t):
  B0.n76 (B0.X w0 11) w0 11 R (rwS ls at_ p s p' s' hs h acc ++ [fO 111 at_,rO w]) (.ptr 2 0) (.ptr 10 0) n m (.ptr 12 0) (.ptr 13 0):=by
 have wn:IntKind.wrap .i64 (n+1)=n+1:=F8 (by omega) (by omega)
 have wm:IntKind.wrap .i64 (m+1)=m+1:=F8 (by omega) (by omega)
 have key88:∀n' m',n'=gj w.k n→m'=jo w.k m→B0.n88 (B0.X w0 11) w0 11 R (rwS ls at_ p s p' s' hs h acc ++ [fO 111 at_,rO w]) (.ptr 2 0) (.ptr 10 0) n' m' (.ptr 12 0) (.ptr 13 0):=by
  rintro n' m' rfl rfl
  refine B0.n88_in ?_
  rw[B0.b88_eq]
  repeat ((with_reducible first|apply A0|apply wI|apply wT|apply wP|apply wS|apply wB);exact rfl)
  rw[A8]
  refine B6 (fun g=>key _ ?_) (fun g=>?_)
  ·exact (decide_eq_true (.inl g)).symm
  ·repeat ((with_reducible first|apply A0|apply wI|apply wT|apply wP|apply wS|apply wB);exact rfl)
   refine key _ ?_
   rw[decide_eq_decide]
   exact ⟨.inr,fun e=>e.resolve_left g⟩
 have key82:∀n',n'=gj w.k n→B0.n82 (B0.X w0 11) w0 11 R (rwS ls at_ p s p' s' hs h acc ++ [fO 111 at_,rO w]) (.ptr 2 0) (.ptr 10 0) n' m (.ptr 12 0) (.ptr 13 0):=by
  rintro n' rfl
  refine B0.n82_in ?_
  rw[B0.b82_eq]
  repeat ((with_reducible first|apply A0|apply wI|apply wT|apply wP|apply wS|apply wB);exact rfl)
  rw[Q2]
  refine B6 (fun g=>key88 _ _ rfl ?_) (fun g=>key88 _ _ rfl ?_)
  ·rw[jo,if_pos g]
  ·rw[jo,if_neg g,wm]
 refine B0.n76_in ?_
 rw[B0.b76_eq]
 repeat ((with_reducible first|apply A0|apply wI|apply wT|apply wP|apply wS|apply wB);exact rfl)
 rw[Q2]
 refine B6 (fun g=>key82 _ ?_) (fun g=>key82 _ ?_)
 ·rw[gj,if_pos g]
 ·rw[gj,if_neg g,wn]
theorem aK{c:UInt8}{t0:Ln}(hk:at_<ls.length)(idx:∀σ,B9 σ B2 X7.td (.pv (re ls)) (at_:Int)=some (.ro (.str (c::t0)) 0))(t:Bool)(ht:t=decide (n=h.n∧m=h.m))
  (hok:n=h.n∧m=h.m→R (.pv (.raw (.pointer none))) (rwS ls at_ p s p' s' hs h acc ++ [fO 111 at_]))
  (hbad:¬(n=h.n∧m=h.m)→jw (c::t0)=none→R (.ptr 12 0) (rwS ls at_ p s p' s' hs h acc ++ [fO 111 at_,rO ⟨0,t0⟩]))
  (key:¬(n=h.n∧m=h.m) → ∀w:Row,jw (c::t0)=some w→B0.n76 (B0.X w0 11) w0 11 R (rwS ls at_ p s p' s' hs h acc ++ [fO 111 at_,rO w]) (.ptr 2 0) (.ptr 10 0) n m (.ptr 12 0) (.ptr 13 0)):
  B0.n36 (B0.X w0 11) w0 11 R (rwS ls at_ p s p' s' hs h acc ++ [fO 111 at_]) (.ptr 2 0) (.ptr 10 0) n m (.ptr 12 0) t:=by
 subst ht
 refine B0.n36_in ?_
 rw[B0.b36_eq,A8]
 refine B6 (fun g=>C4 (Nat.le_of_ble_eq_true rfl) (hok g)) (fun g=>?_)
 repeat ((with_reducible first|apply A0|apply wI|apply wT|apply wP|apply wS|apply wB);exact rfl)
 rw[A8,if_neg (by rw[List.length_map];omega)]
 repeat ((with_reducible first|apply A0|apply wI|apply wT|apply wP|apply wS|apply wB);exact rfl)
 refine A0 (idx _) ?_
 repeat ((with_reducible first|apply A0|apply wI|apply wT|apply wP|apply wS|apply wB);exact rfl)
 refine A0 (K8 (k:=1) (by simp)) (K9 ?_)
 refine A0 (v:=.pv (.agg [.int .i64 0,.str t0])) rfl ?_
 refine A0 (v:=rwS ls at_ p s p' s' hs h acc ++ [fO 111 at_,rO ⟨0,t0⟩]) rfl ?_
 have hlen:List.length (rwS ls at_ p s p' s' hs h acc ++ [fO 111 at_])=13:=rfl
 rw[hlen]
 refine A0 (R4 (c:=c) rfl) (L3 ?_)
 have ne:∀k:UInt8,¬((c.toNat:Int)=(k.toNat:Int))→c≠k:=fun k h e=>h (by rw[e])
 have eq:∀k:UInt8,(c.toNat:Int)=(k.toNat:Int)→c=k:=fun k h=>UInt8.toNat_inj.1 (by omega)
 rw[H6]
 refine B6 (fun g1=>?_) (fun g1=>?_)
 ·generalize hq:(1:Int)=q
  refine A0 (v:=.ptr 13 0) rfl ?_
  refine A0 (v:=rwS ls at_ p s p' s' hs h acc ++ [fO 111 at_,rO ⟨q,t0⟩]) rfl ?_
  exact key g ⟨q,t0⟩ (by rw[jw,if_pos (eq 32 g1),hq])
 rw[H6]
 refine B6 (fun g2=>?_) (fun g2=>?_)
 ·generalize hq:(1:Int)=q
  refine A0 (v:=.pv (.agg [.int .i64 q,.str [10]])) rfl ?_
  refine A0 (v:=rwS ls at_ p s p' s' hs h acc ++ [fO 111 at_,rO ⟨q,[10]⟩]) rfl ?_
  exact key g ⟨q,[10]⟩ (by rw[jw,if_neg (ne 32 g1),if_pos (eq 10 g2),hq])
 rw[H6]
 refine B6 (fun g3=>?_) (fun g3=>?_)
 ·generalize hq:(2:Int)=q
  refine A0 (v:=.ptr 13 0) rfl ?_
  refine A0 (v:=rwS ls at_ p s p' s' hs h acc ++ [fO 111 at_,rO ⟨q,t0⟩]) rfl ?_
  exact key g ⟨q,t0⟩ (by rw[jw,if_neg (ne 32 g1),if_neg (ne 10 g2),if_pos (eq 45 g3),hq])
 rw[H6]
 refine B6 (fun g4=>?_) (fun g4=>?_)
 ·generalize hq:(3:Int)=q
  refine A0 (v:=.ptr 13 0) rfl ?_
  refine A0 (v:=rwS ls at_ p s p' s' hs h acc ++ [fO 111 at_,rO ⟨q,t0⟩]) rfl ?_
  exact key g ⟨q,t0⟩ (by rw[jw,if_neg (ne 32 g1),if_neg (ne 10 g2),if_neg (ne 45 g3),if_pos (eq 43 g4),hq])
 ·refine C4 (Nat.le_of_ble_eq_true rfl) (hbad g ?_)
  rw[jw,if_neg (ne 32 g1),if_neg (ne 10 g2),if_neg (ne 45 g3),if_neg (ne 43 g4)]
theorem Uf(hl:ls.length≤8388608)(hx:∀l∈ls,l ≠ []∧l.length≤8388608)(hN:0≤h.n∧h.n≤2147483648)(hM:0≤h.m∧h.m≤2147483648):∀(r:List Ln) (at_:Nat) (n m:Int) (fr:Bool) (acc:List Row),
  ls.drop at_=r→at_≤ls.length→0≤n→n≤at_→0≤m→m≤at_→(fr=true→acc ≠ [])→acc.length≤at_→(∀ x∈acc,x.t.length≤8388608) →
  (Z3 h.n h.m r n m fr acc=none→(∀ acc at_,R (.ptr 12 0) (rwS ls at_ p s p' s' hs h acc ++ [fO 111 at_])) ∧ ∀acc at_ w,R (.ptr 12 0) (rwS ls at_ p s p' s' hs h acc ++ [fO 111 at_,rO w])) →
  (∀ rows r',Z3 h.n h.m r n m fr acc=some (rows,r') → ∀at',ls.drop at'=r'→at'≤ls.length→R (.pv (.raw (.pointer none))) (rwS ls at' p s p' s' hs h rows ++ [fO 111 at'])) →
  B0.n7 (B0.X w0 11) w0 11 R (rwS ls at_ p s p' s' hs h acc) (.ptr 2 0) (.ptr 10 0) n m fr:=by
 intro r
 induction r with
 | nil=>
  intro at_ n m fr acc hd hat n0 n1 m0 m1 hfr hac htx hbad hgood
  have hk:=N5 hd
  have key36:∀t,t=decide (n=h.n∧m=h.m)→B0.n36 (B0.X w0 11) w0 11 R (rwS ls at_ p s p' s' hs h acc ++ [fO 111 at_]) (.ptr 2 0) (.ptr 10 0) n m (.ptr 12 0) t:=by
   rintro t rfl
   refine B0.n36_in ?_
   rw[B0.b36_eq,A8]
   refine B6 (fun g=>?_) (fun g=>?_)
   ·refine C4 (Nat.le_of_ble_eq_true rfl) (hgood acc [] ?_ at_ hd hat)
    rw[Z3,if_pos g]
   ·repeat ((with_reducible first|apply A0|apply wI|apply wT|apply wP|apply wS|apply wB);exact rfl)
    rw[A8,if_pos (by rw[List.length_map];omega)]
    refine C4 (Nat.le_of_ble_eq_true rfl) ((hbad ?_).1 acc at_)
    rw[Z3,if_neg g]
  have key14:∀t,t=false→B0.n14 (B0.X w0 11) w0 11 R (rwS ls at_ p s p' s' hs h acc ++ [fO 111 at_]) (.ptr 2 0) (.ptr 10 0) n m fr (.ptr 12 0) t:=by
   rintro t rfl
   refine B0.n14_in ?_
   rw[B0.b14_eq,I7]
   repeat ((with_reducible first|apply A0|apply wI|apply wT|apply wP|apply wS|apply wB);exact rfl)
   rw[H6]
   refine B6 (fun g=>?_) (fun g=>key36 _ ?_)
   ·repeat ((with_reducible first|apply A0|apply wI|apply wT|apply wP|apply wS|apply wB);exact rfl)
    refine key36 _ ?_
    rw[Bool.eq_iff_iff,beq_iff_eq,decide_eq_true_eq]
    exact ⟨fun e=>⟨g,e⟩,fun e=>e.2⟩
   ·rw[decide_eq_false (fun e=>g e.1)]
  refine B0.n7_in ?_
  rw[B0.b8_eq]
  repeat ((with_reducible first|apply A0|apply wI|apply wT|apply wP|apply wS|apply wB);exact rfl)
  refine ⟨rfl,?_⟩
  repeat ((with_reducible first|apply A0|apply wI|apply wT|apply wP|apply wS|apply wB);exact rfl)
  rw[A8,if_neg (by rw[List.length_map];omega)]
  exact key14 _ rfl
 | cons l r ih=>
  intro at_ n m fr acc hd hat n0 n1 m0 m1 hfr hac htx hbad hgood
  obtain ⟨h1,h2,hk⟩:=G7 hd
  have hlx:=hx l (List.mem_of_getElem? h1)
  have wi:IntKind.wrap .i64 ((at_:Int)+1)=((at_+1:Nat):Int):=by rw[F8 (by omega) (by omega)];omega
  have wn:IntKind.wrap .i64 (n+1)=n+1:=F8 (by omega) (by omega)
  have wm:IntKind.wrap .i64 (m+1)=m+1:=F8 (by omega) (by omega)
  obtain ⟨c,t0,rfl⟩:∃c t0,l=c::t0:=by
   cases l with
   | nil=>exact absurd rfl hlx.1
   | cons c t0=>exact ⟨c,t0,rfl⟩
  have idx:∀σ,B9 σ B2 X7.td (.pv (re ls)) (at_:Int)=some (.ro (.str (c::t0)) 0):=fun σ=>O1 ny (vz h1) rfl
  have hac':acc.length≤8388608:=by omega
  have key36:(c::t0).head? ≠ some 92 → ∀t,t=decide (n=h.n∧m=h.m)→B0.n36 (B0.X w0 11) w0 11 R (rwS ls at_ p s p' s' hs h acc ++ [fO 111 at_]) (.ptr 2 0) (.ptr 10 0) n m (.ptr 12 0) t:=by
   intro h92 t ht
   refine aK hk idx t ht (fun g=>hgood acc _ (by rw[Z3,if_neg h92,if_pos g]) at_ hd hat) (fun g hw=>(hbad (by rw[Z3,if_neg h92,if_neg g,hw])).2 acc at_ _) (fun g w hw=>?_)
   have i1:gj w.k n≤n+1∧n≤gj w.k n:=by unfold gj;split<;>omega
   have i2:jo w.k m≤m+1∧m≤jo w.k m:=by unfold jo;split<;>omega
   refine aQ n0 (by omega) m0 (by omega) (fun t ht=>aD (by omega) hac' t ht (fun g1=>(hbad ?_).2 acc at_ w) (fun g1=>?_))
   ·rw[Z3,if_neg h92,if_neg g,hw]
    simp only
    rw[if_pos g1]
   ·have eq:Z3 h.n h.m ((c::t0)::r) n m fr acc=Z3 h.n h.m r (gj w.k n) (jo w.k m) true (acc ++ [w]):=by
     rw[Z3,if_neg h92,if_neg g,hw]
     simp only
     rw[if_neg g1]
    refine ih (at_+1) (gj w.k n) (jo w.k m) true (acc ++ [w]) h2 (by omega) (by omega) (by omega) (by omega) (by omega) (fun _=>by simp) (by rw[List.length_append,List.length_singleton];omega) (fun x hx=>by
     rcases List.mem_append.1 hx with hx|hx
     ·exact htx x hx
     ·rw[List.mem_singleton] at hx;subst hx
      exact Nat.le_trans (Nc hw) hlx.2) (fun e=>hbad (by rw[eq];exact e)) (fun rows r' e=>hgood rows r' (by rw[eq];exact e))
  have key14:∀t,t=decide (c=92)→B0.n14 (B0.X w0 11) w0 11 R (rwS ls at_ p s p' s' hs h acc ++ [fO 111 at_]) (.ptr 2 0) (.ptr 10 0) n m fr (.ptr 12 0) t:=by
   rintro t rfl
   refine B0.n14_in ?_
   rw[B0.b14_eq,A8]
   refine B6 (fun g92=>?_) (fun g92=>?_)
   ·have h92:(c::t0).head? = some 92:=by rw[g92];rfl
    rw[E3]
    refine A7 (fun gf=>?_) (fun gf=>?_)
    ·subst gf
     obtain ⟨q,w,rfl⟩:∃q w,acc=q ++ [w]:=by
      rcases List.eq_nil_or_concat acc with e|⟨q,w,e⟩
      ·exact absurd e (hfr rfl)
      ·exact ⟨q,w,by rw[e,List.concat_eq_append]⟩
     have hql:(q ++ [w]).length=q.length+1:=by simp
     have hget:((q ++ [w]).map I3)[q.length]? = some (.agg [.int .i64 w.k,.str w.t]):=by simp
     have hw8:w.t.length≤8388608:=htx w (by simp)
     have hwt:w.t.length≤140737488355328:=by omega
     repeat ((with_reducible first|apply A0|apply wI|apply wT|apply wP|apply wS|apply wB);exact rfl)
     have wl:IntKind.wrap .i64 ((((q ++ [w]).length:Nat):Int)-1)=(q.length:Int):=by rw[hql,F8 (by omega) (by omega)];omega
     rw[wl]
     refine A0 (nc (id:=11) (xs:=(q ++ [w]).map I3) df rfl (by omega) rfl (List.length_map _)) ?_
     rw[Nat.zero_add]
     repeat ((with_reducible first|apply A0|apply wI|apply wT|apply wP|apply wS|apply wB);exact rfl)
     refine A0 (Fj (id:=11) (xs:=(q ++ [w]).map I3) rfl (List.length_map _) hget rfl rfl) (K9 ?_)
     refine ii hwt (K9 ?_)
     repeat ((with_reducible first|apply A0|apply wI|apply wT|apply wP|apply wS|apply wB);exact rfl)
     refine A0 (Ec (id:=11) (xs:=(q ++ [w]).map I3) rfl (List.length_map _) hget rfl rfl rfl (by simp)) ?_
     have e:((q ++ [w]).map I3).set q.length (.agg (T1 [.int .i64 w.k,.str w.t] (0+1) [.str (N7 w.t)]))=(q ++ [(⟨w.k,N7 w.t⟩:Row)]).map I3:=by
      rw[List.map_append,List.set_append_right _ _ (by simp)]
      simp[T1]
     have e3:(q ++ [w]).length=(q ++ [(⟨w.k,N7 w.t⟩:Row)]).length:=by simp
     rw[e]
     refine A0 rfl (A0 rfl (A0 (v:=.pv (.int .i64 (at_:Int))) rfl (L3 ?_)))
     rw[wi]
     refine A0 rfl (A0 rfl ?_)
     generalize hfv:false=fv
     refine A0 (v:=[zN,zN,rdr ls (at_+1),zN,zN,zN,nmO p s,nmO p' s',.arr 6 (hs.map K6) false,.cells 39 (hC0 ln),.cells 39 [.pv (.int .i64 h.a),.pv (.int .i64 h.n),.pv (.int .i64 h.b),.pv (.int .i64 h.m),.pv (.str h.head),.arr 11 (q ++ [w]).length 0 (q ++ [w]).length],.arr 2 ((q ++ [(⟨w.k,N7 w.t⟩:Row)]).map I3) fv,fO 111 at_]) rfl ?_
     rw[e3]
     subst hfv
     have eb:bh (q ++ [w])=q ++ [⟨w.k,N7 w.t⟩]:=by
      unfold bh
      rw[List.getLast?_append];simp
     have eq:Z3 h.n h.m ((c::t0)::r) n m true (q ++ [w])=Z3 h.n h.m r n m false (q ++ [⟨w.k,N7 w.t⟩]):=by
      rw[Z3,if_pos h92,if_pos rfl,eb]
     have ih':=ih (at_+1) n m false (q ++ [⟨w.k,N7 w.t⟩]) h2 (by omega) n0 (by omega) m0 (by omega) (fun e=>by cases e) (by rw[List.length_append,List.length_singleton] at hac ⊢;omega) (fun x hx=>by
      rcases List.mem_append.1 hx with hx|hx
      ·exact htx x (by simp[hx])
      ·rw[List.mem_singleton] at hx;subst hx
       exact Nat.le_trans (bd w.t) hw8) (fun e=>hbad (by rw[eq];exact e)) (fun rows r' e=>hgood rows r' (by rw[eq];exact e))
     exact B0.n7_weak (M5.drop (τ:=rwS ls (at_+1) p s p' s' hs h (q ++ [⟨w.k,N7 w.t⟩])) O3 (Nat.le_of_ble_eq_true rfl) rfl rfl) ih'
    ·refine C4 (Nat.le_of_ble_eq_true rfl) ((hbad ?_).1 acc at_)
     rw[Z3,if_pos h92,if_neg (by rw[gf];decide)]
   ·have h92:(c::t0).head? ≠ some 92:=by simpa using g92
    repeat ((with_reducible first|apply A0|apply wI|apply wT|apply wP|apply wS|apply wB);exact rfl)
    rw[H6]
    refine B6 (fun g=>?_) (fun g=>key36 h92 _ ?_)
    ·repeat ((with_reducible first|apply A0|apply wI|apply wT|apply wP|apply wS|apply wB);exact rfl)
     refine key36 h92 _ ?_
     rw[Bool.eq_iff_iff,beq_iff_eq,decide_eq_true_eq]
     exact ⟨fun e=>⟨g,e⟩,fun e=>e.2⟩
    ·rw[decide_eq_false (fun e=>g e.1)]
  refine B0.n7_in ?_
  rw[B0.b8_eq]
  repeat ((with_reducible first|apply A0|apply wI|apply wT|apply wP|apply wS|apply wB);exact rfl)
  refine ⟨rfl,?_⟩
  repeat ((with_reducible first|apply A0|apply wI|apply wT|apply wP|apply wS|apply wB);exact rfl)
  rw[A8,if_pos (by rw[List.length_map];omega)]
  repeat ((with_reducible first|apply A0|apply wI|apply wT|apply wP|apply wS|apply wB);exact rfl)
  refine A0 (idx _) ?_
  repeat ((with_reducible first|apply A0|apply wI|apply wT|apply wP|apply wS|apply wB);exact rfl)
  refine A0 (R4 (c:=c) rfl) (L3 (key14 _ ?_))
  rw[Bool.eq_iff_iff,beq_iff_eq,decide_eq_true_eq]
  exact ⟨fun e=>UInt8.toNat_inj.1 (by have:UInt8.toNat 92=92:=rfl;omega),fun e=>by rw[e];rfl⟩
end
end Go.Sv
end
