/- What the code of reading answers: numbers, a hunk's first line, a header's name. What the code of reading answers: a header's name, a hunk's rows. A variable's part that is nil, taken as an empty row; a row that is written no more, handed on for good; a call alone that answers one of several values. -/
import Derived.Test.YtgdnoobpnhmpjaaGreatDoorUnO
import Derived.Test.YtgdnoobpnhmpjaaGreatDoorUnQ
import Derived.Test.YtgdnoobpnhmpjaaGreatDoorSvY
import Derived.Test.YtgdnoobpnhmpjaaGreatDoorSvIx
set_option linter.unusedVariables false
set_option linter.unusedSimpArgs false
set_option maxRecDepth 100000
section
namespace Go.Sv.U
open Go Go.RowKit Go.Proofs
section
variable {w0:B4}{σ:A1}{R:AV→A1→Prop}
abbrev numA(x:Int×Ln×Bool):AV:=.tup [.pv (.int .i64 x.1),.pv (.str x.2.1),.pv (.bool x.2.2)]
theorem num_loop(s:Ln)(hs:s.length≤140737488355328)(v:AV):∀(r:Ln) (i:Nat) (n:Int),s.drop i=r→i≤s.length→0≤n→n≤2147483648 →
  v=numA ((bg r n).1,(bg r n).2,decide ((bg r n).2.length<s.length)&&decide ((bg r n).1≤2147483647)) →
  E7.n6 (E7.X w0 0) w0 0 (fun r' _=>r'=v) [] s n (i:Int):=by
 have stop:∀(r:Ln) (i:Nat) (n:Int),s.drop i=r→i≤s.length→v=numA (n,r,decide (r.length<s.length)&&decide (n≤2147483647))→E7.n17 (E7.X w0 0) w0 0 (fun r' _=>r'=v) [] s n (i:Int):=by
  intro r i n hd hi hv
  have hr:r.length=s.length-i:=by rw[← hd,List.length_drop]
  have fin:∀t,t=(decide (r.length<s.length)&&decide (n≤2147483647))→E7.n19 (E7.X w0 0) w0 0 (fun r' _=>r'=v) [] n r t:=by
   rintro t rfl
   refine E7.n19_in ?_
   rw[E7.b19_eq]
   exact D6 (Nat.zero_le _) hv.symm
  refine E7.n17_in ?_
  rw[E7.b17_eq]
  refine A0 (F5 hi) (F4 ?_)
  rw[hd,B0]
  refine B5 (fun g=>⟨A0 (F5 hi) (by rw[hd]),fin _ ?_⟩) (fun g=>⟨A0 (F5 hi) (by rw[hd]),fin _ ?_⟩)
  ·rw[decide_eq_true (show r.length<s.length by omega),Bool.true_and]
  ·rw[decide_eq_false (show ¬r.length<s.length by omega),Bool.false_and]
 intro r
 induction r with
 | nil=>
  intro i n hd hi h0 h1 hv
  have hk:=X7 hd
  refine E7.n6_in ?_
  rw[E7.b7_eq,B0,if_neg (by omega)]
  refine E7.n10_in ?_
  rw[E7.b10_eq,C3]
  exact stop [] i n hd hi hv
 | cons c r ih=>
  intro i n hd hi h0 h1 hv
  obtain ⟨g1,g2,hk⟩:=Q6 hd
  have hc:=c.toNat_lt
  have key:∀t,t=decide (48≤c.toNat∧c.toNat≤57)→E7.n10 (E7.X w0 0) w0 0 (fun r' _=>r'=v) [] s n (i:Int) t:=by
   rintro t rfl
   refine E7.n10_in ?_
   rw[E7.b10_eq,B0]
   rw[bg] at hv
   refine B5 (fun g=>?_) (fun g=>?_)
   ·rw[if_pos g] at hv
    refine A0 (M3 g1) (G2 ?_)
    rw[vj (n:=(c.toNat:Int)-48) (by omega) (by omega),D8 (n:=n*10) (by omega) (by omega),D8 (n:=(c.toNat:Int)-48) (by omega) (by omega),D8 (n:=n*10+((c.toNat:Int)-48)) (by omega) (by omega),K6 hk (by omega)]
    exact ih (i+1) (pk (n*10+((c.toNat:Int)-48))) g2 (by omega) (by unfold pk;split<;>omega) (by unfold pk;split<;>omega) hv
   ·rw[if_neg g] at hv
    exact stop (c::r) i n hd hi hv
  refine E7.n6_in ?_
  rw[E7.b7_eq,B0,if_pos (by omega)]
  refine A0 (M3 g1) (G2 ?_)
  rw[B0]
  refine B5 (fun g=>?_) (fun g=>key _ ?_)
  ·refine A0 (M3 g1) (G2 (key _ ?_))
   rw[decide_eq_decide];omega
  ·rw[decide_eq_false (by omega)]
theorem cw(L:Laid w0.w){s:Ln}(hs:s.length≤140737488355328)(hR:R (numA (L4 s)) σ):A2 (cx w0) E7.id [.pv (.str s)] σ R:=by
 refine A2.alone L rfl (fun w1 L1=>?_) rfl hR
 refine E7.calls ?_
 rw[E7.b0_eq]
 exact num_loop s hs _ s 0 0 rfl (Nat.zero_le _) (by omega) (by omega) rfl
abbrev rangA(x:Int×Int×Ln×Bool):AV:=.tup [.pv (.int .i64 x.1),.pv (.int .i64 x.2.1),.pv (.str x.2.2.1),.pv (.bool x.2.2.2)]
theorem al(L:Laid w0.w){s:Ln}(hs:s.length≤140737488355328)(hR:R (rangA (Z4 s)) σ):A2 (cx w0) J3.id [.pv (.str s)] σ R:=by
 refine A2.alone L rfl (fun w1 L1=>?_) rfl hR
 have hn:=ct s
 have key:∀t,t = !((L4 s).2.2&&Lib.hasPrefix (L4 s).2.1 [44])→J3.n7 (J3.X w1 0) w1 0 (fun r' _=>r'=rangA (Z4 s)) [] (L4 s).2.1 (L4 s).1 (L4 s).2.2 t:=by
  rintro t rfl
  refine J3.n7_in ?_
  rw[J3.b7_eq,E9]
  refine A4 (fun g=>?_) (fun g=>?_)
  ·rw[Bool.and_eq_true] at g
   have hle:=jm g.2
   refine A0 (F5 (k:=1) (by simpa using hle)) (F4 ?_)
   refine cw L1 (by rw[List.length_drop];omega) ?_
   repeat ((with_reducible first|apply A0|apply wI|apply wT|apply wP|apply wS|apply wB);exact rfl)
   refine D6 (Nat.zero_le _) ?_
   unfold Z4
   rw[if_pos g]
  ·refine D6 (Nat.zero_le _) ?_
   unfold Z4
   rw[if_neg (by rw[← Bool.and_eq_true,g];decide)]
 refine J3.calls ?_
 rw[J3.b0_eq]
 refine cw L1 hs ?_
 repeat ((with_reducible first|apply A0|apply wI|apply wT|apply wP|apply wS|apply wB);exact rfl)
 rw[E9]
 refine A4 (fun g=>?_) (fun g=>key _ ?_)
 ·refine O3 (E5 (key _ ?_))
  rw[g,Bool.true_and]
 ·rw[g];rfl
abbrev hC0(h:Hnk):List AV:=[.pv (.int .i64 h.a),.pv (.int .i64 h.n),.pv (.int .i64 h.b),.pv (.int .i64 h.m),.pv (.str h.head),.nilsl]
abbrev fS(h:Hnk):A1:=[.cells 46 (hC0 X3),.cells 46 (hC0 h)]
def rr(x:Hnk×Bool):AV:=.tup [.agg (hC0 x.1),.pv (.bool x.2)]
theorem fst4_spec(L:Laid w0.w){h:Hnk}{s:Ln}{ok:Bool}(hs:s.length≤140737488355328):F8.n30 (F8.X w0 0) w0 0 (fun r' _=>r'=rr (fst4 h s ok)) (fS h) s (.ptr 0 0) (.ptr 1 0) ok:=by
 have key:∀t,t = !(ok && !(decide (s ≠ []∧s.head? ≠ some 32)))→F8.n33 (F8.X w0 0) w0 0 (fun r' _=>r'=rr (fst4 h s ok)) (fS h) s (.ptr 0 0) (.ptr 1 0) t:=by
  rintro t rfl
  refine F8.n33_in ?_
  rw[F8.b33_eq,E9]
  refine A4 (fun g=>?_) (fun g=>?_)
  ·simp only[Bool.and_eq_true,Bool.not_eq_true',decide_eq_false_iff_not] at g
   refine ae (F4 ?_)
   repeat ((with_reducible first|apply A0|apply wI|apply wT|apply wP|apply wS|apply wB);exact rfl)
   refine nd (σ:=[]) L5 rfl rfl ?_
   unfold fst4
   rw[if_neg (by rw[g.1];decide),if_neg g.2];rfl
  ·repeat ((with_reducible first|apply A0|apply wI|apply wT|apply wP|apply wS|apply wB);exact rfl)
   refine nd (σ:=[]) L5 rfl rfl ?_
   unfold fst4
   split
   ·rfl
   ·rename_i h1
    split
    ·rfl
    ·rename_i h2
     have:ok=true:=by simpa using h1
     rw[this,decide_eq_false h2] at g;cases g
 refine F8.n30_in ?_
 rw[F8.b30_eq,E9]
 refine A4 (fun g=>?_) (fun g=>key _ ?_)
 ·rw[E9,Q8]
  refine B5 (fun g2=>key _ ?_) (fun g2=>?_)
  ·rw[g,decide_eq_false (by rw[g2];simp)];rfl
  ·cases s with
   | nil=>exact absurd rfl g2
   | cons c r=>
    refine A0 (M3 (c:=c) rfl) (G2 (key _ ?_))
    rw[g,Bool.true_and,Bool.not_not]
    have:((c::r) ≠ []∧(c::r).head? ≠ some 32) ↔ ¬((c.toNat:Int)=32):=by
     simp only[List.head?_cons,ne_eq,reduceCtorEq,not_false_eq_true,true_and,Option.some.injEq]
     constructor
     ·intro h e;exact h (UInt8.toNat_inj.1 (by have:UInt8.toNat 32=32:=rfl;omega))
     ·intro h e;exact h (by rw[e];rfl)
    rw[decide_eq_decide.2 this,decide_not];rfl
 ·rw[g];rfl
theorem fst3_spec(L:Laid w0.w){h:Hnk}{s:Ln}{ok:Bool}(hs:s.length≤140737488355328):F8.n24 (F8.X w0 0) w0 0 (fun r' _=>r'=rr (fst3 h s ok)) (fS h) s (.ptr 0 0) (.ptr 1 0) ok:=by
 have:=bn s [32,64,64]
 refine F8.n24_in ?_
 rw[F8.b24_eq]
 unfold fst3
 refine A4 (fun g=>?_) (fun g=>?_)
 ·rw[if_pos g]
  refine fg hs ?_
  repeat ((with_reducible first|apply A0|apply wI|apply wT|apply wP|apply wS|apply wB);exact rfl)
  exact fst4_spec L (by omega)
 ·rw[if_neg (by rw[g];decide)]
  exact fst4_spec L hs
theorem fst2_spec(L:Laid w0.w){h:Hnk}{s:Ln}{ok:Bool}(hs:s.length≤140737488355328):F8.n18 (F8.X w0 0) w0 0 (fun r' _=>r'=rr (fst2 h s ok)) (fS h) s (.ptr 0 0) (.ptr 1 0) ok:=by
 have:=na s
 refine F8.n18_in ?_
 rw[F8.b18_eq]
 unfold fst2
 refine A4 (fun g=>?_) (fun g=>?_)
 ·rw[if_pos g]
  refine al L hs ?_
  repeat ((with_reducible first|apply A0|apply wI|apply wT|apply wP|apply wS|apply wB);exact rfl)
  exact fst3_spec L (h:={ h with b:=(Z4 s).1,m:=(Z4 s).2.1 }) (by omega)
 ·rw[if_neg (by rw[g];decide)]
  exact fst3_spec L hs
theorem fst1_spec(L:Laid w0.w){h:Hnk}{s:Ln}{ok:Bool}(hs:s.length≤140737488355328):F8.n12 (F8.X w0 0) w0 0 (fun r' _=>r'=rr (fst1 h s ok)) (fS h) s (.ptr 0 0) (.ptr 1 0) ok:=by
 have:=bn s [32,43]
 refine F8.n12_in ?_
 rw[F8.b12_eq]
 unfold fst1
 refine A4 (fun g=>?_) (fun g=>?_)
 ·rw[if_pos g]
  refine fg hs ?_
  repeat ((with_reducible first|apply A0|apply wI|apply wT|apply wP|apply wS|apply wB);exact rfl)
  exact fst2_spec L (by omega)
 ·rw[if_neg (by rw[g];decide)]
  exact fst2_spec L hs
theorem xe(L:Laid w0.w){s:Ln}(hs:s.length≤140737488355328)(hR:R (rr (Q4 s)) σ):A2 (cx w0) F8.id [.pv (.str s)] σ R:=by
 refine A2.alone L rfl (fun w1 L1=>?_) rfl hR
 have h1:=bn s [64,64,32,45]
 have h2:=na (W1 s [64,64,32,45]).1
 refine F8.calls ?_
 rw[F8.b0_eq]
 refine fg hs ?_
 repeat ((with_reducible first|apply A0|apply wI|apply wT|apply wP|apply wS|apply wB);exact rfl)
 unfold Q4
 refine A4 (fun g=>?_) (fun g=>?_)
 ·rw[if_pos g]
  refine al L1 (by omega) ?_
  repeat ((with_reducible first|apply A0|apply wI|apply wT|apply wP|apply wS|apply wB);exact rfl)
  exact fst1_spec L1 (h:={ X3 with a:=(Z4 (W1 s [64,64,32,45]).1).1,n:=(Z4 (W1 s [64,64,32,45]).1).2.1 }) (by omega)
 ·rw[if_neg (by rw[g];decide)]
  exact fst1_spec L1 (h:=X3) (by omega)
end
end Go.Sv.U
end
section
namespace Go.Sv.U
open Go Go.RowKit Go.Proofs
section
variable {w0:B4}{σ:A1}{R:AV→A1→Prop}
abbrev zN:M1:=.cells 28 [.pv (.str []),.pv (.str [])]
abbrev nmO(p s:Ln):M1:=.cells 28 [.pv (.str p),.pv (.str s)]
abbrev rdr(ls:List Ln)(at_:Nat):M1:=.cells 108 [.pv (im ls),.pv (.int .i64 (at_:Int))]
abbrev S6(ls:List Ln)(at_:Nat):A1:=[zN,zN,rdr ls at_,zN,zN,zN]
theorem bare_len{l mark:Ln}(h:Lib.hasPrefix l mark=true)(hm:mark ≠ [])(hw:P6 mark=false):mark.length≤(H4 l).length:=by
 obtain ⟨t,rfl⟩:=List.isPrefixOf_iff_prefix.1 h
 unfold H4
 cases t with
 | nil=>
  rw[List.append_nil,hw]
  simp
 | cons c t=>
  split
  ·rw[List.length_dropLast,List.length_append,List.length_cons];omega
  ·simp
def dj(mark:Ln)(ls:List Ln)(at_:Nat):Option (Ln×Ln):=match ls[at_]? with
 | some l=>bl mark l
 | none=>none
def nameA(o:Option (Ln×Ln))(at_:Nat):AV:=match o with
 | some (p,s)=>.tup [.pv (nmP p s),.pv (.raw (.pointer none))]
 | none=>.tup [.pv (nmP [] []),.ro (.agg [.int .i64 110,.int .i64 (at_:Int)]) 0]
def ua(o:Option (Ln×Ln))(at_:Nat):Nat:=match o with
 | some _=>at_+1
 | none=>at_
theorem rl{ls:List Ln}{i:Nat}{l:Ln}(h:ls[i]? = some l):(ls.map PV.str)[i]? = some (.str l):=by rw[List.getElem?_map,h];rfl
abbrev nS(ls:List Ln)(at_:Nat)(T:A1):A1:=S6 ls at_++(T ++ [zN,.cells 113 [.pv (.int .i64 110),.pv (.int .i64 (at_:Int))]])
theorem vq{ls:List Ln}{at_:Nat}{T:A1}(hT:T = [] ∨ ∃p s,T = [nmO p s])(hR:R (nameA none at_) (S6 ls at_++T))(path H8:Ln)(t:Bool)(ht:t=true):
  D3.n17 (D3.X w0 (S6 ls at_++T).length) w0 (S6 ls at_++T).length R (nS ls at_ T) (.ptr 2 0) (.ptr (S6 ls at_++T).length 0) (.ptr ((S6 ls at_++T).length+1) 0) path H8 t:=by
 subst ht
 rcases hT with rfl|⟨p0,s0,rfl⟩
 all_goals
  refine D3.n17_in ?_
  rw[D3.b17_eq,D4]
  repeat ((with_reducible first|apply A0|apply wI|apply wT|apply wP|apply wS|apply wB);exact rfl)
  exact X4 (σ:=S6 ls at_++_) L5 rfl rfl hR
theorem uw{ls:List Ln}{at_:Nat}{T:A1}(hT:T = [] ∨ ∃p s,T = [nmO p s])(hat:at_≤8388608){p s H8:Ln}(e:s=Lib.trimPrefix H8 [9])(hR:R (nameA (some (p,s)) at_) (S6 ls (at_+1)++T))(t:Bool)(ht:t=false):
  D3.n17 (D3.X w0 (S6 ls at_++T).length) w0 (S6 ls at_++T).length R (nS ls at_ T) (.ptr 2 0) (.ptr (S6 ls at_++T).length 0) (.ptr ((S6 ls at_++T).length+1) 0) p H8 t:=by
 subst ht
 subst e
 have wi:IntKind.wrap .i64 ((at_:Int)+1)=((at_+1:Nat):Int):=by rw[D8 (by omega) (by omega)];omega
 rcases hT with rfl|⟨p0,s0,rfl⟩
 all_goals
  refine D3.n17_in ?_
  rw[D3.b17_eq,C3]
  repeat ((with_reducible first|apply A0|apply wI|apply wT|apply wP|apply wS|apply wB);exact rfl)
  refine ae (F4 ?_)
  repeat ((with_reducible first|apply A0|apply wI|apply wT|apply wP|apply wS|apply wB);exact rfl)
  rw[wi]
  exact nd (σ:=S6 ls (at_+1)++_) L5 rfl rfl hR
theorem name_spec(L:Laid w0.w){mark:Ln}(hm:mark ≠ [])(hw:P6 mark=false)(hm10:mark.length≤100){ls:List Ln}{at_:Nat}{T:A1}(hT:T = [] ∨ ∃p s,T = [nmO p s])(hl:ls.length≤8388608)(hx:∀l∈ls,l.length≤8388608)
  (hR:R (nameA (dj mark ls at_) at_) (S6 ls (ua (dj mark ls at_) at_)++T)):A2 (cx w0) D3.id [.ptr 2 0,.pv (.str mark)] (S6 ls at_++T) R:=by
 have hT':=hT
 rcases hT with rfl|⟨p0,s0,rfl⟩
 all_goals
  refine D3.calls ?_
  rw[D3.b0_eq]
  repeat ((with_reducible first|apply A0|apply wI|apply wT|apply wP|apply wS|apply wB);exact rfl)
  refine ⟨rfl,?_⟩
  repeat ((with_reducible first|apply A0|apply wI|apply wT|apply wP|apply wS|apply wB);exact rfl)
  rw[B0]
  refine B5 (fun g=>?_) (fun g=>?_)
  ·refine D3.n7_in ?_
   rw[D3.b7_eq,D4]
   repeat ((with_reducible first|apply A0|apply wI|apply wT|apply wP|apply wS|apply wB);exact rfl)
   have hn:ls[at_]? = none:=List.getElem?_eq_none (by rw[List.length_map] at g;omega)
   have e:dj mark ls at_=none:=by unfold dj;rw[hn]
   rw[e] at hR
   exact X4 (σ:=S6 ls at_++_) L5 rfl rfl hR
  ·rw[List.length_map] at g
   obtain ⟨l,hl0⟩:∃l,ls[at_]? = some l:=⟨ls[at_]'(by omega),List.getElem?_eq_getElem (by omega)⟩
   have hll:=hx l (List.mem_of_getElem? hl0)
   have hbl:=Y7 l
   have e0:dj mark ls at_=bl mark l:=by unfold dj;rw[hl0]
   rw[e0] at hR
   repeat ((with_reducible first|apply A0|apply wI|apply wT|apply wP|apply wS|apply wB);exact rfl)
   refine A0 (T6 ju (rl hl0) rfl) ?_
   repeat ((with_reducible first|apply A0|apply wI|apply wT|apply wP|apply wS|apply wB);exact rfl)
   refine O3 (E5 ?_)
   cases hp:Lib.hasPrefix l mark with
   | false=>
    refine D3.n7_in ?_
    rw[D3.b7_eq,Bool.not_false,D4]
    repeat ((with_reducible first|apply A0|apply wI|apply wT|apply wP|apply wS|apply wB);exact rfl)
    have e:bl mark l=none:=by unfold bl;rw[if_neg (by rw[hp];decide)]
    rw[e] at hR
    exact X4 (σ:=S6 ls at_++_) L5 rfl rfl hR
   | true=>
    have hbe:=bare_len hp hm hw
    refine D3.n7_in ?_
    rw[D3.b7_eq,Bool.not_true,C3]
    repeat ((with_reducible first|apply A0|apply wI|apply wT|apply wP|apply wS|apply wB);exact rfl)
    refine A0 (T6 ju (rl hl0) rfl) ?_
    repeat ((with_reducible first|apply A0|apply wI|apply wT|apply wP|apply wS|apply wB);exact rfl)
    refine W8 (by omega) (F4 ?_)
    refine A0 (F5 hbe) (F4 ?_)
    refine Unquote_spec L (by rw[List.length_drop];omega) ?_
    cases hu:unqF ((H4 l).drop mark.length) with
    | none=>
     unfold unqA
     repeat ((with_reducible first|apply A0|apply wI|apply wT|apply wP|apply wS|apply wB);exact rfl)
     rw[P2]
     refine A0 rfl (A0 (v:=false) rfl (E5 ?_))
     rw[Bool.not_false,D4]
     generalize hbt:true=bt
     have e:bl mark l=none:=by unfold bl;rw[if_pos hp,hu]
     rw[e] at hR
     exact vq hT' hR _ _ bt hbt.symm
    | some q=>
     obtain ⟨p,H8⟩:=q
     unfold unqA
     repeat ((with_reducible first|apply A0|apply wI|apply wT|apply wP|apply wS|apply wB);exact rfl)
     rw[P2]
     refine A0 rfl (A0 (v:=true) rfl (E5 ?_))
     rw[Bool.not_true,C3,E9,Q8]
     refine B5 (fun g2=>?_) (fun g2=>?_)
     ·have e:bl mark l=some (p,[]):=by unfold bl;rw[if_pos hp,hu,g2]
      rw[e] at hR
      generalize hbt:false=bt
      exact uw hT' (by omega) (by rw[g2];rfl) hR bt hbt.symm
     ·cases H8 with
      | nil=>exact absurd rfl g2
      | cons c r=>
       refine A0 (M3 (c:=c) rfl) (G2 ?_)
       by_cases hc:c=9
       ·have e:bl mark l=some (p,r):=by unfold bl;rw[if_pos hp,hu];simp[hc]
        rw[e] at hR
        have ht:r=Lib.trimPrefix (c::r) [9]:=by subst hc;simp[Lib.trimPrefix,Lib.hasPrefix,List.isPrefixOf]
        have hb:((c.toNat:Int) != 9)=false:=by subst hc;rfl
        exact uw hT' (by omega) ht hR _ hb
       ·have e:bl mark l=none:=by unfold bl;rw[if_pos hp,hu];simp[hc]
        rw[e] at hR
        have hb:((c.toNat:Int) != 9)=true:=by
         rw[bne_iff_ne]
         intro e
         exact hc (UInt8.toNat_inj.1 (by have:UInt8.toNat 9=9:=rfl;omega))
        exact vq hT' hR _ _ _ hb
end
end Go.Sv.U
end
section
namespace Go.Sv
attribute [local semireducible] A2
open Go Go.RowKit
theorem C5.recell{C:Ctx}{m:Mp}{K:KS}{σ:A1}{w:World}(hB:C5 C m K σ w){id:Nat}{ty:TypeId}{cs cs':List AV}(ho:σ[id]? = some (.cells ty cs))(hl:cs'.length=cs.length)
  (hr:∀(j:Nat) a a' v,cs[j]? = some a→cs'[j]? = some a'→C7 m K a v→C7 m K a' v):C5 C m K (σ.set id (.cells ty cs')) w:=by
 have hlt:=(List.getElem?_eq_some_iff.1 ho).1
 have hget:∀(i:Nat) x,(σ.set id (.cells ty cs'))[i]? = some x→(i=id∧x = .cells ty cs')∨(i≠id∧σ[i]? = some x):=by
  intro i x h
  by_cases e:i=id
  ·subst e
   rw[List.getElem?_set_self hlt] at h
   cases h;exact .inl ⟨rfl,rfl⟩
  ·rw[List.getElem?_set_ne (Ne.symm e)] at h
   exact .inr ⟨e,h⟩
 have hold:∀(i:Nat) x,(σ.set id (.cells ty cs'))[i]? = some x → ∃y,σ[i]? = some y∧blk m i x=blk m i y:=by
  intro i x h
  rcases hget i x h with ⟨rfl,rfl⟩|⟨_,h⟩
  ·exact ⟨_,ho,rfl⟩
  ·exact ⟨x,h,rfl⟩
 refine ⟨hB.below,hB.keep,fun i ver l h=>?_,fun i x h=>?_,fun i x b h hb=>?_,fun i x i' x' b h h' hb hb'=>?_,hB.glob,hB.old⟩
 ·rw[List.length_set];exact hB.dom i ver l h
 ·rcases hget i x h with ⟨rfl,rfl⟩|⟨_,h⟩
  ·obtain ⟨b,cap,es,arr,hm,hh,hsz,hcr,hk⟩:=hB.obj i _ ho
   refine ⟨b,cap,es,arr,hm,hh,by rw[hl];exact hsz,fun j a v ha hv=>?_,hk⟩
   have hjl:j<cs.length:=by
    have:=(List.getElem?_eq_some_iff.1 ha).1
    omega
   have:=hcr j _ v (List.getElem?_eq_getElem hjl) hv
   exact ⟨hr j _ a v (List.getElem?_eq_getElem hjl) ha this.1,this.2⟩
  ·exact hB.obj i x h
 ·obtain ⟨y,hy,e⟩:=hold i x h
  rw[e] at hb
  exact hB.base i y b hy hb
 ·obtain ⟨y,hy,e⟩:=hold i x h
  obtain ⟨y',hy',e'⟩:=hold i' x' h'
  rw[e] at hb
  rw[e'] at hb'
  exact hB.apart i y i' y' b hy hy' hb hb'
theorem N2.cellNil{C:Ctx}{n:Nat}{env:Env}{σ:A1}{id es:Nat}{ty:TypeId}{pre post:List AV}(ho:σ[id]? = some (.cells ty (pre ++ .nilsl::post))):
  N2 C n env σ env (σ.set id (.cells ty (pre ++ .arr σ.length 0 0 0::post)) ++ [.arr es [] false]):=by
 intro hn m K w vs hB hE
 obtain ⟨m',hB',hx,hm⟩:=hB.arrNil es
 have hlt:=(List.getElem?_eq_some_iff.1 ho).1
 have ho':(σ ++ [M1.arr es [] false])[id]? = some (.cells ty (pre ++ .nilsl::post)):=by rw[List.getElem?_append_left hlt];exact ho
 have:=hB'.recell ho' (cs':=pre ++ .arr σ.length 0 0 0::post) (by simp) (fun j a a' v ha ha' hr=>by
  by_cases h1:j<pre.length
  ·rw[List.getElem?_append_left h1] at ha ha'
   rw[ha] at ha';cases ha';exact hr
  ·rw[List.getElem?_append_right (by omega)] at ha ha'
   cases h2:j-pre.length with
   | zero=>
    rw[h2] at ha ha'
    simp only[List.getElem?_cons_zero,Option.some.injEq] at ha ha'
    subst ha;subst ha'
    cases hr
    exact .arrNil _ hm
   | succ k=>
    rw[h2] at ha ha'
    simp only[List.getElem?_cons_succ] at ha ha'
    rw[ha] at ha';cases ha';exact hr)
 rw[List.set_append_left _ _ hlt] at this
 exact ⟨m',K,this,fun t=>(hE t).mono hx,hx.le n,by simp;omega⟩
inductive Frz(id:Nat)(xs:List PV):AV→AV→Prop
 | same (a:AV):Frz id xs a a
 | row (n:Nat) (hn:n=xs.length):Frz id xs (.arr id n 0 n) (.pv (.sl xs))
 | part (pre post:List AV) (n:Nat) (hn:n=xs.length):Frz id xs (.agg (pre ++ .arr id n 0 n::post)) (em (pre ++ .pv (.sl xs)::post))
theorem Frz.rep{C:Ctx}{m:Mp}{K:KS}{σ:A1}{w:World}(hB:C5 C m K σ w){id es:Nat}{xs:List PV}{fz:Bool}(ho:σ[id]? = some (.arr es xs fz)){a a':AV}(h:Frz id xs a a'){v:Value}(hr:C7 m K a v):C7 m (vw m K w id es xs) a' v:=by
 have hext:Ext m K m (vw m K w id es xs):=⟨fun _ _ _ h=>h,fun _ _ _ h=>.inl h⟩
 cases h with
 | same=>exact hr.mono hext
 | row n hn=>subst hn;exact C7.frozen hB ho hr
 | part pre post n hn=>
  subst hn
  cases hr with
  | agg _ us hl hrr h1=>
   refine cg (by simpa using hl) (fun j p v hp hv=>?_) h1
   by_cases g1:j<pre.length
   ·rw[List.getElem?_append_left g1] at hp
    exact (hrr j p v (by rw[List.getElem?_append_left g1];exact hp) hv).mono hext
   ·rw[List.getElem?_append_right (by omega)] at hp
    cases g2:j-pre.length with
    | zero=>
     rw[g2] at hp
     simp only[List.getElem?_cons_zero,Option.some.injEq] at hp
     subst hp
     exact C7.frozen hB ho (hrr j _ v (by rw[List.getElem?_append_right (by omega),g2];rfl) hv)
    | succ k=>
     rw[g2] at hp
     simp only[List.getElem?_cons_succ] at hp
     exact (hrr j p v (by rw[List.getElem?_append_right (by omega),g2];exact hp) hv).mono hext
inductive Frzs(id:Nat)(xs:List PV):List AV→List AV→Prop
 | nil:Frzs id xs [] []
 | cons {a a':AV} {l l':List AV} (h:Frz id xs a a') (t:Frzs id xs l l'):Frzs id xs (a::l) (a'::l')
theorem Frzs.len{id:Nat}{xs:List PV}{l l':List AV}(h:Frzs id xs l l'):l.length=l'.length:=by
 induction h with
 | nil=>rfl
 | cons _ _ ih=>simp[ih]
theorem Frzs.at{id:Nat}{xs:List PV}{l l':List AV}(h:Frzs id xs l l'):∀(j:Nat) a',l'[j]? = some a' → ∃a,l[j]? = some a∧Frz id xs a a':=by
 induction h with
 | nil=>intro j a' h;simp at h
 | cons h t ih=>
  intro j b hb
  cases j with
  | zero=>simp at hb;subst hb;exact ⟨_,rfl,h⟩
  | succ j=>simp at hb;exact ih j b hb
theorem A2.freeze{C:Ctx}{f:FuncId}{args args':List AV}{σ:A1}{R:AV→A1→Prop}{id es:Nat}{xs:List PV}{fz:Bool}(ho:σ[id]? = some (.arr es xs fz))(ha:Frzs id xs args args')(h:A2 C f args' (σ.set id (.arr es xs true)) R):A2 C f args σ R:=by
 intro m K w vs hB hv
 have hv':jb m (vw m K w id es xs) args' vs:=by
  refine ⟨by rw[← ha.len];exact hv.1,fun j a v hj hjv=>?_⟩
  obtain ⟨b,hb,hf⟩:=ha.at j a hj
  exact hf.rep hB ho (hv.2 j _ v hb hjv)
 refine O1.mono (h m _ w vs (hB.freeze ho) hv') fun v w' ⟨r,m',K',σ',hB',hl,hle,hr,hR⟩=>⟨r,m',K',σ',hB',by rw[List.length_set] at hl;exact hl,⟨by rw[List.length_set] at hle;exact hle.1,fun b o v hk=>hle.2 b o v (.inl hk)⟩,hr,hR⟩
theorem A2.freezeCell{C:Ctx}{f:FuncId}{args:List AV}{σ:A1}{R:AV→A1→Prop}{id id2 es n:Nat}{xs:List PV}{fz:Bool}{ty:TypeId}{pre post:List AV}(ho:σ[id]? = some (.arr es xs fz))(hc:σ[id2]? = some (.cells ty (pre ++ .arr id n 0 n::post)))(hn:n=xs.length)
  (h:A2 C f args ((σ.set id (.arr es xs true)).set id2 (.cells ty (pre ++ .pv (.sl xs)::post))) R):A2 C f args σ R:=by
 subst hn
 intro m K w vs hB hv
 have hext:Ext m K m (vw m K w id es xs):=⟨fun _ _ _ h=>h,fun _ _ _ h=>.inl h⟩
 have hne:id≠id2:=fun e=>by subst e;rw[ho] at hc;cases hc
 have hc':(σ.set id (M1.arr es xs true))[id2]? = some (.cells ty (pre ++ .arr id xs.length 0 xs.length::post)):=by rw[List.getElem?_set_ne hne];exact hc
 have hB2:=(hB.freeze ho).recell hc' (cs':=pre ++ .pv (.sl xs)::post) (by simp) (fun j a a' v ha ha' hr=>by
  by_cases h1:j<pre.length
  ·rw[List.getElem?_append_left h1] at ha ha'
   rw[ha] at ha';cases ha';exact hr
  ·rw[List.getElem?_append_right (by omega)] at ha ha'
   cases h2:j-pre.length with
   | zero=>
    rw[h2] at ha ha'
    simp only[List.getElem?_cons_zero,Option.some.injEq] at ha ha'
    subst ha;subst ha'
    refine C7.frozen hB ho ?_
    rcases hr.arr_inv with ⟨b,cap,es',c,ad,rfl,hm,hcc,hl,hv,ha⟩|⟨h0,_,_,rfl,hm⟩
    ·exact .arr _ _ _ _ b cap es' c ad hm hcc hl hv ha
    ·rw[h0];exact .arrNil _ hm
   | succ k=>
    rw[h2] at ha ha'
    simp only[List.getElem?_cons_succ] at ha ha'
    rw[ha] at ha';cases ha';exact hr)
 have hv':jb m (vw m K w id es xs) args vs:=⟨hv.1,fun j a v hj hjv=>(hv.2 j a v hj hjv).mono hext⟩
 refine O1.mono (h m _ w vs hB2 hv') fun v w' ⟨r,m',K',σ',hB',hl,hle,hr,hR⟩=>⟨r,m',K',σ',hB',by simpa using hl,⟨by have:=hle.1;simpa using this,fun b o v hk=>hle.2 b o v (.inl hk)⟩,hr,hR⟩
theorem A2.some_of{w0:B4}{f:FuncId}{args:List AV}{σ:A1}{R:AV→A1→Prop}{P:AV→Prop}(L:Laid w0.w)(ha:args.all AV.isPv=true)(h:∀w1:B4,Laid w1.w→A2 (cx w1) f args [] fun r' _=>P r')(hn:∀r,P r→AV.under 0 r=true)(hR:∀r,P r→R r σ):A2 (cx w0) f args σ R:=by
 intro m K w vs hB hv
 have hB1:C5 (cx ⟨w,K⟩) (fun _ _=>none) K [] w:=⟨Below.refl _ _,hB.keep,(fun _ _ _ h=>nomatch h),(fun id x h=>nomatch (show (none:Option M1)=some x from h)),(fun id x b h=>nomatch (show (none:Option M1)=some x from h)),(fun id x id' x' b h=>nomatch (show (none:Option M1)=some x from h)),(fun g a h=>nomatch (show (none:Option AV)=some a from h)),fun b o v h=>.inl h⟩
 have hv1:jb (fun _ _=>none) K args vs:=⟨hv.1,fun j a v hj hjv=>(hv.2 j a v hj hjv).pvs (List.all_eq_true.1 ha a (List.mem_of_getElem? hj))⟩
 refine O1.mono (h ⟨w,K⟩ (L.mono hB.below) _ K w vs hB1 hv1) fun v w' ⟨r',m',K',σ',hB',_,hle,hr,e⟩=>?_
 have hK:=hle.2
 refine ⟨r',m,K',σ,hB.moreK hB'.below hK (fun b o v h=>hB'.old b o v h) hB'.keep,Nat.le_refl _,⟨fun _ _ _ _ h=>h,hK⟩,(hr.cut (k:=0) (hn _ e)).mono ⟨fun id ver l h=>?_,fun _ _ _ h=>h⟩,hR _ e⟩
 simp[R8] at h
end Go.Sv
end
