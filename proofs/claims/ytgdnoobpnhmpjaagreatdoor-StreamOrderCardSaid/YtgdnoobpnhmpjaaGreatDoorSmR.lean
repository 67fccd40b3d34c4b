/- A hunk's first line: what the program answers. A hunk's first line: what the program answers, all of it. A hunk's first line: what the program answers of a line. A text with its counts put right, as plain lists; what both sides tell a range as. A text's lines, on both sides. -/
import Derived.Test.YtgdnoobpnhmpjaaGreatDoorSmH
import Derived.Test.YtgdnoobpnhmpjaaGreatDoorSvY
set_option linter.unusedVariables false
set_option linter.unusedSimpArgs false
set_option maxRecDepth 100000
section
namespace Go.Sv
open Go Go.RowKit Go.Proofs
theorem mv{β:Type}{f g:Nat→β}{n:Nat}(h:(List.range n).map f=(List.range n).map g){k:Nat}(hk:k<n):f k=g k:=by
 have:=congrArg (fun l=>l[k]?) h
 simpa[hk] using this
def asP:List PV:=(List.range 256).map fun k=>.bool (Nat.ble 48 k&&Nat.ble k 57)
def asS:A1:=[.cells 178 (asP.map .pv)]
theorem dt:List.length asS=1:=rfl
noncomputable def feA:List (FuncId×FE):=[(H0.id,H0.fe),(E0.id,E0.fe)]
theorem vz(w0:B4):oc (cx w0) feA:=⟨H0.ok w0,E0.ok w0,trivial⟩
theorem wu(w0:B4):ey (cx w0) (jl feA) (au lu) 1000 60 H0.id [.pv (.str [48,49,50,51,52,53,54,55,56,57])] []=some (.tup [.pv (.agg asP),.pv (.bool true)],[]):=by kernel_rfl
theorem con_run(w0:B4):(List.range 256).map (fun k=>ey (cx w0) (jl feA) (au lu) 1000 40 E0.id [.ptr 0 0,.pv (.int .u8 (Int.ofNat k))] asS)=(List.range 256).map (fun k=>some (.pv (.bool (Nat.ble 48 k&&Nat.ble k 57)),asS)):=by kernel_rfl
def cutA(s w:Ln):AV:=match ci s w with
 | some t=>.tup [.pv (.str t),.pv (.bool true)]
 | none=>.tup [.pv (.str s),.pv (.bool false)]
section
variable {w0:B4}{σ:A1}{R:AV→A1→Prop}
theorem rc(L:Laid w0.w){c:UInt8}(hR:R (.pv (.bool (P5 c))) asS):A2 (cx w0) E0.id [.ptr 0 0,.pv (.int .u8 c.toNat)] asS R:=by
 have e:P5 c=(Nat.ble 48 c.toNat&&Nat.ble c.toNat 57):=by
  unfold P5
  have h:∀a b:Nat,decide (a≤b)=Nat.ble a b:=fun a b=>by
   rw[Bool.eq_iff_iff,decide_eq_true_eq,Nat.ble_eq]
  rw[h,h]
 rw[e] at hR
 exact er L (vz w0) (mv (con_run w0) c.toNat_lt) hR
theorem fa(L:Laid w0.w):∀(s:Ln),s.length≤140737488355328→R (.pv (.str (s.dropWhile P5))) asS→B8.n4 (B8.X w0 1) w0 1 R asS s (.ptr 0 0)
 | [],hs,hR=>by
  refine B8.n4_in ?_
  rw[B8.b5_eq,B0,if_neg (by simp)]
  refine B8.n19_in ?_
  rw[B8.b19_eq]
  exact D6 (Nat.le_of_eq dt.symm) hR
 | c::s,hs,hR=>by
  simp only[List.length_cons] at hs
  refine B8.n4_in ?_
  rw[B8.b5_eq,B0,if_pos (by simp only[List.length_cons];omega)]
  refine A0 (M3 (k:=0) (c:=c) rfl) (G2 ?_)
  refine rc L (E5 ?_)
  rw[E9]
  rw[List.dropWhile_cons] at hR
  refine A4 (fun g=>?_) (fun g=>?_)
  ·rw[if_pos g] at hR
   refine A0 (F5 (k:=1) (by simp)) (F4 ?_)
   exact fa L s (by omega) hR
  ·rw[if_neg (by rw[g];decide)] at hR
   refine B8.n19_in ?_
   rw[B8.b19_eq]
   exact D6 (Nat.le_of_eq dt.symm) hR
theorem TrimLD_spec(L:Laid w0.w){s:Ln}(hs:s.length≤140737488355328)(hR:R (.pv (.str (H8 s))) σ):A2 (cx w0) F6.id [.pv (.str s),.pv (.str [48,49,50,51,52,53,54,55,56,57])] σ R:=by
 refine A2.alone L rfl (fun w1 L1=>?_) rfl hR
 have h13:F6.n13 (F6.X w1 0) w1 0 (fun r _=>r = .pv (.str (H8 s))) [] s [48,49,50,51,52,53,54,55,56,57] false:=by
  refine F6.n13_in ?_
  rw[F6.b13_eq,C3]
  refine er L1 (vz w1) (wu w1) ?_
  refine qo (A0 rfl (qo (A0 rfl (E5 ?_))))
  refine A0 (v:=asS) (by kernel_rfl) ?_
  rw[D4]
  refine B8.calls ?_
  rw[B8.b0_eq,dt]
  refine fa L1 s hs (F4 (D6 (Nat.zero_le _) rfl))
 have h5:∀t,(t=true→s = [])→F6.n5 (F6.X w1 0) w1 0 (fun r _=>r = .pv (.str (H8 s))) [] s [48,49,50,51,52,53,54,55,56,57] t:=by
  intro t ht
  refine F6.n5_in ?_
  rw[F6.b5_eq]
  refine A4 (fun g=>?_) (fun g=>?_)
  ·rw[ht g]
   exact D6 (Nat.zero_le _) rfl
  ·rw[G6,if_neg (by decide)]
   exact h13
 refine F6.calls ?_
 rw[F6.b0_eq,Q8]
 refine B5 (fun g=>h5 _ (fun _=>g)) (fun g=>h5 _ (fun e=>by cases e))
theorem db(L:Laid w0.w){s:Ln}(hs:s.length≤140737488355328)(hR:R (.tup [.pv (.str (H8 s)),.pv (.bool (decide (Q2 s ≠ [])))]) σ):A2 (cx w0) stream_digits.id [.pv (.str s)] σ R:=by
 refine stream_digits.calls ?_
 rw[stream_digits.b0_eq]
 refine TrimLD_spec L hs (F4 (D5 ?_))
 have e:decide (((H8 s).length:Int)<(s.length:Int))=decide (Q2 s ≠ []):=by
  have:=congrArg List.length (mz s)
  rw[List.length_append] at this
  rw[decide_eq_decide]
  constructor
  ·intro h e;rw[e] at this;simp only[List.length_nil] at this;omega
  ·intro h;have:=List.length_pos_iff.2 h;omega
 rw[e]
 exact hR
theorem pp{s p:Ln}(hR:R (.pv (.bool (Lib.hasPrefix s p))) σ):A2 (cx w0) D7.id [.pv (.str s),.pv (.str p)] σ R:=by
 have fin:∀t,t=Lib.hasPrefix s p→D7.n4 (D7.X w0 σ.length) w0 σ.length R σ t:=by
  rintro t rfl
  refine D7.n4_in ?_
  rw[D7.b4_eq]
  exact D5 hR
 refine D7.calls ?_
 rw[D7.b0_eq,B0]
 refine B5 (fun g=>?_) (fun g=>fin _ ?_)
 ·refine A0 (Q5 (by omega)) (F4 (fin _ ?_))
  rw[pre_take (by omega)]
 ·cases h:Lib.hasPrefix s p with
  | false=>rfl
  | true=>have:=vk h;omega
theorem ek{s p:Ln}(hR:R (cutA s p) σ):A2 (cx w0) E8.id [.pv (.str s),.pv (.str p)] σ R:=by
 refine E8.calls ?_
 rw[E8.b0_eq]
 refine H2.calls ?_
 rw[H2.b0_eq]
 refine pp (E5 ?_)
 rw[E9]
 unfold cutA ci at hR
 refine A4 (fun g=>?_) (fun g=>?_)
 ·rw[if_pos g] at hR
  refine A0 (F5 (vk g)) (F4 (D5 ?_))
  repeat ((with_reducible first|apply A0|apply wI|apply wT|apply wP|apply wS|apply wB);exact rfl)
  exact D5 hR
 ·rw[if_neg (by rw[g];decide)] at hR
  refine D5 ?_
  repeat ((with_reducible first|apply A0|apply wI|apply wT|apply wP|apply wS|apply wB);exact rfl)
  exact D5 hR
theorem Cut44(L:Laid w0.w){p t:Ln}(hp:∀c∈p,c≠44)(hl:p.length+t.length≤1099511627776):(R (.tup [.pv (.str p),.pv (.str t),.pv (.bool true)]) σ→A2 (cx w0) K8.id [.pv (.str (p++44::t)),.pv (.str [44])] σ R)∧(R (.tup [.pv (.str p),.pv (.str []),.pv (.bool false)]) σ→A2 (cx w0) K8.id [.pv (.str p),.pv (.str [44])] σ R):=by
 constructor
 ·intro hR
  refine K8.calls ?_
  rw[K8.b0_eq]
  refine J0.calls ?_
  rw[J0.b0_eq]
  refine cq (G2 ?_)
  rw[index_at p t hp,B0,if_pos (by omega)]
  have hlen:(p++44::t).length=p.length+(t.length+1):=by simp
  have hl1:List.length ([44]:List UInt8)=1:=rfl
  rw[hl1,D8 (by omega) (by omega),show (p.length:Int)+((1:Nat):Int)=((p.length+1:Nat):Int) by omega]
  refine A0 (Q5 (by omega)) (F4 (A0 (F5 (by omega)) (F4 ⟨A0 (F5 (by omega)) rfl,D5 ?_⟩)))
  have e1:(p++44::t).take p.length=p:=by simp
  have e2:(p++44::t).drop (p.length+1)=t:=by rw[List.drop_append];simp
  rw[e1,e2]
  repeat ((with_reducible first|apply A0|apply wI|apply wT|apply wP|apply wS|apply wB);exact rfl)
  exact D5 hR
 ·intro hR
  refine K8.calls ?_
  rw[K8.b0_eq]
  refine J0.calls ?_
  rw[J0.b0_eq]
  refine cq (G2 ?_)
  rw[index_no p hp,B0,if_neg (by decide)]
  refine D5 ?_
  repeat ((with_reducible first|apply A0|apply wI|apply wT|apply wP|apply wS|apply wB);exact rfl)
  exact D5 hR
theorem pb(L:Laid w0.w){s:Ln}(hs:s.length≤1099511627776)(hd:∀c∈s,P5 c=true)(hR:R (.pv (.bool (decide (ap 0 s≤2147483647)))) σ):A2 (cx w0) stream_small.id [.pv (.str s)] σ R:=by
 have hsub:∀c∈s.dropWhile (· == 48),P5 c=true:=fun c hc=>hd c ((List.dropWhile_sublist _).subset hc)
 refine stream_small.calls ?_
 rw[stream_small.b0_eq]
 refine aq (by decide) (F4 ?_)
 rw[B0]
 refine B5 (fun g=>?_) (fun g=>?_)
 ·rw[decide_eq_false (by have:=long_val hd (by omega);omega)] at hR
  exact D5 hR
 ·have hlen:([48]++s.dropWhile (· == 48)).length=1+(s.dropWhile (· == 48)).length:=by rw[List.length_append];rfl
  have hv:ap 0 ([48]++s.dropWhile (· == 48))=ap 0 s:=by rw[valD_app];exact nb s
  have hb:∀(l:Ln) (n:Nat),(∀ c∈l,P5 c=true)→ap n l<(n+1)*10 ^ l.length:=by
   intro l
   induction l with
   | nil=>intro n _;show n<(n+1)*10 ^ 0;rw[Nat.pow_zero,Nat.mul_one];exact Nat.lt_succ_self n
   | cons c l ih=>
    intro n h
    have hc:=io (h c (by simp))
    refine Nat.lt_of_lt_of_le (ih (n*10+(c.toNat-48)) (fun x hx=>h x (List.mem_cons_of_mem _ hx))) ?_
    rw[List.length_cons,Nat.pow_succ,Nat.mul_comm (10 ^ l.length) 10,←Nat.mul_assoc]
    exact Nat.mul_le_mul_right _ (by omega)
  have h1:ap 0 s<9223372036854775808:=by
   rw[← nb]
   have:=hb _ 0 hsub
   have h2:(10:Nat) ^ (s.dropWhile (· == 48)).length≤10 ^ 10:=Nat.pow_le_pow_right (by decide) (by omega)
   have h3:(10:Nat) ^ 10=10000000000:=rfl
   rw[h3] at h2
   rw[Nat.zero_add,Nat.one_mul] at this
   exact Nat.lt_of_lt_of_le this (Nat.le_trans h2 (by decide))
  refine ⟨by show 1+_≤_;omega,?_⟩
  refine mm (by rw[hlen];omega) (atoi_val (by simp) (fun c hc=>?_) (by rw[hv];exact h1)) ?_
  ·rcases List.mem_append.1 hc with h|h
   ·simp only[List.mem_singleton] at h;subst h;rfl
   ·exact hsub c h
  rw[hv]
  repeat ((with_reducible first|apply A0|apply wI|apply wT|apply wP|apply wS|apply wB);exact rfl)
  rw[show decide (((ap 0 s:Nat):Int)≤2147483647)=decide (ap 0 s≤2147483647) by rw[decide_eq_decide];omega]
  exact D5 hR
end
end Go.Sv
end
section
namespace Go.Sv
open Go Go.RowKit Go.Proofs
theorem take_digs(s:Ln):s.take (Q2 s).length=Q2 s:=by
 have h:(Q2 s++H8 s).take (Q2 s).length=Q2 s:=List.take_left
 rw[mz s] at h
 exact h
theorem beh44{t u:Ln}(h:ci t [44]=some u):t=44::u:=by
 unfold ci at h
 split at h
 ·rename_i g
  cases h
  unfold Lib.hasPrefix at g
  rw[List.isPrefixOf_iff_prefix] at g
  obtain ⟨w,rfl⟩:=g
  rfl
 ·cases h
section
variable {w0:B4}{σ:A1}{R:AV→A1→Prop}
theorem numbers_spec(L:Laid w0.w){s:Ln}(hs:s.length≤1099511627776)(hA:Q2 s = [] → ∀t,R (.tup [.pv (.str t),.pv (.bool false)]) σ)(hB:Q2 s ≠ []→ci (H8 s) [44]=none→R (.tup [.pv (.str (H8 s)),.pv (.bool true)]) σ)
  (hC:Q2 s ≠ [] → ∀u,ci (H8 s) [44]=some u→R (.tup [.pv (.str (H8 u)),.pv (.bool (decide (Q2 u ≠ [])))]) σ):A2 (cx w0) stream_numbers.id [.pv (.str s)] σ R:=by
 have hr:=qc s
 refine stream_numbers.calls ?_
 rw[stream_numbers.b0_eq]
 refine db L (by omega) ?_
 repeat ((with_reducible first|apply A0|apply wI|apply wT|apply wP|apply wS|apply wB);exact rfl)
 refine ek ?_
 have h9:∀(ok t:Bool) (m:Ln),(t=true→Q2 s ≠ []∧ci (H8 s) [44]=some m)→(t=false→Q2 s = []∧ok=false∨Q2 s ≠ []∧ok=true∧ci (H8 s) [44]=none)→stream_numbers.n9 (stream_numbers.X w0 σ.length) w0 σ.length R σ (H8 s) ok m t:=by
  intro ok t m g1 g2
  refine stream_numbers.n9_in ?_
  rw[stream_numbers.b9_eq]
  refine A4 (fun g=>?_) (fun g=>?_)
  ·obtain ⟨e1,e2⟩:=g1 g
   have hl:=fp e2
   refine db L (by omega) ?_
   repeat ((with_reducible first|apply A0|apply wI|apply wT|apply wP|apply wS|apply wB);exact rfl)
   exact D5 (hC e1 m e2)
  ·rcases g2 g with ⟨e1,rfl⟩|⟨e1,rfl,e2⟩
   ·exact D5 (hA e1 _)
   ·exact D5 (hB e1 e2)
 unfold cutA
 by_cases e1:Q2 s = []
 ·cases e2:ci (H8 s) [44] with
  | none=>
   repeat ((with_reducible first|apply A0|apply wI|apply wT|apply wP|apply wS|apply wB);exact rfl)
   rw[decide_eq_false (fun h=>h e1),C3]
   exact h9 _ _ _ nofun (fun _=>.inl ⟨e1,rfl⟩)
  | some m=>
   repeat ((with_reducible first|apply A0|apply wI|apply wT|apply wP|apply wS|apply wB);exact rfl)
   rw[decide_eq_false (fun h=>h e1),C3]
   exact h9 _ _ _ nofun (fun _=>.inl ⟨e1,rfl⟩)
 ·cases e2:ci (H8 s) [44] with
  | none=>
   repeat ((with_reducible first|apply A0|apply wI|apply wT|apply wP|apply wS|apply wB);exact rfl)
   rw[decide_eq_true e1,D4]
   exact h9 _ _ _ nofun (fun _=>.inr ⟨e1,rfl,e2⟩)
  | some m=>
   repeat ((with_reducible first|apply A0|apply wI|apply wT|apply wP|apply wS|apply wB);exact rfl)
   rw[decide_eq_true e1,D4]
   exact h9 _ _ _ (fun _=>⟨e1,e2⟩) nofun
abbrev noA:AV:=.tup [.pv (.int .i64 0),.pv (.str []),.pv (.bool false)]
theorem span_spec(L:Laid w0.w){s:Ln}(hs:s.length≤1099511627776)(h1:∀a t,ai s=some (a,t)→R (.tup [.pv (.int .i64 (a:Nat)),.pv (.str t),.pv (.bool true)]) σ)(h2:ai s=none→R noA σ):A2 (cx w0) stream_span.id [.pv (.str s)] σ R:=by
 have hds:=mz s
 have hlen:=congrArg List.length hds
 rw[List.length_append] at hlen
 have h17:∀(r:Ln) (q:Bool),(q=true→ai s=none)→(q=false→ai s=some (ap 0 (Q2 s),r)∧Q2 s ≠ []∧ap 0 (Q2 s)≤2147483647)→stream_span.n17 (stream_span.X w0 σ.length) w0 σ.length R σ r (Q2 s) q:=by
  intro r q g1 g2
  refine stream_span.n17_in ?_
  rw[stream_span.b17_eq]
  refine A4 (fun g=>D5 (h2 (g1 g))) (fun g=>?_)
  obtain ⟨e1,e2,e3⟩:=g2 g
  refine mm (by omega) (atoi_val e2 (mh s) (by omega)) ?_
  repeat ((with_reducible first|apply A0|apply wI|apply wT|apply wP|apply wS|apply wB);exact rfl)
  exact D5 (h1 _ _ e1)
 refine stream_span.calls ?_
 rw[stream_span.b0_eq]
 refine numbers_spec L hs (fun e t=>?_) (fun e1 e2=>?_) (fun e1 u e2=>?_)
 ·repeat ((with_reducible first|apply A0|apply wI|apply wT|apply wP|apply wS|apply wB);exact rfl)
  rw[show (!false)=true from rfl,D4]
  refine D5 (h2 ?_)
  unfold ai L4
  rw[if_pos (.inl e)]
 ·repeat ((with_reducible first|apply A0|apply wI|apply wT|apply wP|apply wS|apply wB);exact rfl)
  rw[show (!true)=false from rfl,C3,D8 (by omega) (by omega),show (s.length:Int)-((H8 s).length:Int)=((Q2 s).length:Int) by omega]
  refine A0 (Q5 (by omega)) (F4 ?_)
  rw[take_digs s]
  refine (Cut44 L (p:=Q2 s) (t:=[]) (digs_no s) (by simp only[List.length_nil];omega)).2 ?_
  repeat ((with_reducible first|apply A0|apply wI|apply wT|apply wP|apply wS|apply wB);exact rfl)
  refine pb L (by omega) (mh s) (E5 ?_)
  rw[E9]
  refine A4 (fun g=>?_) (fun g=>?_)
  ·have hv:=of_decide_eq_true g
   rw[C3]
   refine h17 _ _ nofun (fun _=>⟨?_,e1,hv⟩)
   unfold ai L4
   rw[if_neg (fun h=>h.elim e1 (fun h=>by omega))]
   simp only[e2]
  ·have hv:=of_decide_eq_false g
   refine h17 _ _ (fun _=>?_) nofun
   unfold ai L4
   rw[if_pos (.inr (by omega))]
 ·have hu:=beh44 e2
  have hdu:=mz u
  have hlu:=congrArg List.length hdu
  rw[List.length_append] at hlu
  have hl2:=congrArg List.length hu
  rw[List.length_cons] at hl2
  repeat ((with_reducible first|apply A0|apply wI|apply wT|apply wP|apply wS|apply wB);exact rfl)
  cases eu:decide (Q2 u ≠ []) with
  | false=>
   have en:=of_decide_eq_false eu
   rw[show (!false)=true from rfl,D4]
   refine D5 (h2 ?_)
   have hnu:L4 u=none:=by unfold L4;rw[if_pos (.inl (Classical.not_not.1 en))]
   unfold ai
   cases hn:L4 s with
   | none=>rfl
   | some x=>
    obtain ⟨a,t⟩:=x
    have ht:t=H8 s:=by
     unfold L4 at hn
     split at hn
     ·cases hn
     ·cases hn;rfl
    subst ht
    simp only[e2,hnu]
  | true=>
   have en:=of_decide_eq_true eu
   have es:s=(Q2 s++44::Q2 u)++H8 u:=by
    rw[List.append_assoc,List.cons_append,hdu,←hu,hds]
   have elen:(Q2 s++44::Q2 u).length=(Q2 s).length+((Q2 u).length+1):=by simp
   rw[show (!true)=false from rfl,C3,D8 (by omega) (by omega),show (s.length:Int)-((H8 u).length:Int)=((Q2 s++44::Q2 u).length:Int) by omega]
   refine A0 (Q5 (by omega)) (F4 ?_)
   have et:s.take (Q2 s++44::Q2 u).length=Q2 s++44::Q2 u:=by
    have:((Q2 s++44::Q2 u)++H8 u).take (Q2 s++44::Q2 u).length=Q2 s++44::Q2 u:=List.take_left
    rwa [← es] at this
   rw[et]
   refine (Cut44 L (p:=Q2 s) (t:=Q2 u) (digs_no s) (by omega)).1 ?_
   repeat ((with_reducible first|apply A0|apply wI|apply wT|apply wP|apply wS|apply wB);exact rfl)
   refine pb L (by omega) (mh s) (E5 ?_)
   rw[E9]
   refine A4 (fun g=>?_) (fun g=>?_)
   ·have hv:=of_decide_eq_true g
    have hns:L4 s=some (ap 0 (Q2 s),H8 s):=by unfold L4;rw[if_neg (fun h=>h.elim e1 (fun h=>by omega))]
    rw[D4]
    refine pb L (by omega) (mh u) (E5 ?_)
    by_cases hw:ap 0 (Q2 u)≤2147483647
    ·rw[decide_eq_true hw]
     refine h17 _ _ nofun (fun _=>⟨?_,e1,hv⟩)
     have hnu:L4 u=some (ap 0 (Q2 u),H8 u):=by unfold L4;rw[if_neg (fun h=>h.elim en (fun h=>by omega))]
     unfold ai
     rw[hns]
     simp only[e2,hnu]
    ·rw[decide_eq_false hw]
     refine h17 _ _ (fun _=>?_) nofun
     have hnu:L4 u=none:=by unfold L4;rw[if_pos (.inr (by omega))]
     unfold ai
     rw[hns]
     simp only[e2,hnu]
   ·have hv:=of_decide_eq_false g
    refine h17 _ _ (fun _=>?_) nofun
    unfold ai L4
    rw[if_pos (.inr (by omega))]
end
end Go.Sv
end
section
namespace Go.Sv
open Go Go.RowKit Go.Proofs
section
variable {w0:B4}{σ:A1}{R:AV→A1→Prop}
theorem xe(L:Laid w0.w){l:Ln}(hs:l.length≤1099511627776)(h1:∀a b t,Q4 l=some (a,b,t)→R (.tup [.pv (.int .i64 (a:Nat)),.pv (.int .i64 (b:Nat)),.pv (.str t),.pv (.bool true)]) σ)(h2:Q4 l=none → ∀a b t,R (.tup [.pv (.int .i64 a),.pv (.int .i64 b),.pv (.str t),.pv (.bool false)]) σ):A2 (cx w0) stream_first.id [.pv (.str l)] σ R:=by
 have h38:∀(a b:Int) (t:Ln) (q:Bool),(q=true → ∃a' b':Nat,a=a'∧b=b'∧Q4 l=some (a',b',t))→(q=false→Q4 l=none)→stream_first.n38 (stream_first.X w0 σ.length) w0 σ.length R σ a b t q:=by
  intro a b t q g1 g2
  refine stream_first.n38_in ?_
  rw[stream_first.b38_eq]
  cases q with
  | true=>obtain ⟨a',b',rfl,rfl,e⟩:=g1 rfl;exact D5 (h1 _ _ _ e)
  | false=>exact D5 (h2 (g2 rfl) _ _ _)
 have no36:∀(a b:Int) (t:Ln),Q4 l=none→stream_first.n36 (stream_first.X w0 σ.length) w0 σ.length R σ t false a b:=by
  intro a b t e
  refine stream_first.n36_in ?_
  rw[stream_first.b36_eq,C3]
  exact h38 _ _ _ _ nofun (fun _=>e)
 have no20:∀(a:Int) (t:Ln),Q4 l=none→stream_first.n20 (stream_first.X w0 σ.length) w0 σ.length R σ t false a:=by
  intro a t e
  refine stream_first.n20_in ?_
  rw[stream_first.b20_eq,show (!false)=true from rfl,D4]
  exact D5 (h2 e _ _ _)
 have l0:=ml l
 refine stream_first.calls ?_
 rw[stream_first.b0_eq]
 refine W8 (by omega) (F4 ?_)
 refine ek ?_
 unfold cutA
 cases e1:ci (H4 l) [64,64,32,45] with
 | none=>
  have en:Q4 l=none:=by unfold Q4;rw[e1]
  repeat ((with_reducible first|apply A0|apply wI|apply wT|apply wP|apply wS|apply wB);exact rfl)
  rw[show (!false)=true from rfl,D4]
  exact D5 (h2 en _ _ _)
 | some s1=>
  have l1:=fp e1
  repeat ((with_reducible first|apply A0|apply wI|apply wT|apply wP|apply wS|apply wB);exact rfl)
  rw[show (!true)=false from rfl,C3]
  refine span_spec L (by omega) (fun a s2 e2=>?_) (fun e2=>?_)
  ·have l2:=rangeF_len e2
   repeat ((with_reducible first|apply A0|apply wI|apply wT|apply wP|apply wS|apply wB);exact rfl)
   rw[D4]
   refine ek ?_
   unfold cutA
   cases e3:ci s2 [32,43] with
   | none=>
    have en:Q4 l=none:=by unfold Q4;rw[e1];simp only[e2,e3]
    repeat ((with_reducible first|apply A0|apply wI|apply wT|apply wP|apply wS|apply wB);exact rfl)
    exact no20 _ _ en
   | some s3=>
    have l3:=fp e3
    repeat ((with_reducible first|apply A0|apply wI|apply wT|apply wP|apply wS|apply wB);exact rfl)
    refine stream_first.n20_in ?_
    rw[stream_first.b20_eq,show (!true)=false from rfl,C3]
    refine span_spec L (by omega) (fun b s4 e4=>?_) (fun e4=>?_)
    ·repeat ((with_reducible first|apply A0|apply wI|apply wT|apply wP|apply wS|apply wB);exact rfl)
     rw[D4]
     refine ek ?_
     unfold cutA
     cases e5:ci s4 [32,64,64] with
     | none=>
      have en:Q4 l=none:=by unfold Q4;rw[e1];simp only[e2,e3,e4,e5]
      repeat ((with_reducible first|apply A0|apply wI|apply wT|apply wP|apply wS|apply wB);exact rfl)
      exact no36 _ _ _ en
     | some s5=>
      have ef:Q4 l=if s5 = []∨s5.head? = some 32 then some (a,b,s5) else none:=by unfold Q4;rw[e1];simp only[e2,e3,e4,e5]
      repeat ((with_reducible first|apply A0|apply wI|apply wT|apply wP|apply wS|apply wB);exact rfl)
      refine stream_first.n36_in ?_
      rw[stream_first.b36_eq,D4,Q8]
      refine B5 (fun g=>?_) (fun g=>?_)
      ·exact h38 _ _ _ _ (fun _=>⟨a,b,rfl,rfl,by rw[ef,if_pos (.inl g)]⟩) nofun
      ·obtain ⟨c,r0,rfl⟩:∃c r0,s5=c::r0:=by
        cases s5 with
        | nil=>exact absurd rfl g
        | cons c r0=>exact ⟨c,r0,rfl⟩
       refine A0 (M3 (k:=0) (c:=c) rfl) (G2 ?_)
       have hc:((c.toNat:Int)==32)=decide (c=32):=by
        rw[Bool.eq_iff_iff,beq_iff_eq,decide_eq_true_eq]
        exact ⟨fun h=>UInt8.toNat_inj.1 (by have:UInt8.toNat 32=32:=rfl;omega),fun h=>by rw[h];rfl⟩
       rw[hc]
       refine h38 _ _ _ _ (fun q=>⟨a,b,rfl,rfl,?_⟩) (fun q=>?_)
       ·rw[ef,if_pos (.inr (by rw[of_decide_eq_true q];rfl))]
       ·have hn:=of_decide_eq_false q
        rw[ef,if_neg (fun h=>h.elim (fun h=>by cases h) (fun h=>hn (by simpa using h)))]
    ·have en:Q4 l=none:=by unfold Q4;rw[e1];simp only[e2,e3,e4]
     repeat ((with_reducible first|apply A0|apply wI|apply wT|apply wP|apply wS|apply wB);exact rfl)
     rw[C3]
     exact no36 _ _ _ en
  ·have en:Q4 l=none:=by unfold Q4;rw[e1];simp only[e2]
   repeat ((with_reducible first|apply A0|apply wI|apply wT|apply wP|apply wS|apply wB);exact rfl)
   rw[C3]
   exact no20 _ _ en
end
end Go.Sv
end
section
namespace Go.Sv
open Go Go.RowKit Go.Proofs
def tellF(a n:Nat):Ln:=if n=1 then Lib.itoa (a:Int) else (Lib.itoa (a:Int) ++ [44])++Lib.itoa (n:Int)
section
variable {w0:B4}{σ:A1}{R:AV→A1→Prop}
theorem dec_short{n:Nat}(h:n≤9223372036854775807):(Lib.itoa (n:Int)).length≤20:=by
 rw[itoa_dec (by omega),Int.toNat_natCast]
 exact dec_len h
theorem al(L:Laid w0.w){a n:Nat}(ha:a≤9223372036854775807)(hn:n≤9223372036854775807)(hR:R (.pv (.str (tellF a n))) σ):A2 (cx w0) stream_ranged.id [.pv (.int .i64 (a:Nat)),.pv (.int .i64 (n:Nat))] σ R:=by
 have h1:=dec_short ha
 have h2:=dec_short hn
 unfold tellF at hR
 refine stream_ranged.calls ?_
 rw[stream_ranged.b0_eq,G6]
 refine B5 (fun g=>?_) (fun g=>?_)
 ·rw[if_pos (by omega)] at hR
  exact mo L (by omega) (by omega) (F4 (D5 hR))
 ·rw[if_neg (by omega)] at hR
  refine mo L (by omega) (by omega) (F4 ⟨by simp only[List.length_singleton];omega,?_⟩)
  refine mo L (by omega) (by omega) (F4 ⟨?_,D5 hR⟩)
  rw[List.length_append,List.length_singleton];omega
end
end Go.Sv
end
section
namespace Go.Sv
def E4:List UInt8→List (List UInt8)
 | []=>[]
 | c::r=>if c=10 then [10]::E4 r else match E4 r with
  | []=>[[c]]
  | l::ls=>(c::l)::ls
theorem S4:∀s:List UInt8,(E4 s).flatten=s
 | []=>rfl
 | c::r=>by
  have ih:=S4 r
  unfold E4
  split
  ·rename_i h;subst h;simp[ih]
  ·split
   ·rename_i h;rw[h] at ih;simp at ih;subst ih;rfl
   ·rename_i l ls h;rw[h] at ih;simp only[List.flatten_cons,List.cons_append] at ih ⊢;rw[ih]
theorem fq:∀s:List UInt8,(E4 s).length≤s.length
 | []=>Nat.le_refl _
 | c::r=>by
  have ih:=fq r
  unfold E4
  split
  ·simp only[List.length_cons];omega
  ·split
   ·simp
   ·rename_i l ls h;rw[h] at ih;simp only[List.length_cons] at ih ⊢;omega
theorem splitF_cut:∀(k:Nat) (t:List UInt8),t[k]? = some 10→(∀ j,j<k→t[j]? ≠ some 10)→E4 t=t.take (k+1)::E4 (t.drop (k+1))
 | 0,[],h,_=>by simp at h
 | 0,c::r,h,_=>by
  simp only[List.getElem?_cons_zero,Option.some.injEq] at h
  subst h
  simp[E4]
 | k+1,[],h,_=>by simp at h
 | k+1,c::r,h,hn=>by
  have hc:c≠10:=fun e=>hn 0 (Nat.zero_lt_succ _) (by rw[e];rfl)
  have ih:=splitF_cut k r (by simpa using h) (fun j hj=>by have:=hn (j+1) (by omega);simpa using this)
  rw[E4,if_neg hc,ih]
  rfl
theorem tc:∀(t:List UInt8),t ≠ []→(∀ j:Nat,t[j]? ≠ some 10)→E4 t = [t]
 | [],h,_=>absurd rfl h
 | [c],_,hn=>by
  have hc:c≠10:=fun e=>hn 0 (by rw[e];rfl)
  simp[E4,hc]
 | c::d::r,_,hn=>by
  have hc:c≠10:=fun e=>hn 0 (by rw[e];rfl)
  have ih:=tc (d::r) (by simp) (fun j=>by have:=hn (j+1);simpa using this)
  rw[E4,if_neg hc,ih]
theorem Z0:∀(s:List UInt8),s ≠ [] → ∃k:Nat,0<k∧k≤s.length∧(if Lib.indexByte s 10 = -1 then (s.length:Int) else Lib.indexByte s 10+1)=(k:Int)∧E4 s=s.take k::E4 (s.drop k)
 | [],h=>absurd rfl h
 | c::r,_=>by
  have hge:=Lib.indexByte_ge r 10
  rw[Lib.indexByte]
  by_cases hc:c=10
  ·subst hc
   exact ⟨1,by decide,by simp,by simp,by simp[E4]⟩
  ·have hb:(c==10)=false:=beq_false_of_ne hc
   rw[hb]
   simp only[Bool.false_eq_true,if_false]
   cases r with
   | nil=>exact ⟨1,by decide,by simp,by simp[Lib.indexByte],by simp[E4,hc]⟩
   | cons d r=>
    obtain ⟨k,h1,h2,h3,h4⟩:=Z0 (d::r) (by simp)
    refine ⟨k+1,by omega,by simp only[List.length_cons] at h2 ⊢;omega,?_,?_⟩
    ·by_cases hm:Lib.indexByte (d::r) 10 = -1
     ·rw[hm] at h3 ⊢
      simp only[if_true,beq_self_eq_true] at h3 ⊢
      simp only[List.length_cons] at h3 ⊢
      omega
     ·have hb2:(Lib.indexByte (d::r) 10 == -1)=false:=beq_false_of_ne hm
      rw[if_neg hm] at h3
      rw[hb2]
      simp only[Bool.false_eq_true,if_false]
      rw[if_neg (by omega)]
      omega
    ·rw[E4,if_neg hc,h4];rfl
open Go Go.RowKit Go.Proofs
section
variable {w0:B4}{σ:A1}{R:AV→A1→Prop}
abbrev lnS(L:List Ln):A1:=[.arr 1 (L.map PV.str) false]
abbrev lnA(L:List Ln):AV:=.arr 0 L.length 0 L.length
theorem ln_seal(L:List Ln):bp 0 ([]++lnS L) (lnA L)=some (.pv (im L)):=by
 show (if (L.map PV.str).length=L.length∧0+L.length≤L.length then some (AV.pv (.sl (((L.map PV.str).drop 0).take L.length))) else none)=_
 rw[if_pos ⟨List.length_map _,by omega⟩]
 simp[List.take_of_length_le]
theorem slice_both{s:Ln}{i k:Nat}(h1:i≤k)(h:k≤s.length):G7 σ B3 ti9.td (.pv (.str s)) (some (.pv (.int .i64 (i:Int)))) (some (.pv (.int .i64 (k:Int))))=some (.pv (.str ((s.take k).drop i))):=by
 show (if (0:Int)≤(i:Int)∧(i:Int)≤(k:Int)∧(k:Int)≤((s.length:Nat):Int) then some (AV.pv (.str ((s.take (k:Int).toNat).drop (i:Int).toNat))) else none)=_
 rw[if_pos (by omega)]
 simp
theorem mn{l:Ln}:H9 σ ti9 false 1 [(0,.pv (.str l))]=some (.pv (.sl [.str l]),σ):=rfl
theorem rz{σ:A1}{L:List Ln}{l:Ln}{id:Nat}(ho:σ[id]? = some (.arr 1 (L.map PV.str) false))(h:L.length≤1099511627776):L0 σ ti9 (.arr id L.length 0 L.length) (.pv (.sl [.str l]))=some (.arr id (L ++ [l]).length 0 (L ++ [l]).length,σ.set id (.arr 1 ((L ++ [l]).map PV.str) false)):=by
 rw[W9 (id:=id) (es:=1) (ver:=L.length) (xs:=L.map PV.str) (ys:=[.str l]) rfl ho (List.length_map _).symm rfl rfl ⟨by rw[List.length_map];show L.length+1≤_;omega,by rw[List.length_map];show (L.length+1)*16≤_;omega⟩]
 simp
theorem ex{R:AV→A1→Prop}:∀(f:Nat) (s:Ln) (done:List Ln),s.length<f→s.length≤1099511627776→done.length+s.length≤1099511627776→(∀ l,l=done++E4 s→R (lnA l) (lnS l))→C9.n6 (C9.X w0 0) w0 0 R (lnS done) s (lnA done)
 | 0,s,done,h,_,_,_=>absurd h (Nat.not_lt_zero _)
 | f+1,s,done,hf,hs,hd,hR=>by
  refine C9.n6_in ?_
  rw[C9.b7_eq,E9,Q8]
  refine B5 (fun g=>?_) (fun g=>?_)
  ·refine C9.n25_in ?_
   rw[C9.b25_eq]
   subst g
   exact D6 (Nat.zero_le _) (hR done (by simp[E4]))
  ·obtain ⟨k,k1,k2,k3,k4⟩:=Z0 s g
   have hge:=Lib.indexByte_ge s 10
   have fin:∀at_:Int,at_=(k:Int)→C9.n22 (C9.X w0 0) w0 0 R (lnS done) s (lnA done) at_:=by
    rintro at_ rfl
    have hl1:(s.take k).length=k:=by rw[List.length_take];omega
    have ih:=ex (R:=R) f (s.drop k) (done ++ [s.take k]) (by rw[List.length_drop];omega) (by rw[List.length_drop];omega) (by rw[List.length_drop,List.length_append,List.length_singleton];omega) (fun l hl=>hR l (by rw[hl,k4,List.append_assoc];rfl))
    refine C9.n22_in ?_
    rw[C9.b22_eq]
    refine A0 (Q5 k2) (F4 ?_)
    refine J5 mn ?_
    refine J5 (rz rfl (by omega)) ?_
    refine A0 (F5 k2) (F4 ?_)
    exact ih
   refine ax (c:=10) (G2 ?_)
   have hle:Lib.indexByte s 10+1≤1099511627776:=by
    by_cases hm:Lib.indexByte s 10 = -1
    ·omega
    ·rw[if_neg hm] at k3;omega
   rw[D8 (by omega) (by omega),G6]
   refine B5 (fun g2=>fin _ ?_) (fun g2=>fin _ ?_)
   ·rw[if_pos (by omega)] at k3;exact k3
   ·rw[if_neg (by omega)] at k3;exact k3
theorem gh{R:AV→A1→Prop}{s:Ln}(hs:s.length≤1099511627776)(hR:R (lnA (E4 s)) (lnS (E4 s))):A2 (cx w0) C9.id [.pv (.str s)] [] R:=by
 refine C9.calls ?_
 rw[C9.b0_eq]
 refine C9.n6_weak (s':=s) (out':=lnA []) (τ:=lnS []) (N2.nil (t:=3) (es:=1) rfl rfl) ?_
 exact ex (s.length+1) s [] (by omega) hs (by simpa using hs) (fun l hl=>by rw[hl];exact hR)
theorem lg{s:Ln}(hs:s.length≤1099511627776):∀(f i k:Nat) (done:List Ln),i+f=s.length→k≤i→done.length≤k→(∀ j:Nat,j<i-k→(s.drop k)[j]? ≠ some 10)→done++E4 (s.drop k)=E4 s→E2.n10 (E2.X w0 0) w0 0 (fun r' _=>r' = .pv (im (E4 s))) (lnS done) s (lnA done) k i
 | 0,i,k,done,hi,hk,hd,hn,he=>by
  refine E2.n10_in ?_
  rw[E2.b11_eq,B0,if_neg (by omega)]
  refine E2.n27_in ?_
  rw[E2.b27_eq,B0]
  have fin:∀l,l=E4 s→E2.n33 (E2.X w0 0) w0 0 (fun r' _=>r' = .pv (im (E4 s))) (lnS l) (lnA l):=by
   rintro l rfl
   refine E2.n33_in ?_
   rw[E2.b33_eq]
   exact N1 (σ:=[]) (L:=lnS _) L5 rfl (ln_seal _) rfl
  refine B5 (fun g=>?_) (fun g=>?_)
  ·refine A0 (F5 (by omega)) (F4 ?_)
   refine J5 mn ?_
   refine J5 (rz rfl (by omega)) ?_
   refine fin (done ++ [s.drop k]) ?_
   rw[← he,tc (s.drop k) (by intro e;have:=congrArg List.length e;rw[List.length_drop,List.length_nil] at this;omega) fun j=>?_]
   by_cases hj:j<i-k
   ·exact hn j hj
   ·rw[List.getElem?_eq_none (by rw[List.length_drop];omega)]
    exact fun h=>by cases h
  ·refine fin done ?_
   rw[← he,List.drop_eq_nil_of_le (by omega)]
   simp[E4]
 | f+1,i,k,done,hi,hk,hd,hn,he=>by
  have hlt:i<s.length:=by omega
  have hg:s[i]? = some s[i]:=List.getElem?_eq_getElem hlt
  refine E2.n10_in ?_
  rw[E2.b11_eq,B0,if_pos (by omega)]
  refine A0 (M3 hg) (G2 ?_)
  rw[G6]
  refine B5 (fun g=>?_) (fun g=>?_)
  ·have h10:s[i]=10:=by
    apply UInt8.toNat_inj.1
    show _=10
    omega
   rw[K6 hlt (by omega)]
   refine A0 (slice_both (i:=k) (k:=i+1) (by omega) (by omega)) (F4 ?_)
   refine J5 mn ?_
   refine J5 (rz rfl (by omega)) ?_
   refine E2.n26_in ?_
   rw[E2.b26_eq,K6 hlt (by omega)]
   refine lg hs f (i+1) (i+1) _ (by omega) (Nat.le_refl _) (by rw[List.length_append,List.length_singleton];omega) (fun j hj=>absurd hj (by omega)) ?_
   have hc:=splitF_cut (i-k) (s.drop k) (by rw[List.getElem?_drop,show k+(i-k)=i by omega,hg,h10]) (fun j hj=>hn j hj)
   rw[← he,hc,List.append_assoc,List.singleton_append,List.drop_drop,show k+(i-k+1)=i+1 by omega,List.drop_take,show i+1-k=i-k+1 by omega]
  ·have h10:s[i]≠10:=fun e=>g (by rw[e];rfl)
   refine E2.n26_in ?_
   rw[E2.b26_eq,K6 hlt (by omega)]
   refine lg hs f (i+1) k done (by omega) (by omega) hd (fun j hj=>?_) he
   by_cases e:j<i-k
   ·exact hn j e
   ·rw[List.getElem?_drop,show k+j=i by omega,hg]
    exact fun h=>h10 (by simpa using h)
theorem rSplit_spec(L:Laid w0.w){s:Ln}(hs:s.length≤1099511627776)(hR:R (.pv (im (E4 s))) σ):A2 (cx w0) E2.id [.pv (.str s)] σ R:=by
 refine A2.alone L rfl (fun w1 L1=>?_) rfl hR
 refine E2.calls ?_
 rw[E2.b0_eq]
 refine E2.n10_weak (s':=s) (out':=lnA []) (from_':=(0:Nat)) (i':=(0:Nat)) (τ:=lnS []) (N2.nil (t:=3) (es:=1) rfl rfl) ?_
 exact lg hs s.length 0 0 [] (Nat.zero_add _) (Nat.le_refl _) (Nat.le_refl _) (fun j hj=>absurd hj (by omega)) rfl
end
end Go.Sv
end
