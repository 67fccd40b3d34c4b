/- Package normal, reading: the loop over the commands; Parse. What the readers of diffs take of whole lines: some lines, or a fault at a line that is there. -/
import Derived.Test.YtgdnoobpnhmpjaaGreatDoorNmB
import Derived.Test.YtgdnoobpnhmpjaaGreatDoorUnY
import Derived.Test.YtgdnoobpnhmpjaaGreatDoorCxY
set_option linter.unusedVariables false
set_option linter.unusedSimpArgs false
set_option maxRecDepth 100000
section
namespace Go.Sv.Nm
open Go Go.RowKit Go.Proofs
structure LsOK(ls:List Ln):Prop where
 n:ls.length≤8388608
 ne:∀l∈ls,l ≠ []
 len:∀l∈ls,l.length≤8388608
 all:ls.flatten.length≤8388608
theorem sizF_le(ls:List Ln)(at_:Nat):sizF ls at_≤ls.flatten.length:=by
 unfold sizF
 have h:=congrArg List.length (congrArg List.flatten (List.take_append_drop at_ ls))
 rw[List.flatten_append,List.length_append] at h
 omega
section
variable {w0:B4}{R:AV→A1→Prop}
abbrev pF(ls:List Ln)(at_:Nat)(out:List Hnk)(h:Hnk)(rows:List Row):A1:=[.arr 1 (ls.map PV.str) false,.cells 167 (rdC ls.length at_),.arr 6 (out.map O2) false,.cells 46 (hC h (.arr 4 rows.length 0 rows.length)),.arr 2 (rows.map P0) true]
theorem frz_h{h:Hnk}{rows:List Row}:Frz 4 (rows.map P0) (.agg (hC h (.arr 4 rows.length 0 rows.length))) (.pv (O2 { h with rows:=rows })):=
 .part [.pv (.int .i64 h.a),.pv (.int .i64 h.n),.pv (.int .i64 h.b),.pv (.int .i64 h.m),.pv (.str h.head)] [] rows.length (List.length_map ..).symm
theorem p_valid(L:Laid w0.w){ls:List Ln}(hls:LsOK ls){text:Ln}{at_ first:Nat}{out:List Hnk}(hout:out.length≤8388608){h:Hnk}{rows:List Row}(hat:at_≤ls.length)(hb:h.head = []∧0≤h.a∧h.a≤2147483648∧0≤h.b∧h.b≤2147483648)(hr:rows.length≤ls.length)(ht:∀x∈rows,x.t.length≤8388608)
  (hbad:T1 { h with rows:=rows }=false→R (outA text ls (.error (first,130))) []) (hord:T1 { h with rows:=rows }=true→lastOK out { h with rows:=rows }=false→R (outA text ls (.error (first,112))) [])
  (next:T1 { h with rows:=rows }=true→lastOK out { h with rows:=rows }=true→normal_Parse.n24 (normal_Parse.X w0 0) w0 0 R (p3 ls at_ (out ++ [{ h with rows:=rows }])) text (.ptr 1 0) (.arr 2 (out ++ [{ h with rows:=rows }]).length 0 (out ++ [{ h with rows:=rows }]).length)):
  normal_Parse.n71 (normal_Parse.X w0 0) w0 0 R (pT ls at_ out h rows) text (.ptr 1 0) (.arr 2 out.length 0 out.length) first (.ptr 3 0) false:=by
 have hn:=hls.n
 have h86:∀(σ:A1) t,σ=pF ls at_ out h rows→T1 { h with rows:=rows }=true→t = !(lastOK out { h with rows:=rows })→normal_Parse.n86 (normal_Parse.X w0 0) w0 0 R σ text (.ptr 1 0) (.arr 2 out.length 0 out.length) first (.ptr 3 0) t:=by
  rintro σ t rfl hv rfl
  refine normal_Parse.n86_in ?_
  rw[normal_Parse.b86_eq,E9]
  refine A4 (fun g=>?_) (fun g=>?_)
  ·repeat ((with_reducible first|apply A0|apply wI|apply wT|apply wP|apply wS|apply wB);exact rfl)
   refine J5 (lit_row (ei:=G1) (pre:=[.int .i64 h.a,.int .i64 h.n,.int .i64 h.b,.int .i64 h.m,.str h.head]) (post:=[]) (id:=4) (es:=2) (xs:=rows.map P0) rfl (List.length_map ..) rfl (by decide) (q:=O2 { h with rows:=rows }) rfl) ?_
   refine J5 (jp (es:=6) (xs:=out.map O2) rfl rfl (List.length_map ..) rfl (qf (B:=1099511627776) (by rw[List.length_map];show out.length+1≤_;omega) (by decide) (by decide))) ?_
   have e:out.map O2 ++ [O2 { h with rows:=rows }]=(out ++ [{ h with rows:=rows }]).map O2:=by rw[List.map_append];rfl
   rw[e,List.length_map]
   refine normal_Parse.n24_weak (N2.drop (τ:=p3 ls at_ (out ++ [{ h with rows:=rows }])) L5 (Nat.zero_le _) rfl rfl) ?_
   exact next hv g
  ·repeat ((with_reducible first|apply A0|apply wI|apply wT|apply wP|apply wS|apply wB);exact rfl)
   exact N1 (σ:=[]) (L:=_) L5 rfl rfl (hord hv g)
 refine normal_Parse.n71_in ?_
 rw[normal_Parse.b71_eq,C3]
 repeat ((with_reducible first|apply A0|apply wI|apply wT|apply wP|apply wS|apply wB);exact rfl)
 refine A2.freeze (id:=4) (es:=2) (xs:=rows.map P0) (fz:=false) rfl (.cons frz_h .nil) ?_
 refine pf L (by show rows.length≤_;omega) (fun x hx=>by have:=ht x hx;omega) (by show h.head.length≤_;rw[hb.1];decide) (by show _≤h.a∧h.a≤_;omega) (by show _≤h.b∧h.b≤_;omega) ?_
 cases hv:T1 { h with rows:=rows } with
 | false=>
  rw[vErr,if_neg (by decide),P2]
  refine A0 rfl (A0 (v:=false) rfl (E5 ?_))
  refine A4 (fun _=>?_) (fun h=>absurd h (by decide))
  repeat ((with_reducible first|apply A0|apply wI|apply wT|apply wP|apply wS|apply wB);exact rfl)
  exact N1 (σ:=[]) (L:=_) L5 rfl rfl (hbad hv)
 | true=>
  rw[vErr,if_pos rfl,P2]
  refine A0 rfl (A0 (v:=true) rfl (E5 ?_))
  refine A4 (fun h=>absurd h (by decide)) (fun _=>?_)
  repeat ((with_reducible first|apply A0|apply wI|apply wT|apply wP|apply wS|apply wB);exact rfl)
  rw[B0]
  refine B5 (fun g=>?_) (fun g=>?_)
  ·rcases List.eq_nil_or_concat out with rfl|⟨o,gl,rfl⟩
   ·exact absurd g (by simp)
   ·rw[List.concat_eq_append] at *
    have hlen:(o ++ [gl]).length=o.length+1:=by rw[List.length_append,List.length_singleton]
    repeat ((with_reducible first|apply A0|apply wI|apply wT|apply wP|apply wS|apply wB);exact rfl)
    rw[show IntKind.wrap .i64 (((o ++ [gl]).length:Int)-1)=((o.length:Nat):Int) by rw[hlen,D8 (by omega) (by omega)];omega]
    refine A0 (eh (es:=6) (xs:=(o ++ [gl]).map O2) (off:=0) (k:=o.length) tab46 rfl (by omega) rfl (by rw[List.length_map])) ?_
    have hg:((o ++ [gl]).map O2)[0+o.length]? = some (O2 gl):=by rw[Nat.zero_add,List.getElem?_map,List.getElem?_append_right (Nat.le_refl _)];simp
    refine A0 (v:=.pv (O2 gl)) ?_ ?_
    ·show (if ((o ++ [gl]).map O2).length=(o ++ [gl]).length then (match ((o ++ [gl]).map O2)[0+o.length]? with
      | some x=>(ga true 6 0 x).map AV.pv
      | none=>none) else none)=_
     rw[if_pos (List.length_map _),hg]
     rfl
    ·repeat ((with_reducible first|apply A0|apply wI|apply wT|apply wP|apply wS|apply wB);exact rfl)
     refine A2.freeze (id:=4) (es:=2) (xs:=rows.map P0) (fz:=true) rfl (.cons (.same _) (.cons frz_h .nil)) ?_
     refine js L (E5 (h86 _ _ rfl hv ?_))
     unfold lastOK
     rw[List.getLast?_append]
     rfl
  ·refine h86 _ _ rfl hv ?_
   have:out = []:=List.eq_nil_of_length_eq_zero (by omega)
   subst this
   rfl
theorem rows_ok{ls:List Ln}(hls:LsOK ls){a b q1 q2:Nat}{m1 m2:Ln}{k1 k2:Int}:∀x∈(takeF q1 m1 k1 (ls.drop a)).1++(takeF q2 m2 k2 (ls.drop b)).1,x.t.length≤8388608:=by
 intro x hx
 have key:∀{q:Nat} {m:Ln} {k:Int} {c:Nat},x∈(takeF q m k (ls.drop c)).1→x.t.length≤8388608:=by
  intro q m k c h
  obtain ⟨l,hl,hle⟩:=(takeF_out m k q (ls.drop c)).2.2 x h
  have:=hls.len l (List.mem_of_mem_drop hl)
  omega
 rcases List.mem_append.1 hx with h|h
 ·exact key h
 ·exact key h
theorem p_one(L:Laid w0.w){ls:List Ln}(hls:LsOK ls){text:Ln}{at_:Nat}{out:List Hnk}(hout:out.length≤8388608){l:Ln}(gl:ls[at_]? = some l)(hb:begF l=true)
  (herr:∀e,hkF ls at_ l = .error e→R (outA text ls (.error e)) [])
  (hord:∀h a,hkF ls at_ l = .ok (h,a)→lastOK out h=false→R (outA text ls (.error (at_+1,112))) [])
  (next:∀h a,hkF ls at_ l = .ok (h,a)→lastOK out h=true→at_<a→a≤ls.length→normal_Parse.n24 (normal_Parse.X w0 0) w0 0 R (p3 ls a (out ++ [h])) text (.ptr 1 0) (.arr 2 (out ++ [h]).length 0 (out ++ [h]).length)):
  normal_Parse.n37 (normal_Parse.X w0 0) w0 0 R (p3 ls at_ out) text (.ptr 1 0) (.arr 2 out.length 0 out.length) false:=by
 have hn:=hls.n
 have hlt:at_<ls.length:=(List.getElem?_eq_some_iff.1 gl).1
 have hll:=hls.len l (List.mem_of_getElem? gl)
 have hbl:(H4 l).length≤l.length:=by
  unfold H4;split
  ·rw[List.length_dropLast];omega
  ·omega
 refine normal_Parse.n37_in ?_
 rw[normal_Parse.b37_eq,C3]
 repeat ((with_reducible first|apply A0|apply wI|apply wT|apply wP|apply wS|apply wB);exact rfl)
 refine A0 (gg (off:=0) (len:=ls.length) rfl rfl hlt) ?_
 rw[Nat.zero_add]
 refine A0 (Z1 rfl rfl gl) (F4 ?_)
 refine alone_in L rfl rfl (fun w1 L1=>W8 (s:=l) (by omega) rfl) ?_
 repeat ((with_reducible first|apply A0|apply wI|apply wT|apply wP|apply wS|apply wB);exact rfl)
 refine alone_in L rfl rfl (fun w1 L1=>ar (s:=H4 l) L1 (by omega) rfl) ?_
 obtain ⟨c1,c2,c3,c4,c5,c6,c7,c8⟩:=cmdF_out (H4 l)
 unfold hkF at herr hord next
 cases hok:(cmdF (H4 l)).2 with
 | false=>
  rw[hok,if_pos rfl] at herr
  repeat ((with_reducible first|apply A0|apply wI|apply wT|apply wP|apply wS|apply wB);exact rfl)
  rw[hok,show (!false)=true from rfl,D4,K6 hlt (by omega)]
  repeat ((with_reducible first|apply A0|apply wI|apply wT|apply wP|apply wS|apply wB);exact rfl)
  exact N1 (σ:=[]) (L:=_) L5 rfl rfl (herr _ rfl)
 | true=>
  rw[hok,if_neg (by decide)] at herr hord next
  repeat ((with_reducible first|apply A0|apply wI|apply wT|apply wP|apply wS|apply wB);exact rfl)
  rw[hok,show (!true)=false from rfl,C3]
  generalize hh:(cmdF (H4 l)).1=h at *
  repeat ((with_reducible first|apply A0|apply wI|apply wT|apply wP|apply wS|apply wB);exact rfl)
  rw[K6 hlt (by omega)]
  have hlen:∀l∈ls,l.length≤1099511627776:=fun l hl=>by have:=hls.len l hl;omega
  refine take1_spec L (by omega) hls.ne hlen (at_:=at_+1) c5 (by omega) (E5 ?_)
  dsimp only at herr hord next
  have hx:=takeF_out [60,32] 2 h.n.toNat (ls.drop (at_+1))
  have hxr:=fun b q m k=>rows_ok hls (a:=at_+1) (b:=b) (q1:=h.n.toNat) (q2:=q) (m1:=[60,32]) (m2:=m) (k1:=2) (k2:=k)
  rw[List.length_drop] at hx
  generalize takeF h.n.toNat [60,32] 2 (ls.drop (at_+1))=x at herr hord next hx hxr ⊢
  obtain ⟨x1,x2,_⟩:=hx
  have hat2:at_+1+x.2.1≤ls.length:=by omega
  generalize ha2:at_+1+x.2.1=at2 at herr hord next hat2 ⊢
  have bad:∀(a:Nat) (rows:List Row),a<9223372036854775807→R (outA text ls (.error (a+1,130))) []→normal_Parse.n71 (normal_Parse.X w0 0) w0 0 R (pT ls a out h rows) text (.ptr 1 0) (.arr 2 out.length 0 out.length) ((at_+1:Nat):Int) (.ptr 3 0) true:=by
   intro a rows hlt2 hr
   refine normal_Parse.n71_in ?_
   rw[normal_Parse.b71_eq,D4]
   repeat ((with_reducible first|apply A0|apply wI|apply wT|apply wP|apply wS|apply wB);exact rfl)
   refine ⟨A0 rfl rfl,A0 rfl rfl,?_⟩
   rw[D8 (n:=((a:Nat):Int)+1) (by omega) (by omega)]
   have e:((a:Nat):Int)+1=((a+1:Nat):Int):=by omega
   rw[e]
   exact N1 (σ:=[]) (L:=_) L5 rfl rfl hr
  have h68:∀b,b=okF ls h x at2→normal_Parse.n68 (normal_Parse.X w0 0) w0 0 R (pT ls (at3F ls h x at2) out h x.1) text (.ptr 1 0) (.arr 2 out.length 0 out.length) ((at_+1:Nat):Int) (.ptr 3 0) b:=by
   rintro b rfl
   refine normal_Parse.n68_in ?_
   rw[normal_Parse.b68_eq,E9]
   cases hk:okF ls h x at2 with
   | false=>
    rw[C3]
    rw[hk,if_pos rfl] at herr
    have e3:at3F ls h x at2=at2:=by unfold at3F;rw[hk];rfl
    rw[e3]
    exact bad _ _ (by omega) (herr _ rfl)
   | true=>
    rw[D4]
    rw[hk,if_neg (by decide)] at herr hord next
    have h3:at2≤at3F ls h x at2∧at3F ls h x at2≤ls.length:=by
     unfold at3F
     rw[hk,Bool.true_and]
     split
     ·rename_i hs
      refine ⟨by omega,?_⟩
      unfold okF at hk
      rw[hs] at hk
      simp only[Bool.not_true,Bool.false_or,Bool.and_eq_true,beq_iff_eq] at hk
      have:=(List.getElem?_eq_some_iff.1 hk.2).1
      omega
     ·omega
    obtain ⟨h3,h3'⟩:=h3
    generalize at3F ls h x at2=at3 at herr hord next h3 h3' ⊢
    repeat ((with_reducible first|apply A0|apply wI|apply wT|apply wP|apply wS|apply wB);exact rfl)
    refine take2_spec L (by omega) hls.ne hlen (at_:=at3) (rows:=x.1) c6 h3' (by omega) (E5 ?_)
    have hy:=takeF_out [62,32] 3 h.m.toNat (ls.drop at3)
    have hyr:=hxr at3 h.m.toNat [62,32] 3
    rw[List.length_drop] at hy
    generalize takeF h.m.toNat [62,32] 3 (ls.drop at3)=y at herr hord next hy hyr ⊢
    obtain ⟨y1,y2,_⟩:=hy
    cases hy2:y.2.2 with
    | false=>
     rw[hy2,if_pos rfl] at herr
     exact bad _ _ (by omega) (herr _ rfl)
    | true=>
     rw[hy2,if_neg (by decide)] at herr hord next
     refine p_valid L hls (at_:=at3+y.2.1) (first:=at_+1) hout (rows:=x.1++y.1) (by omega) ⟨c7,c1,c2,c3,c4⟩ (by rw[List.length_append];omega) hyr (fun hv=>?_) (fun hv ho=>?_) (fun hv ho=>?_)
     ·rw[hv,if_pos rfl] at herr
      exact herr _ rfl
     ·rw[hv,if_neg (by decide)] at hord
      exact hord _ _ rfl ho
     ·rw[hv,if_neg (by decide)] at next
      exact next _ _ rfl ho (by omega) (by omega)
  have h59:∀t,t=(x.2.2&&sepF h)→normal_Parse.n59 (normal_Parse.X w0 0) w0 0 R (pT ls at2 out h x.1) text (.ptr 1 0) (.arr 2 out.length 0 out.length) ((at_+1:Nat):Int) (.ptr 3 0) x.2.2 t:=by
   rintro t rfl
   refine normal_Parse.n59_in ?_
   rw[normal_Parse.b59_eq]
   cases hs:(x.2.2&&sepF h) with
   | false=>
    rw[C3]
    have e1:okF ls h x at2=x.2.2:=by
     unfold okF
     rw[Bool.and_eq_false_iff] at hs
     rcases hs with hs|hs
     ·rw[hs];rfl
     ·rw[hs];simp
    have e3:at3F ls h x at2=at2:=by
     unfold at3F
     rw[e1,hs];rfl
    have:=h68 _ e1.symm
    rw[e3] at this
    exact this
   | true=>
    rw[Bool.and_eq_true] at hs
    have e1:okF ls h x at2=(ls[at2]? == some [45,45,45,10]):=by
     unfold okF;rw[hs.1,hs.2];rfl
    have h62:∀b,b=okF ls h x at2→normal_Parse.n62 (normal_Parse.X w0 0) w0 0 R (pT ls at2 out h x.1) text (.ptr 1 0) (.arr 2 out.length 0 out.length) ((at_+1:Nat):Int) (.ptr 3 0) b:=by
     rintro b rfl
     refine normal_Parse.n62_in ?_
     rw[normal_Parse.b62_eq]
     cases hk:okF ls h x at2 with
     | false=>
      rw[C3]
      have e3:at3F ls h x at2=at2:=by unfold at3F;rw[hk];rfl
      have:=h68 _ hk.symm
      rw[e3] at this
      exact this
     | true=>
      rw[D4]
      have e3:at3F ls h x at2=at2+1:=by unfold at3F;rw[hk,hs.2];rfl
      repeat ((with_reducible first|apply A0|apply wI|apply wT|apply wP|apply wS|apply wB);exact rfl)
      rw[D8 (n:=((at2:Nat):Int)+1) (by omega) (by omega)]
      have e:((at2:Nat):Int)+1=((at2+1:Nat):Int):=by omega
      rw[e]
      have:=h68 _ hk.symm
      rw[e3] at this
      exact this
    rw[D4]
    repeat ((with_reducible first|apply A0|apply wI|apply wT|apply wP|apply wS|apply wB);exact rfl)
    rw[B0]
    refine B5 (fun g=>?_) (fun g=>?_)
    ·have hlt2:at2<ls.length:=by omega
     have g2:ls[at2]? = some ls[at2]:=List.getElem?_eq_getElem hlt2
     generalize ls[at2]=m at g2
     repeat ((with_reducible first|apply A0|apply wI|apply wT|apply wP|apply wS|apply wB);exact rfl)
     refine A0 (gg (off:=0) (len:=ls.length) rfl rfl hlt2) ?_
     rw[Nat.zero_add]
     refine A0 (Z1 rfl rfl g2) (F4 (h62 _ ?_))
     rw[e1,g2]
     rfl
    ·refine h62 _ ?_
     rw[e1,List.getElem?_eq_none (by omega)]
     rfl
  refine A4 (fun g=>?_) (fun g=>h59 _ (by rw[g];rfl))
  repeat ((with_reducible first|apply A0|apply wI|apply wT|apply wP|apply wS|apply wB);exact rfl)
  rw[B0]
  refine B5 (fun g2=>?_) (fun g2=>h59 _ (by rw[g];unfold sepF;rw[decide_eq_false g2];rfl))
  repeat ((with_reducible first|apply A0|apply wI|apply wT|apply wP|apply wS|apply wB);exact rfl)
  refine h59 _ ?_
  rw[g];unfold sepF;rw[decide_eq_true g2];rfl
theorem rf(L:Laid w0.w){ls:List Ln}(hls:LsOK ls){text:Ln}:∀(q at_:Nat) (out:List Hnk),ls.length-at_<q→at_≤ls.length→out.length≤at_→R (outA text ls (parF q ls at_ out)) [] →
  normal_Parse.n24 (normal_Parse.X w0 0) w0 0 R (p3 ls at_ out) text (.ptr 1 0) (.arr 2 out.length 0 out.length)
 | 0,at_,out,hq,_,_,_=>absurd hq (Nat.not_lt_zero _)
 | q+1,at_,out,hq,hat,ho,hR=>by
  have hn:=hls.n
  have hsz:=Nat.le_trans (sizF_le ls at_) hls.all
  refine normal_Parse.n24_in ?_
  rw[normal_Parse.b25_eq]
  repeat ((with_reducible first|apply A0|apply wI|apply wT|apply wP|apply wS|apply wB);exact rfl)
  rw[B0]
  refine B5 (fun g=>?_) (fun g=>?_)
  ·have hlt:at_<ls.length:=by omega
   have gl:ls[at_]? = some ls[at_]:=List.getElem?_eq_getElem hlt
   have hne:=hls.ne _ (List.getElem_mem hlt)
   generalize ls[at_]=l at gl hne
   obtain ⟨c,m',rfl⟩:=List.exists_cons_of_ne_nil hne
   have hc:=c.toNat_lt
   repeat ((with_reducible first|apply A0|apply wI|apply wT|apply wP|apply wS|apply wB);exact rfl)
   refine A0 (gg (off:=0) (len:=ls.length) rfl rfl hlt) ?_
   rw[Nat.zero_add]
   refine A0 (Z1 rfl rfl gl) (F4 ?_)
   refine A0 (M3 (k:=0) (s:=c::m') rfl) (G2 ?_)
   have h92:c=92↔((c.toNat:Nat):Int)=92:=by
    constructor
    ·intro h;subst h;rfl
    ·intro h
     have h1:c.toNat=92:=by omega
     have h2:UInt8.ofNat c.toNat=UInt8.ofNat 92:=by rw[h1]
     simpa using h2
   have key:∀t,t = !(begF (c::m'))→normal_Parse.n37 (normal_Parse.X w0 0) w0 0 R (p3 ls at_ out) text (.ptr 1 0) (.arr 2 out.length 0 out.length) t:=by
    rintro t rfl
    unfold parF at hR
    rw[gl] at hR
    dsimp only at hR
    cases hb:begF (c::m') with
    | false=>
     rw[hb,if_pos rfl] at hR
     refine normal_Parse.n37_in ?_
     rw[normal_Parse.b37_eq]
     refine A4 (fun _=>?_) (fun h=>absurd h (by decide))
     exact par_end hat hn (by omega) hR
    | true=>
     rw[hb,if_neg (by decide)] at hR
     refine p_one L hls (by omega) gl hb (fun e he=>?_) (fun h a he hl=>?_) (fun h a he hl h1 h2=>?_)
     ·rw[he] at hR;exact hR
     ·rw[he] at hR
      dsimp only at hR
      rw[hl,if_pos rfl] at hR
      exact hR
     ·rw[he] at hR
      dsimp only at hR
      rw[hl,if_neg (by decide)] at hR
      exact rf L hls q a (out ++ [h]) (by omega) h2 (by rw[List.length_append,List.length_singleton];omega) hR
   rw[T7]
   refine B5 (fun g2=>key _ ?_) (fun g2=>?_)
   ·unfold begF
    rw[decide_eq_true (show (c::m').headD 0=92∨_ from .inl (h92.2 g2))]
    rfl
   ·have n92:¬(c::m').headD 0=92:=fun h=>g2 (h92.1 h)
    rw[B0]
    refine B5 (fun g3=>key _ ?_) (fun g3=>key _ ?_)
    ·unfold begF
     rw[decide_eq_false (fun h=>h.elim n92 (fun h=>by have:48≤c.toNat:=h.1;omega))]
     rfl
    ·unfold begF
     rw[← decide_not,decide_eq_decide]
     constructor
     ·intro h hh
      rcases hh with hh|hh
      ·exact n92 hh
      ·have:c.toNat≤57:=hh.2
       omega
     ·intro h
      by_cases h57:c.toNat≤57
      ·exact absurd (.inr ⟨by show 48≤c.toNat;omega,h57⟩) h
      ·omega
  ·refine par_end hat hn (by omega) ?_
   unfold parF at hR
   rw[List.getElem?_eq_none (by omega)] at hR
   exact hR
def wholeT(text:Ln):Ln:=if text ≠ []∧P6 text=false then text ++ [10] else text
def nrmA(text:Ln):AV:=if text.length>4194304 then .tup [.pv (.sl []),.pv (.str []),.pv (.int .i64 0),.pv (.iface 61 (.int .i64 2))] else outA text (E4 (wholeT text)) (parF ((E4 (wholeT text)).length+1) (E4 (wholeT text)) 0 [])
theorem nrmA_under(text:Ln):AV.under 0 (nrmA text)=true:=by
 unfold nrmA
 split
 ·rfl
 ·exact outA_under _ _ _
theorem split_ok{s:Ln}(h:s.length≤8388608):LsOK (E4 s):=by
 have key:∀(L:List Ln) (l:Ln),l∈L→l.length≤L.flatten.length:=by
  intro L
  induction L with
  | nil=>intro l h;cases h
  | cons x r ih=>
   intro l h
   rw[List.flatten_cons,List.length_append]
   rcases List.mem_cons.1 h with rfl|h
   ·omega
   ·have:=ih l h;omega
 have ne:∀(s:Ln),∀l∈E4 s,l ≠ []:=by
  intro s
  induction s with
  | nil=>intro l h;cases h
  | cons c r ih=>
   intro l h
   unfold E4 at h
   split at h
   ·rcases List.mem_cons.1 h with rfl|h
    ·simp
    ·exact ih l h
   ·split at h
    ·simp only[List.mem_singleton] at h
     subst h;simp
    ·rename_i k ls e
     rcases List.mem_cons.1 h with rfl|h
     ·simp
     ·exact ih l (by rw[e];exact List.mem_cons_of_mem _ h)
 refine ⟨by have:=fq s;omega,ne s,fun l hl=>?_,by rw[S4];exact h⟩
 have:=key _ l hl
 rw[S4] at this
 omega
theorem Parse_spec{σ:A1}(L:Laid w0.w){text:Ln}(hR:R (nrmA text) σ):A2 (cx w0) normal_Parse.id [.pv (.str text)] σ R:=by
 refine A2.alone L rfl (fun w1 L1=>?_) (nrmA_under text) hR
 refine normal_Parse.calls ?_
 rw[normal_Parse.b0_eq,B0]
 refine B5 (fun g=>?_) (fun g=>?_)
 ·repeat ((with_reducible first|apply A0|apply wI|apply wT|apply wP|apply wS|apply wB);exact rfl)
  refine N1 (σ:=[]) (L:=[]) L5 rfl rfl ?_
  unfold nrmA
  rw[if_pos (by omega)]
 ·have h18:∀w,w=wholeT text→normal_Parse.n18 (normal_Parse.X w1 0) w1 0 (fun r' _=>r'=nrmA text) [] text w:=by
   rintro w rfl
   have hw:(wholeT text).length≤text.length+1:=by
    unfold wholeT
    split
    ·rw[List.length_append,List.length_singleton];omega
    ·omega
   have hls:=split_ok (s:=wholeT text) (by omega)
   refine normal_Parse.n18_in ?_
   rw[normal_Parse.b18_eq]
   refine gh (by omega) ?_
   refine A0 (v:=.agg [lnA (E4 (wholeT text)),.pv (.int .i64 0)]) rfl ⟨rfl,?_⟩
   refine normal_Parse.n24_weak (text':=text) (r':=.ptr 1 0) (out':=.arr 2 0 0 0) (τ:=p3 (E4 (wholeT text)) 0 []) (N2.nil (t:=8) (es:=6) rfl rfl) ?_
   refine rf L1 hls ((E4 (wholeT text)).length+1) 0 [] (by omega) (Nat.zero_le _) (Nat.le_refl _) ?_
   unfold nrmA
   rw[if_neg (by omega)]
  have h15:∀b,b=decide (text ≠ []∧P6 text=false)→normal_Parse.n15 (normal_Parse.X w1 0) w1 0 (fun r' _=>r'=nrmA text) [] text text b:=by
   rintro b rfl
   refine normal_Parse.n15_in ?_
   rw[normal_Parse.b15_eq,B0]
   refine B5 (fun g2=>⟨by simp only[List.length_singleton];omega,h18 _ ?_⟩) (fun g2=>h18 _ ?_)
   ·unfold wholeT;rw[if_pos g2]
   ·unfold wholeT;rw[if_neg g2]
  cases text with
  | nil=>
   refine A4 (fun h=>absurd h (by decide)) (fun _=>h15 _ ?_)
   rfl
  | cons c r=>
   refine A4 (fun _=>?_) (fun h=>absurd h (by simp))
   refine bz (by omega) (E5 (h15 _ ?_))
   cases P6 (c::r)<;>simp
end
end Go.Sv.Nm
end
section
namespace Go.Sv.U
open Go Go.RowKit Go.Proofs
structure WL(L:List Ln):Prop where
 line:∀l∈L,bv l=true
 whole:∀l∈L,P6 l=true
theorem WL.drop{L:List Ln}(h:WL L)(k:Nat):WL (L.drop k):=⟨fun l hl=>h.line l (List.mem_of_mem_drop hl),fun l hl=>h.whole l (List.mem_of_mem_drop hl)⟩
theorem wl_shape{l:Ln}(h:bv l=true)(hw:P6 l=true):∃p,l=p ++ [10] ∧ ∀c∈p,c≠10:=by
 rcases List.eq_nil_or_concat l with rfl|⟨p,c,rfl⟩
 ·cases h
 ·rw[List.concat_eq_append] at *
  have hc:c=10:=by
   unfold P6 at hw
   simpa using hw
  subst hc
  refine ⟨p,rfl,fun d hd e=>?_⟩
  subst e
  unfold bv at h
  rw[Bool.and_eq_true] at h
  have h2:=h.2
  rw[List.dropLast_concat] at h2
  have:p.contains 10=true:=by simpa using hd
  rw[this] at h2
  cases h2
theorem tx:∀(p r:Ln),(∀ c∈p,c≠10)→E4 (p ++ [10]++r)=(p ++ [10])::E4 r
 | [],r,_=>by simp[E4]
 | c::p,r,h=>by
  have hc:c≠10:=h c (by simp)
  have ih:=tx p r fun d hd=>h d (List.mem_cons_of_mem _ hd)
  show E4 (c::(p ++ [10]++r))=_
  rw[E4,if_neg hc,ih]
  rfl
theorem split_WL:∀{L:List Ln},WL L→E4 L.flatten=L
 | [],_=>rfl
 | l::L,h=>by
  obtain ⟨p,rfl,hp⟩:=wl_shape (h.line l (by simp)) (h.whole l (by simp))
  rw[List.flatten_cons,tx p _ hp,split_WL ⟨fun x hx=>h.line x (List.mem_cons_of_mem _ hx),fun x hx=>h.whole x (List.mem_cons_of_mem _ hx)⟩]
theorem split_eq:∀s:Ln,Go.Sv.E4 s=E4 s
 | []=>rfl
 | c::r=>by
  rw[Go.Sv.E4,E4,split_eq r]
  split
  ·rfl
  ·cases E4 r<;>rfl
theorem WL.flat_whole{L:List Ln}(h:WL L)(hn:L ≠ []):P6 L.flatten=true:=by
 rcases List.eq_nil_or_concat L with rfl|⟨q,l,rfl⟩
 ·exact absurd rfl hn
 ·rw[List.concat_eq_append] at *
  obtain ⟨p,rfl,_⟩:=wl_shape (h.line l (by simp)) (h.whole l (by simp))
  rw[List.flatten_append,List.flatten_cons,List.flatten_nil,List.append_nil,←List.append_assoc]
  unfold P6
  rw[List.getLast?_append]
  rfl
theorem WL.count{L:List Ln}(h:WL L):L.flatten.count 10=L.length:=by
 induction L with
 | nil=>rfl
 | cons l L ih=>
  obtain ⟨p,rfl,hp⟩:=wl_shape (h.line l (by simp)) (h.whole l (by simp))
  have h0:p.count 10=0:=List.count_eq_zero.2 fun hm=>hp 10 hm rfl
  rw[List.flatten_cons,List.count_append,List.count_append,ih ⟨fun x hx=>h.line x (List.mem_cons_of_mem _ hx),fun x hx=>h.whole x (List.mem_cons_of_mem _ hx)⟩,h0]
  simp
  omega
theorem flat_take_drop(L:List Ln)(j:Nat):L.flatten.drop (L.take j).flatten.length=(L.drop j).flatten:=by
 have h:=congrArg List.flatten (List.take_append_drop j L)
 rw[List.flatten_append] at h
 rw[← h,List.drop_left]
theorem flat_take_le(L:List Ln)(j:Nat):(L.take j).flatten.length≤L.flatten.length:=by
 have h:=congrArg List.length (congrArg List.flatten (List.take_append_drop j L))
 rw[List.flatten_append,List.length_append] at h
 omega
inductive TakR(L:List Ln):AV→Prop
 | good (p s p' s':Ln) (hs:List Hnk) (j:Nat) (h1:1≤j) (h2:j≤L.length):TakR L (.tup [.pv (.agg [.str p,.str s]),.pv (.agg [.str p',.str s']),.pv (.sl (hs.map O2)),.pv (.str (L.drop j).flatten),.pv (.int .i64 0),.pv (.raw .nilIface)])
 | bad (n e:Int) (h1:e=2∨1≤n) (h2:0≤n) (h3:n≤8388610):TakR L (.tup [.pv (.agg [.str [],.str []]),.pv (.agg [.str [],.str []]),.pv (.sl []),.pv (.str []),.pv (.int .i64 n),.pv (.iface 61 (.int .i64 e))])
theorem hunksL_len:∀(f:Nat) (acc:List Hnk) (ls:List Ln) (hs:List Hnk) (r:List Ln),(∀ l∈ls,l ≠ [])→X9 f acc ls=some (hs,r)→r.length≤ls.length
 | 0,acc,ls,hs,r,_,h=>by cases h
 | f+1,acc,[],hs,r,_,h=>by cases h;exact Nat.le_refl _
 | f+1,acc,l::ls,hs,r,hne,h=>by
  unfold X9 at h
  split at h
  ·split at h
   ·cases h
   ·rename_i x r' e
    have ho:=hunkL_out (T:=(l::ls).flatten.length) (fun y hy=>mem_flatten_len hy) hne e
    obtain ⟨l1,q,hq⟩:=ho.pre
    have hlen:=congrArg List.length hq
    simp only[List.length_cons,List.length_append] at hlen
    have:=hunksL_len f (acc ++ [x]) r' hs r (fun y hy=>hne y (by rw[hq];simp[hy])) h
    simp only[List.length_cons] at *
    omega
  ·cases h;exact Nat.le_refl _
theorem readL_len{L:List Ln}(hne:∀l∈L,l ≠ []){x:Pars}(h:gm L=some x):x.r.length+2≤L.length:=by
 cases L with
 | nil=>simp[gm] at h
 | cons l1 r=>
  cases r with
  | nil=>simp[gm] at h
  | cons l2 ls=>
   simp only[gm] at h
   split at h
   ·split at h
    ·rename_i e
     simp only[Option.some.injEq] at h
     subst h
     have:=hunksL_len _ _ _ _ _ (fun l hl=>hne l (by simp[hl])) e
     simp only[List.length_cons]
     omega
    ·simp at h
   ·simp at h
theorem wholeF_WL{L:List Ln}(h:WL L):X0 L.flatten=L.flatten:=by
 unfold X0
 by_cases hn:L = []
 ·subst hn;rfl
 ·rw[if_neg]
  intro hh
  rw[h.flat_whole hn] at hh
  cases hh.2
theorem unified_rel{L:List Ln}(h:WL L){w:AV}(hw:Y1 L.flatten w):TakR L w:=by
 have hne:∀l∈L,l ≠ []:=fun l hl e=>by subst e;have:=h.line _ hl;cases this
 unfold Y1 at hw
 split at hw
 ·rename_i x H8 e
  obtain ⟨⟨j,hj,hd⟩,rfl⟩:=hw
  unfold parseF at e
  rw[wholeF_WL h,split_WL h] at *
  split at e
  ·cases e
  ·split at e
   ·cases e
   ·rename_i y hy
    simp only[Option.some.injEq,Prod.mk.injEq] at e
    obtain ⟨rfl,rfl⟩:=e
    have hl:=readL_len hne hy
    rw[← hd,List.length_drop] at hl
    have e2:sizeF L.flatten y.r=(L.take j).flatten.length:=by
     unfold sizeF
     rw[wholeF_WL h,←hd]
     have:=congrArg List.length (congrArg List.flatten (List.take_append_drop j L))
     rw[List.flatten_append,List.length_append] at this
     omega
    rw[e2,Nat.min_eq_left (flat_take_le L j),flat_take_drop]
    exact .good _ _ _ _ _ j (by omega) (by omega)
 ·obtain ⟨n,e,h1,⟨h2,h3⟩,rfl⟩:=hw
  exact .bad n e h1 h2 h3
theorem headC_lt{ls:List Ln}{at_:Nat}(h:gn (Y5 (ls.drop at_)).1=true):at_<ls.length:=by
 by_cases hc:at_<ls.length
 ·exact hc
 ·rw[List.drop_eq_nil_of_le (by omega)] at h
  have:=headC_len h
  simp[Y5] at this
theorem wq{ls:List Ln}{first:Nat}{line err:Int}{o:Option (Hnk×Nat)}(h:jh ls first line err o)(hf:first<ls.length):0≤line∧line≤(ls.length:Int):=by
 cases h<;>omega
theorem ReadC_out{ls:List Ln}(hls:ls.length≤8388600){at_:Nat}{acc:List Hnk}{line err:Int}{o:Option (List Hnk×Nat)}(h:li ls at_ acc line err o):at_≤ls.length→(∀ x a,o=some (x,a)→at_≤a∧a≤ls.length)∧(o=none→1≤line∧line≤8388610):=by
 induction h with
 | stop h hne=>
  intro ha
  refine ⟨fun x a e=>?_,nofun⟩
  cases e
  omega
 | none h=>
  intro ha
  refine ⟨nofun,fun _=>?_⟩
  rw[D8 (by omega) (by omega)]
  omega
 | bad h hh=>
  intro ha
  have:=wq hh (headC_lt h)
  refine ⟨nofun,fun _=>?_⟩
  rw[D8 (by omega) (by omega)]
  omega
 | order h hh ho hb=>
  intro ha
  have:=wq hh (headC_lt h)
  refine ⟨nofun,fun _=>?_⟩
  rw[D8 (by omega) (by omega)]
  omega
 | step h hh ho hr ih=>
  intro ha
  have hs:=vx (T:=ls.flatten.length) (fun l hl=>mem_flatten_len hl) hh _ _ rfl
  obtain ⟨g1,g2⟩:=ih hs.2
  exact ⟨fun x a e=>by have:=g1 x a e;omega,g2⟩
theorem wholeL_WL{L:List Ln}(h:WL L):wholeL L=L:=by
 unfold wholeL
 split
 ·rfl
 ·rename_i l e
  rw[if_pos (h.whole l (List.mem_of_getLast? e))]
theorem context_rel{L:List Ln}(h:WL L)(hl:L.length≤8388600){w:AV}(hw:jy L.flatten w):TakR L w:=by
 have e1:T2 L.flatten=L:=by unfold T2;rw[split_WL h,wholeL_WL h]
 cases hw with
 | big h=>exact .bad 0 2 (.inl rfl) (by decide) (by decide)
 | name1=>exact .bad 1 110 (.inr (by decide)) (by decide) (by decide)
 | name2=>exact .bad 2 110 (.inr (by decide)) (by decide) (by decide)
 | bad h0 h1 h2 hr=>
  rw[e1] at hr h2
  have hlt:=py (at_:=1) (ls:=L) h2 (by simp)
  have:=(ReadC_out hl hr (by omega)).2 rfl
  exact .bad _ _ (.inr this.1) (by omega) this.2
 | good h0 h1 h2 hr=>
  rw[e1] at hr h2 ⊢
  have hlt:=py (at_:=1) (ls:=L) h2 (by simp)
  have:=(ReadC_out hl hr (by omega)).1 _ _ rfl
  unfold goodA
  rw[Nat.min_eq_right (flat_take_le L _),flat_take_drop]
  exact .good _ _ _ _ _ _ (by omega) this.2
end Go.Sv.U
end
