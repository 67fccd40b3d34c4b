/- What the code of reading answers: a hunk's rows. -/
import Derived.Test.YtgdnoobpnhmpjaaGreatDoorUnU
set_option linter.unusedVariables false
set_option linter.unusedSimpArgs false
set_option maxRecDepth 100000
namespace Go.Sv.U
open Go Go.RowKit Go.Proofs
section
variable {w0:B4}{R:AV→A1→Prop}
abbrev fO(e:Int)(at_:Nat):M1:=.cells 113 [.pv (.int .i64 e),.pv (.int .i64 (at_:Int))]
abbrev rO(r:Row):M1:=.cells 79 [.pv (.int .i64 r.k),.pv (.str r.t)]
abbrev rwS(ls:List Ln)(at_:Nat)(p s p' s':Ln)(hs:List Hnk)(h:Hnk)(acc:List Row):A1:=
 [zN,zN,rdr ls at_,zN,zN,zN,nmO p s,nmO p' s',.arr 6 (hs.map O2) false,.cells 46 (hC0 X3),.cells 46 [.pv (.int .i64 h.a),.pv (.int .i64 h.n),.pv (.int .i64 h.b),.pv (.int .i64 h.m),.pv (.str h.head),.arr 11 acc.length 0 acc.length],.arr 2 (acc.map P0) false]
variable {ls:List Ln}{p s p' s':Ln}{hs:List Hnk}{h:Hnk}{at_:Nat}{acc:List Row}{n m:Int}
theorem rows91(hat:at_≤8388608)(hac:acc.length≤8388608){w:Row}(t:Bool)(ht:t=decide (h.n<n∨h.m<m))
  (bad:h.n<n∨h.m<m→R (.ptr 12 0) (rwS ls at_ p s p' s' hs h acc ++ [fO 111 at_,rO w]))
  (next:¬(h.n<n∨h.m<m)→A9.n7 (A9.X w0 11) w0 11 R (rwS ls (at_+1) p s p' s' hs h (acc ++ [w])) (.ptr 2 0) (.ptr 10 0) n m true):
  A9.n91 (A9.X w0 11) w0 11 R (rwS ls at_ p s p' s' hs h acc ++ [fO 111 at_,rO w]) (.ptr 2 0) (.ptr 10 0) n m (.ptr 12 0) (.ptr 13 0) t:=by
 subst ht
 have wi:IntKind.wrap .i64 ((at_:Int)+1)=((at_+1:Nat):Int):=by rw[D8 (by omega) (by omega)];omega
 refine A9.n91_in ?_
 rw[A9.b91_eq,B0]
 refine B5 (fun g=>D6 (Nat.le_of_ble_eq_true rfl) (bad g)) (fun g=>?_)
 repeat ((with_reducible first|apply A0|apply wI|apply wT|apply wP|apply wS|apply wB);exact rfl)
 refine J5 (v:=.pv (.sl [P0 w])) rfl ⟨rfl,?_⟩
 refine J5 (W9 (id:=11) (es:=2) (ver:=acc.length) (xs:=acc.map P0) (ys:=[P0 w]) rfl rfl (List.length_map _).symm rfl rfl ⟨by rw[List.length_map];show acc.length+1≤_;omega,by rw[List.length_map];show (acc.length+1)*24≤_;omega⟩) ?_
 repeat ((with_reducible first|apply A0|apply wI|apply wT|apply wP|apply wS|apply wB);exact rfl)
 have e:acc.map P0 ++ [P0 w]=(acc ++ [w]).map P0:=by simp
 have e2:(acc.map P0).length + [P0 w].length=(acc ++ [w]).length:=by simp
 rw[wi,e,e2]
 exact A9.n7_weak (N2.drop (τ:=rwS ls (at_+1) p s p' s' hs h (acc ++ [w])) L5 (Nat.le_of_ble_eq_true rfl) rfl rfl) (next g)
theorem rows76(hn:0≤n)(hn':n≤8388608)(hm:0≤m)(hm':m≤8388608){w:Row}
  (key:∀t,t=decide (h.n<sw w.k n∨h.m<ve w.k m)→A9.n91 (A9.X w0 11) w0 11 R (rwS ls at_ p s p' s' hs h acc ++ [fO 111 at_,rO w]) (.ptr 2 0) (.ptr 10 0) (sw w.k n) (ve w.k m) (.ptr 12 0) (.ptr 13 0) t):
  A9.n76 (A9.X w0 11) w0 11 R (rwS ls at_ p s p' s' hs h acc ++ [fO 111 at_,rO w]) (.ptr 2 0) (.ptr 10 0) n m (.ptr 12 0) (.ptr 13 0):=by
 have wn:IntKind.wrap .i64 (n+1)=n+1:=D8 (by omega) (by omega)
 have wm:IntKind.wrap .i64 (m+1)=m+1:=D8 (by omega) (by omega)
 have key88:∀n' m',n'=sw w.k n→m'=ve w.k m→A9.n88 (A9.X w0 11) w0 11 R (rwS ls at_ p s p' s' hs h acc ++ [fO 111 at_,rO w]) (.ptr 2 0) (.ptr 10 0) n' m' (.ptr 12 0) (.ptr 13 0):=by
  rintro n' m' rfl rfl
  refine A9.n88_in ?_
  rw[A9.b88_eq]
  repeat ((with_reducible first|apply A0|apply wI|apply wT|apply wP|apply wS|apply wB);exact rfl)
  rw[B0]
  refine B5 (fun g=>key _ ?_) (fun g=>?_)
  ·exact (decide_eq_true (.inl g)).symm
  ·repeat ((with_reducible first|apply A0|apply wI|apply wT|apply wP|apply wS|apply wB);exact rfl)
   refine key _ ?_
   rw[decide_eq_decide]
   exact ⟨.inr,fun e=>e.resolve_left g⟩
 have key82:∀n',n'=sw w.k n→A9.n82 (A9.X w0 11) w0 11 R (rwS ls at_ p s p' s' hs h acc ++ [fO 111 at_,rO w]) (.ptr 2 0) (.ptr 10 0) n' m (.ptr 12 0) (.ptr 13 0):=by
  rintro n' rfl
  refine A9.n82_in ?_
  rw[A9.b82_eq]
  repeat ((with_reducible first|apply A0|apply wI|apply wT|apply wP|apply wS|apply wB);exact rfl)
  rw[T7]
  refine B5 (fun g=>key88 _ _ rfl ?_) (fun g=>key88 _ _ rfl ?_)
  ·rw[ve,if_pos g]
  ·rw[ve,if_neg g,wm]
 refine A9.n76_in ?_
 rw[A9.b76_eq]
 repeat ((with_reducible first|apply A0|apply wI|apply wT|apply wP|apply wS|apply wB);exact rfl)
 rw[T7]
 refine B5 (fun g=>key82 _ ?_) (fun g=>key82 _ ?_)
 ·rw[sw,if_pos g]
 ·rw[sw,if_neg g,wn]
theorem rows36{c:UInt8}{t0:Ln}(hk:at_<ls.length)(idx:∀σ,D1 σ B3 J7.td (.pv (im ls)) (at_:Int)=some (.ro (.str (c::t0)) 0))(t:Bool)(ht:t=decide (n=h.n∧m=h.m))
  (hok:n=h.n∧m=h.m→R (.pv (.raw (.pointer none))) (rwS ls at_ p s p' s' hs h acc ++ [fO 111 at_]))
  (hbad:¬(n=h.n∧m=h.m)→je (c::t0)=none→R (.ptr 12 0) (rwS ls at_ p s p' s' hs h acc ++ [fO 111 at_,rO ⟨0,t0⟩]))
  (key:¬(n=h.n∧m=h.m) → ∀w:Row,je (c::t0)=some w→A9.n76 (A9.X w0 11) w0 11 R (rwS ls at_ p s p' s' hs h acc ++ [fO 111 at_,rO w]) (.ptr 2 0) (.ptr 10 0) n m (.ptr 12 0) (.ptr 13 0)):
  A9.n36 (A9.X w0 11) w0 11 R (rwS ls at_ p s p' s' hs h acc ++ [fO 111 at_]) (.ptr 2 0) (.ptr 10 0) n m (.ptr 12 0) t:=by
 subst ht
 refine A9.n36_in ?_
 rw[A9.b36_eq,B0]
 refine B5 (fun g=>D6 (Nat.le_of_ble_eq_true rfl) (hok g)) (fun g=>?_)
 repeat ((with_reducible first|apply A0|apply wI|apply wT|apply wP|apply wS|apply wB);exact rfl)
 rw[B0,if_neg (by rw[List.length_map];omega)]
 repeat ((with_reducible first|apply A0|apply wI|apply wT|apply wP|apply wS|apply wB);exact rfl)
 refine A0 (idx _) ?_
 repeat ((with_reducible first|apply A0|apply wI|apply wT|apply wP|apply wS|apply wB);exact rfl)
 refine A0 (F5 (k:=1) (by simp)) (F4 ?_)
 refine A0 (v:=.pv (.agg [.int .i64 0,.str t0])) rfl ?_
 refine A0 (v:=rwS ls at_ p s p' s' hs h acc ++ [fO 111 at_,rO ⟨0,t0⟩]) rfl ?_
 have hlen:List.length (rwS ls at_ p s p' s' hs h acc ++ [fO 111 at_])=13:=rfl
 rw[hlen]
 refine A0 (M3 (c:=c) rfl) (G2 ?_)
 have ne:∀k:UInt8,¬((c.toNat:Int)=(k.toNat:Int))→c≠k:=fun k h e=>h (by rw[e])
 have eq:∀k:UInt8,(c.toNat:Int)=(k.toNat:Int)→c=k:=fun k h=>UInt8.toNat_inj.1 (by omega)
 rw[G6]
 refine B5 (fun g1=>?_) (fun g1=>?_)
 ·generalize hq:(1:Int)=q
  refine A0 (v:=.ptr 13 0) rfl ?_
  refine A0 (v:=rwS ls at_ p s p' s' hs h acc ++ [fO 111 at_,rO ⟨q,t0⟩]) rfl ?_
  exact key g ⟨q,t0⟩ (by rw[je,if_pos (eq 32 g1),hq])
 rw[G6]
 refine B5 (fun g2=>?_) (fun g2=>?_)
 ·generalize hq:(1:Int)=q
  refine A0 (v:=.pv (.agg [.int .i64 q,.str [10]])) rfl ?_
  refine A0 (v:=rwS ls at_ p s p' s' hs h acc ++ [fO 111 at_,rO ⟨q,[10]⟩]) rfl ?_
  exact key g ⟨q,[10]⟩ (by rw[je,if_neg (ne 32 g1),if_pos (eq 10 g2),hq])
 rw[G6]
 refine B5 (fun g3=>?_) (fun g3=>?_)
 ·generalize hq:(2:Int)=q
  refine A0 (v:=.ptr 13 0) rfl ?_
  refine A0 (v:=rwS ls at_ p s p' s' hs h acc ++ [fO 111 at_,rO ⟨q,t0⟩]) rfl ?_
  exact key g ⟨q,t0⟩ (by rw[je,if_neg (ne 32 g1),if_neg (ne 10 g2),if_pos (eq 45 g3),hq])
 rw[G6]
 refine B5 (fun g4=>?_) (fun g4=>?_)
 ·generalize hq:(3:Int)=q
  refine A0 (v:=.ptr 13 0) rfl ?_
  refine A0 (v:=rwS ls at_ p s p' s' hs h acc ++ [fO 111 at_,rO ⟨q,t0⟩]) rfl ?_
  exact key g ⟨q,t0⟩ (by rw[je,if_neg (ne 32 g1),if_neg (ne 10 g2),if_neg (ne 45 g3),if_pos (eq 43 g4),hq])
 ·refine D6 (Nat.le_of_ble_eq_true rfl) (hbad g ?_)
  rw[je,if_neg (ne 32 g1),if_neg (ne 10 g2),if_neg (ne 45 g3),if_neg (ne 43 g4)]
theorem mt(hl:ls.length≤8388608)(hx:∀l∈ls,l ≠ []∧l.length≤8388608)(hN:0≤h.n∧h.n≤2147483648)(hM:0≤h.m∧h.m≤2147483648):∀(r:List Ln) (at_:Nat) (n m:Int) (fr:Bool) (acc:List Row),
  ls.drop at_=r→at_≤ls.length→0≤n→n≤at_→0≤m→m≤at_→(fr=true→acc ≠ [])→acc.length≤at_→(∀ x∈acc,x.t.length≤8388608) →
  (Z6 h.n h.m r n m fr acc=none→(∀ acc at_,at_≤ls.length→R (.ptr 12 0) (rwS ls at_ p s p' s' hs h acc ++ [fO 111 at_])) ∧ ∀acc at_ w,at_≤ls.length→R (.ptr 12 0) (rwS ls at_ p s p' s' hs h acc ++ [fO 111 at_,rO w])) →
  (∀ rows r',Z6 h.n h.m r n m fr acc=some (rows,r') → ∀at',ls.drop at'=r'→at'≤ls.length→R (.pv (.raw (.pointer none))) (rwS ls at' p s p' s' hs h rows ++ [fO 111 at'])) →
  A9.n7 (A9.X w0 11) w0 11 R (rwS ls at_ p s p' s' hs h acc) (.ptr 2 0) (.ptr 10 0) n m fr:=by
 intro r
 induction r with
 | nil=>
  intro at_ n m fr acc hd hat n0 n1 m0 m1 hfr hac htx hbad hgood
  have hk:=X7 hd
  have key36:∀t,t=decide (n=h.n∧m=h.m)→A9.n36 (A9.X w0 11) w0 11 R (rwS ls at_ p s p' s' hs h acc ++ [fO 111 at_]) (.ptr 2 0) (.ptr 10 0) n m (.ptr 12 0) t:=by
   rintro t rfl
   refine A9.n36_in ?_
   rw[A9.b36_eq,B0]
   refine B5 (fun g=>?_) (fun g=>?_)
   ·refine D6 (Nat.le_of_ble_eq_true rfl) (hgood acc [] ?_ at_ hd hat)
    rw[Z6,if_pos g]
   ·repeat ((with_reducible first|apply A0|apply wI|apply wT|apply wP|apply wS|apply wB);exact rfl)
    rw[B0,if_pos (by rw[List.length_map];omega)]
    refine D6 (Nat.le_of_ble_eq_true rfl) ((hbad ?_).1 acc at_ hat)
    rw[Z6,if_neg g]
  have key14:∀t,t=false→A9.n14 (A9.X w0 11) w0 11 R (rwS ls at_ p s p' s' hs h acc ++ [fO 111 at_]) (.ptr 2 0) (.ptr 10 0) n m fr (.ptr 12 0) t:=by
   rintro t rfl
   refine A9.n14_in ?_
   rw[A9.b14_eq,C3]
   repeat ((with_reducible first|apply A0|apply wI|apply wT|apply wP|apply wS|apply wB);exact rfl)
   rw[G6]
   refine B5 (fun g=>?_) (fun g=>key36 _ ?_)
   ·repeat ((with_reducible first|apply A0|apply wI|apply wT|apply wP|apply wS|apply wB);exact rfl)
    refine key36 _ ?_
    rw[Bool.eq_iff_iff,beq_iff_eq,decide_eq_true_eq]
    exact ⟨fun e=>⟨g,e⟩,fun e=>e.2⟩
   ·rw[decide_eq_false (fun e=>g e.1)]
  refine A9.n7_in ?_
  rw[A9.b8_eq]
  repeat ((with_reducible first|apply A0|apply wI|apply wT|apply wP|apply wS|apply wB);exact rfl)
  refine ⟨rfl,?_⟩
  repeat ((with_reducible first|apply A0|apply wI|apply wT|apply wP|apply wS|apply wB);exact rfl)
  rw[B0,if_neg (by rw[List.length_map];omega)]
  exact key14 _ rfl
 | cons l r ih=>
  intro at_ n m fr acc hd hat n0 n1 m0 m1 hfr hac htx hbad hgood
  obtain ⟨h1,h2,hk⟩:=Q6 hd
  have hlx:=hx l (List.mem_of_getElem? h1)
  have wi:IntKind.wrap .i64 ((at_:Int)+1)=((at_+1:Nat):Int):=by rw[D8 (by omega) (by omega)];omega
  have wn:IntKind.wrap .i64 (n+1)=n+1:=D8 (by omega) (by omega)
  have wm:IntKind.wrap .i64 (m+1)=m+1:=D8 (by omega) (by omega)
  obtain ⟨c,t0,rfl⟩:∃c t0,l=c::t0:=by
   cases l with
   | nil=>exact absurd rfl hlx.1
   | cons c t0=>exact ⟨c,t0,rfl⟩
  have idx:∀σ,D1 σ B3 J7.td (.pv (im ls)) (at_:Int)=some (.ro (.str (c::t0)) 0):=fun σ=>T6 ju (rl h1) rfl
  have hac':acc.length≤8388608:=by omega
  have key36:(c::t0).head? ≠ some 92 → ∀t,t=decide (n=h.n∧m=h.m)→A9.n36 (A9.X w0 11) w0 11 R (rwS ls at_ p s p' s' hs h acc ++ [fO 111 at_]) (.ptr 2 0) (.ptr 10 0) n m (.ptr 12 0) t:=by
   intro h92 t ht
   refine rows36 hk idx t ht (fun g=>hgood acc _ (by rw[Z6,if_neg h92,if_pos g]) at_ hd hat) (fun g hw=>(hbad (by rw[Z6,if_neg h92,if_neg g,hw])).2 acc at_ _ hat) (fun g w hw=>?_)
   have i1:sw w.k n≤n+1∧n≤sw w.k n:=by unfold sw;split<;>omega
   have i2:ve w.k m≤m+1∧m≤ve w.k m:=by unfold ve;split<;>omega
   refine rows76 n0 (by omega) m0 (by omega) (fun t ht=>rows91 (by omega) hac' t ht (fun g1=>(hbad ?_).2 acc at_ w hat) (fun g1=>?_))
   ·rw[Z6,if_neg h92,if_neg g,hw]
    simp only
    rw[if_pos g1]
   ·have eq:Z6 h.n h.m ((c::t0)::r) n m fr acc=Z6 h.n h.m r (sw w.k n) (ve w.k m) true (acc ++ [w]):=by
     rw[Z6,if_neg h92,if_neg g,hw]
     simp only
     rw[if_neg g1]
    refine ih (at_+1) (sw w.k n) (ve w.k m) true (acc ++ [w]) h2 (by omega) (by omega) (by omega) (by omega) (by omega) (fun _=>by simp) (by rw[List.length_append,List.length_singleton];omega) (fun x hx=>by
     rcases List.mem_append.1 hx with hx|hx
     ·exact htx x hx
     ·rw[List.mem_singleton] at hx;subst hx
      exact Nat.le_trans (rowOf_le hw) hlx.2) (fun e=>hbad (by rw[eq];exact e)) (fun rows r' e=>hgood rows r' (by rw[eq];exact e))
  have key14:∀t,t=decide (c=92)→A9.n14 (A9.X w0 11) w0 11 R (rwS ls at_ p s p' s' hs h acc ++ [fO 111 at_]) (.ptr 2 0) (.ptr 10 0) n m fr (.ptr 12 0) t:=by
   rintro t rfl
   refine A9.n14_in ?_
   rw[A9.b14_eq,B0]
   refine B5 (fun g92=>?_) (fun g92=>?_)
   ·have h92:(c::t0).head? = some 92:=by rw[g92];rfl
    rw[E9]
    refine A4 (fun gf=>?_) (fun gf=>?_)
    ·subst gf
     obtain ⟨q,w,rfl⟩:∃q w,acc=q ++ [w]:=by
      rcases List.eq_nil_or_concat acc with e|⟨q,w,e⟩
      ·exact absurd e (hfr rfl)
      ·exact ⟨q,w,by rw[e,List.concat_eq_append]⟩
     have hql:(q ++ [w]).length=q.length+1:=by simp
     have hget:((q ++ [w]).map P0)[q.length]? = some (.agg [.int .i64 w.k,.str w.t]):=by simp
     have hw8:w.t.length≤8388608:=htx w (by simp)
     have hwt:w.t.length≤140737488355328:=by omega
     repeat ((with_reducible first|apply A0|apply wI|apply wT|apply wP|apply wS|apply wB);exact rfl)
     have wl:IntKind.wrap .i64 ((((q ++ [w]).length:Nat):Int)-1)=(q.length:Int):=by rw[hql,D8 (by omega) (by omega)];omega
     rw[wl]
     refine A0 (eh (id:=11) (xs:=(q ++ [w]).map P0) tab79 rfl (by omega) rfl (List.length_map _)) ?_
     rw[Nat.zero_add]
     repeat ((with_reducible first|apply A0|apply wI|apply wT|apply wP|apply wS|apply wB);exact rfl)
     refine A0 (load_eptr (id:=11) (xs:=(q ++ [w]).map P0) rfl (List.length_map _) hget rfl rfl) (F4 ?_)
     refine W8 hwt (F4 ?_)
     repeat ((with_reducible first|apply A0|apply wI|apply wT|apply wP|apply wS|apply wB);exact rfl)
     refine A0 (xh (id:=11) (xs:=(q ++ [w]).map P0) rfl (List.length_map _) hget rfl rfl rfl (by simp)) ?_
     have e:((q ++ [w]).map P0).set q.length (.agg (P1 [.int .i64 w.k,.str w.t] (0+1) [.str (H4 w.t)]))=(q ++ [(⟨w.k,H4 w.t⟩:Row)]).map P0:=by
      rw[List.map_append,List.set_append_right _ _ (by simp)]
      simp[P1]
     have e3:(q ++ [w]).length=(q ++ [(⟨w.k,H4 w.t⟩:Row)]).length:=by simp
     rw[e]
     refine A0 rfl (A0 rfl (A0 (v:=.pv (.int .i64 (at_:Int))) rfl (G2 ?_)))
     rw[wi]
     refine A0 rfl (A0 rfl ?_)
     generalize hfv:false=fv
     refine A0 (v:=[zN,zN,rdr ls (at_+1),zN,zN,zN,nmO p s,nmO p' s',.arr 6 (hs.map O2) false,.cells 46 (hC0 X3),.cells 46 [.pv (.int .i64 h.a),.pv (.int .i64 h.n),.pv (.int .i64 h.b),.pv (.int .i64 h.m),.pv (.str h.head),.arr 11 (q ++ [w]).length 0 (q ++ [w]).length],.arr 2 ((q ++ [(⟨w.k,H4 w.t⟩:Row)]).map P0) fv,fO 111 at_]) rfl ?_
     rw[e3]
     subst hfv
     have eb:ay (q ++ [w])=q ++ [⟨w.k,H4 w.t⟩]:=by
      unfold ay
      rw[List.getLast?_append];simp
     have eq:Z6 h.n h.m ((c::t0)::r) n m true (q ++ [w])=Z6 h.n h.m r n m false (q ++ [⟨w.k,H4 w.t⟩]):=by
      rw[Z6,if_pos h92,if_pos rfl,eb]
     have ih':=ih (at_+1) n m false (q ++ [⟨w.k,H4 w.t⟩]) h2 (by omega) n0 (by omega) m0 (by omega) (fun e=>by cases e) (by rw[List.length_append,List.length_singleton] at hac ⊢;omega) (fun x hx=>by
      rcases List.mem_append.1 hx with hx|hx
      ·exact htx x (by simp[hx])
      ·rw[List.mem_singleton] at hx;subst hx
       exact Nat.le_trans (Y7 w.t) hw8) (fun e=>hbad (by rw[eq];exact e)) (fun rows r' e=>hgood rows r' (by rw[eq];exact e))
     exact A9.n7_weak (N2.drop (τ:=rwS ls (at_+1) p s p' s' hs h (q ++ [⟨w.k,H4 w.t⟩])) L5 (Nat.le_of_ble_eq_true rfl) rfl rfl) ih'
    ·refine D6 (Nat.le_of_ble_eq_true rfl) ((hbad ?_).1 acc at_ hat)
     rw[Z6,if_pos h92,if_neg (by rw[gf];decide)]
   ·have h92:(c::t0).head? ≠ some 92:=by simpa using g92
    repeat ((with_reducible first|apply A0|apply wI|apply wT|apply wP|apply wS|apply wB);exact rfl)
    rw[G6]
    refine B5 (fun g=>?_) (fun g=>key36 h92 _ ?_)
    ·repeat ((with_reducible first|apply A0|apply wI|apply wT|apply wP|apply wS|apply wB);exact rfl)
     refine key36 h92 _ ?_
     rw[Bool.eq_iff_iff,beq_iff_eq,decide_eq_true_eq]
     exact ⟨fun e=>⟨g,e⟩,fun e=>e.2⟩
    ·rw[decide_eq_false (fun e=>g e.1)]
  refine A9.n7_in ?_
  rw[A9.b8_eq]
  repeat ((with_reducible first|apply A0|apply wI|apply wT|apply wP|apply wS|apply wB);exact rfl)
  refine ⟨rfl,?_⟩
  repeat ((with_reducible first|apply A0|apply wI|apply wT|apply wP|apply wS|apply wB);exact rfl)
  rw[B0,if_pos (by rw[List.length_map];omega)]
  repeat ((with_reducible first|apply A0|apply wI|apply wT|apply wP|apply wS|apply wB);exact rfl)
  refine A0 (idx _) ?_
  repeat ((with_reducible first|apply A0|apply wI|apply wT|apply wP|apply wS|apply wB);exact rfl)
  refine A0 (M3 (c:=c) rfl) (G2 (key14 _ ?_))
  rw[Bool.eq_iff_iff,beq_iff_eq,decide_eq_true_eq]
  exact ⟨fun e=>UInt8.toNat_inj.1 (by have:UInt8.toNat 92=92:=rfl;omega),fun e=>by rw[e];rfl⟩
end
end Go.Sv.U
