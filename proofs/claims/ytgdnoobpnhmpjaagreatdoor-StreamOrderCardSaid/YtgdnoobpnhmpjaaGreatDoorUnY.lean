/- What the code of reading answers: a hunk, a whole diff, a text. -/
import Derived.Test.YtgdnoobpnhmpjaaGreatDoorUnX
import Derived.Test.YtgdnoobpnhmpjaaGreatDoorHk
import Derived.Test.YtgdnoobpnhmpjaaGreatDoorSvBk
set_option linter.unusedVariables false
set_option linter.unusedSimpArgs false
set_option maxRecDepth 100000
namespace Go.Sv.U
open Go Go.RowKit Go.Proofs
section
variable {w0:B4}{σ:A1}{R:AV→A1→Prop}
theorem vt{k:Nat}{id es n:Nat}{xs:List PV}{fz:Bool}(h:σ[id]? = some (.arr es xs fz))(hk:Nat.ble k id=true)(hn:xs.length=n):gd k σ (.arr id n 0 n)=some (.pv (.sl xs)):=by
 simp only[gd,hk,h]
 rw[if_pos ⟨hn,by omega⟩,List.drop_zero,List.take_of_length_le (by omega)]
theorem jd{k:Nat}{id:Nat}{h:Hnk}{rows:List Row}{fz:Bool}(ho:σ[id]? = some (.arr 2 (rows.map P0) fz))(hk:Nat.ble k id=true):
  kq k σ (.agg [.pv (.int .i64 h.a),.pv (.int .i64 h.n),.pv (.int .i64 h.b),.pv (.int .i64 h.m),.pv (.str h.head),.arr id rows.length 0 rows.length])=some (.pv (O2 { h with rows:=rows })):=by
 have e:=vt ho hk (List.length_map _)
 simp only[kq,ic,e]
 rfl
theorem iw{k:Nat}{a b a' b':AV}(h1:lb k σ a=some a')(h2:lb k σ b=some b'):te k σ (.tup [a,b])=some (.tup [a',b']):=by
 simp[te,sg,h1,h2]
theorem load_elem{ti:TI}{id es ver i:Nat}{xs:List PV}{fz:Bool}{cs:List PV}(ho:σ[id]? = some (.arr es xs fz))(hv:xs.length=ver)(hi:xs[i]? = some (.agg cs))(ha:ti.td.isAgg=true)(hs:cs.length=ti.size):A6 σ ti (.eptr id ver i 0)=some (.pv (.agg cs)):=by
 simp only[A6,ho,if_pos hv,hi,ga,ha,hs,and_self,if_true,Option.map_some]
abbrev S9(ls:List Ln)(at_:Nat)(p s p' s':Ln)(hs:List Hnk):A1:=[zN,zN,rdr ls at_,zN,zN,zN,nmO p s,nmO p' s',.arr 6 (hs.map O2) false]
abbrev fR(e:Int)(at_:Nat):AV:=.ro (.agg [.int .i64 e,.int .i64 (at_:Int)]) 0
abbrev hT(ls:List Ln)(at_:Nat)(p s p' s':Ln)(hs:List Hnk)(h:Hnk):A1:=S9 ls at_ p s p' s' hs ++ [.cells 46 (hC0 X3),.cells 46 (hC0 h)]
variable {ls:List Ln}{p s p' s':Ln}{hs hs0:List Hnk}{at_:Nat}
theorem rows_spec{h:Hnk}(hl:ls.length≤8388608)(hx:∀l∈ls,l ≠ []∧l.length≤8388608)(hN:0≤h.n∧h.n≤2147483648)(hM:0≤h.m∧h.m≤2147483648)(hat:at_≤ls.length)
  (hbad:Z6 h.n h.m (ls.drop at_) 0 0 false []=none→(∀ acc at_,at_≤ls.length→R (.ptr 12 0) (rwS ls at_ p s p' s' hs h acc ++ [fO 111 at_])) ∧ ∀acc at_ w,at_≤ls.length→R (.ptr 12 0) (rwS ls at_ p s p' s' hs h acc ++ [fO 111 at_,rO w]))
  (hgood:∀rows r',Z6 h.n h.m (ls.drop at_) 0 0 false []=some (rows,r') → ∀at',ls.drop at'=r'→at'≤ls.length→R (.pv (.raw (.pointer none))) (rwS ls at' p s p' s' hs h rows ++ [fO 111 at'])):
  A2 (cx w0) A9.id [.ptr 2 0,.ptr 10 0] (hT ls at_ p s p' s' hs h) R:=by
 refine A9.calls ?_
 rw[A9.b0_eq]
 have e:List.length (hT ls at_ p s p' s' hs h)=11:=rfl
 rw[e]
 generalize hf:false=f
 refine A9.n7_weak (N2.cellNil (id:=10) (es:=2) (pre:=[.pv (.int .i64 h.a),.pv (.int .i64 h.n),.pv (.int .i64 h.b),.pv (.int .i64 h.m),.pv (.str h.head)]) (post:=[]) rfl) ?_
 exact mt hl hx hN hM (ls.drop at_) at_ 0 0 f [] rfl hat (by omega) (by omega) (by omega) (by omega) (fun e=>by rw[← hf] at e;cases e) (Nat.zero_le _) (fun x hx=>by cases hx) (by rw[← hf];exact hbad) (by rw[← hf];exact hgood)
theorem hunk36{h:Hnk}{rows:List Row}{a:Nat}(t:Bool)
  (hbad:t=true→R (.tup [.pv (O2 { h with rows:=rows }),fR 112 a]) (S9 ls at_ p s p' s' hs))
  (hgood:t=false→R (.tup [.pv (O2 { h with rows:=rows }),.pv (.raw (.pointer none))]) (S9 ls at_ p s p' s' hs)) (x:M1):
  G5.n36 (G5.X w0 9) w0 9 R (S9 ls at_ p s p' s' hs ++ [.cells 46 (hC0 X3),.cells 46 [.pv (.int .i64 h.a),.pv (.int .i64 h.n),.pv (.int .i64 h.b),.pv (.int .i64 h.m),.pv (.str h.head),.arr 11 rows.length 0 rows.length],.arr 2 (rows.map P0) true,x]) (.ptr 9 0) (a:Int) (.ptr 10 0) t:=by
 refine G5.n36_in ?_
 rw[G5.b36_eq]
 refine A4 (fun g=>?_) (fun g=>?_)
 ·repeat ((with_reducible first|apply A0|apply wI|apply wT|apply wP|apply wS|apply wB);exact rfl)
  refine ⟨rfl,?_⟩
  repeat ((with_reducible first|apply A0|apply wI|apply wT|apply wP|apply wS|apply wB);exact rfl)
  refine X4 (σ:=S9 ls at_ p s p' s' hs) L5 rfl (iw (jd (fz:=true) rfl rfl) rfl) (hbad g)
 ·repeat ((with_reducible first|apply A0|apply wI|apply wT|apply wP|apply wS|apply wB);exact rfl)
  refine X4 (σ:=S9 ls at_ p s p' s' hs) L5 rfl (iw (jd (fz:=true) rfl rfl) rfl) (hgood g)
theorem hunk_spec(L:Laid w0.w){l:Ln}(hl:ls.length≤4194306)(hx:∀l∈ls,l ≠ []∧l.length≤4194306)(hrows:ls.flatten.length≤4194305)(hat:ls[at_]? = some l)(hh:hs.length≤8388608)
  (hbad:ku hs (ls.drop at_)=none → ∀(h:Hnk) (e:Int) (a at':Nat),a≤ls.length→R (.tup [.pv (O2 h),fR e a]) (S9 ls at' p s p' s' hs))
  (hgood:∀h r,ku hs (ls.drop at_)=some (h,r) → ∀at',ls.drop at'=r→at'≤ls.length→R (.tup [.pv (O2 h),.pv (.raw (.pointer none))]) (S9 ls at' p s p' s' hs)):
  A2 (cx w0) G5.id [.ptr 2 0,.arr 8 hs.length 0 hs.length] (S9 ls at_ p s p' s' hs) R:=by
 have hlt:=(List.getElem?_eq_some_iff.1 hat).1
 have hlx:=hx l (List.mem_of_getElem? hat)
 have hbl:=Y7 l
 have hdr:ls.drop at_=l::ls.drop (at_+1):=by
  rw[List.drop_eq_getElem_cons hlt]
  rw[List.getElem?_eq_getElem hlt] at hat
  cases hat;rfl
 have wi:IntKind.wrap .i64 ((at_:Int)+1)=((at_+1:Nat):Int):=by rw[D8 (by omega) (by omega)];omega
 rw[hdr] at hbad hgood
 refine G5.calls ?_
 rw[G5.b0_eq]
 repeat ((with_reducible first|apply A0|apply wI|apply wT|apply wP|apply wS|apply wB);exact rfl)
 refine A0 (T6 ju (rl hat) rfl) ?_
 repeat ((with_reducible first|apply A0|apply wI|apply wT|apply wP|apply wS|apply wB);exact rfl)
 refine W8 (by omega) (F4 ?_)
 refine xe L (by omega) ?_
 have ho:=firstF_out (H4 l)
 generalize hf:Q4 (H4 l)=fr at ho
 obtain ⟨h0,ok⟩:=fr
 simp only at ho
 obtain ⟨o1,o2,o3,o4,o5,o6⟩:=ho
 repeat ((with_reducible first|apply A0|apply wI|apply wT|apply wP|apply wS|apply wB);exact rfl)
 rw[E9]
 refine A4 (fun g=>?_) (fun g=>?_)
 ·repeat ((with_reducible first|apply A0|apply wI|apply wT|apply wP|apply wS|apply wB);exact rfl)
  rw[wi]
  repeat ((with_reducible first|apply A0|apply wI|apply wT|apply wP|apply wS|apply wB);exact rfl)
  refine rows_spec (h:=h0) (at_:=at_+1) (by omega) (fun l hl=>⟨(hx l hl).1,by have:=(hx l hl).2;omega⟩) o2 o4 hlt (fun hn=>?_) (fun rows r' hr at' hd' hle=>?_)
  ·have hb:=hbad (by have g1:ok=true:=g;simp only[ku,hf,g1,if_true,hn])
   refine ⟨fun acc at2 hle2=>?_,fun acc at2 w hle2=>?_⟩
   ·rw[P2]
    refine A0 rfl (A0 (v:=false) rfl (E5 ?_))
    rw[Bool.not_false,D4]
    repeat ((with_reducible first|apply A0|apply wI|apply wT|apply wP|apply wS|apply wB);exact rfl)
    exact X4 (σ:=S9 ls at2 p s p' s' hs) L5 rfl (iw (jd (h:=h0) (fz:=false) rfl rfl) rfl) (hb _ 111 at2 at2 hle2)
   ·rw[P2]
    refine A0 rfl (A0 (v:=false) rfl (E5 ?_))
    rw[Bool.not_false,D4]
    repeat ((with_reducible first|apply A0|apply wI|apply wT|apply wP|apply wS|apply wB);exact rfl)
    exact X4 (σ:=S9 ls at2 p s p' s' hs) L5 rfl (iw (jd (h:=h0) (fz:=false) rfl rfl) rfl) (hb _ 111 at2 at2 hle2)
  ·rw[P2]
   refine A0 rfl (A0 (v:=true) rfl (E5 ?_))
   rw[Bool.not_true,C3]
   repeat ((with_reducible first|apply A0|apply wI|apply wT|apply wP|apply wS|apply wB);exact rfl)
   have hro:=nk h0.n h0.m 4194306 (ls.drop (at_+1)) 0 0 false [] rows r' (fun l hl=>(hx l (List.mem_of_mem_drop hl)).2) hr
   refine A2.freeze (id:=11) (es:=2) (xs:=rows.map P0) (fz:=false) rfl (.cons (.part [_,_,_,_,_] [] _ (List.length_map _).symm) .nil) ?_
   have g1:ok=true:=g
   have hfl:(ls.drop (at_+1)).flatten.length≤ls.flatten.length:=by
    have:=congrArg (fun x:List Ln=>x.flatten.length) (List.take_append_drop (at_+1) ls)
    simp only[List.flatten_append,List.length_append] at this
    omega
   have hr1:=hro.len
   have hr2:=hro.text (fun x hx=>by cases hx)
   simp only[List.length_nil] at hr1
   refine pf L (h:={ h0 with rows:=rows }) (by show rows.length≤_;omega) (fun x hx=>Nat.le_trans (hr2 x hx) (by decide)) (by show h0.head.length≤_;omega) ⟨by show _≤h0.a;omega,by show h0.a≤_;omega⟩ ⟨by show _≤h0.b;omega,by show h0.b≤_;omega⟩ ?_
   cases hv:T1 { h0 with rows:=rows } with
   | false=>
    rw[vErr,if_neg (by decide),P2]
    refine A0 rfl (A0 (v:=false) rfl (E5 ?_))
    rw[Bool.not_false,D4]
    repeat ((with_reducible first|apply A0|apply wI|apply wT|apply wP|apply wS|apply wB);exact rfl)
    refine ⟨rfl,?_⟩
    repeat ((with_reducible first|apply A0|apply wI|apply wT|apply wP|apply wS|apply wB);exact rfl)
    refine X4 (σ:=S9 ls at' p s p' s' hs) L5 rfl (iw (jd (h:=h0) (rows:=rows) (fz:=true) rfl rfl) rfl) (hbad ?_ _ 100 at_ _ (by omega))
    simp only[ku,hf,g1,if_true,hr,hv,Bool.false_eq_true,if_false]
   | true=>
    rw[vErr,if_pos rfl,P2]
    refine A0 rfl (A0 (v:=true) rfl (E5 ?_))
    rw[Bool.not_true,C3]
    have hev:∀t,t = !ordL hs { h0 with rows:=rows }→G5.n36 (G5.X w0 9) w0 9 R (S9 ls at' p s p' s' hs ++ [.cells 46 (hC0 X3),.cells 46 [.pv (.int .i64 h0.a),.pv (.int .i64 h0.n),.pv (.int .i64 h0.b),.pv (.int .i64 h0.m),.pv (.str h0.head),.arr 11 rows.length 0 rows.length],.arr 2 (rows.map P0) true,fO 111 at']) (.ptr 9 0) (at_:Int) (.ptr 10 0) t:=by
     intro t ht
     refine hunk36 t (fun e=>hbad ?_ _ 112 at_ _ (by omega)) (fun e=>hgood _ r' ?_ at' hd' hle) _
     ·rw[e] at ht
      have:ordL hs { h0 with rows:=rows }=false:=by simpa using ht.symm
      simp only[ku,hf,g1,if_true,hr,hv,this,Bool.false_eq_true,if_false]
     ·rw[e] at ht
      have:ordL hs { h0 with rows:=rows }=true:=by simpa using ht.symm
      simp only[ku,hf,g1,if_true,hr,hv,this]
    repeat ((with_reducible first|apply A0|apply wI|apply wT|apply wP|apply wS|apply wB);exact rfl)
    rw[B0]
    refine B5 (fun g2=>?_) (fun g2=>hev _ ?_)
    ·obtain ⟨q,hq,rfl⟩:∃q hq,hs=q ++ [hq]:=by
      rcases List.eq_nil_or_concat hs with e|⟨q,hq,e⟩
      ·rw[e] at g2;exact absurd g2 (by decide)
      ·exact ⟨q,hq,by rw[e,List.concat_eq_append]⟩
     have hql:(q ++ [hq]).length=q.length+1:=by simp
     have hget:((q ++ [hq]).map O2)[q.length]? = some (O2 hq):=by simp
     have wl:IntKind.wrap .i64 ((((q ++ [hq]).length:Nat):Int)-1)=(q.length:Int):=by rw[hql,D8 (by omega) (by omega)];omega
     repeat ((with_reducible first|apply A0|apply wI|apply wT|apply wP|apply wS|apply wB);exact rfl)
     rw[wl]
     refine A0 (eh (id:=8) (xs:=(q ++ [hq]).map O2) tab46 rfl (by omega) rfl (List.length_map _)) ?_
     rw[Nat.zero_add]
     refine A0 (load_elem (id:=8) (xs:=(q ++ [hq]).map O2) rfl (List.length_map _) hget rfl rfl) ?_
     repeat ((with_reducible first|apply A0|apply wI|apply wT|apply wP|apply wS|apply wB);exact rfl)
     refine A2.freeze (id:=11) (es:=2) (xs:=rows.map P0) (fz:=true) rfl (.cons (.same _) (.cons (.part [_,_,_,_,_] [] _ (List.length_map _).symm) .nil)) ?_
     refine js L (g:=hq) (h:={ h0 with rows:=rows }) (E5 ?_)
     refine hev _ ?_
     have:ordL (q ++ [hq]) { h0 with rows:=rows }=ordB hq { h0 with rows:=rows }:=by unfold ordL;simp
     rw[this]
    ·have:hs = []:=by
      cases hs with
      | nil=>rfl
      | cons x y=>exact absurd g2 (by simp only[List.length_cons];omega)
     rw[this];rfl
 ·repeat ((with_reducible first|apply A0|apply wI|apply wT|apply wP|apply wS|apply wB);exact rfl)
  refine ⟨rfl,?_⟩
  repeat ((with_reducible first|apply A0|apply wI|apply wT|apply wP|apply wS|apply wB);exact rfl)
  refine X4 (σ:=S9 ls at_ p s p' s' hs) L5 rfl (r':=.tup [.pv (O2 { h0 with rows:=[] }),fR 100 at_]) rfl (hbad ?_ _ _ _ _ (by omega))
  rw[ku,hf,if_neg (by rw[g];decide)]
abbrev S3(ls:List Ln)(at_:Nat):A1:=[zN,zN,rdr ls at_]
abbrev rdBad(R:AV→A1→Prop)(ls:List Ln):Prop:=∀(e:Int) (a at':Nat),a≤ls.length→R (.tup [.pv (nmP [] []),.pv (nmP [] []),.pv (.sl []),fR e a]) (S3 ls at')
theorem seal_four{k:Nat}{a b c d a' b' c' d':AV}(h1:lb k σ a=some a')(h2:lb k σ b=some b')(h3:lb k σ c=some c')(h4:lb k σ d=some d'):te k σ (.tup [a,b,c,d])=some (.tup [a',b',c',d']):=by
 simp[te,sg,h1,h2,h3,h4]
theorem qr{k:Nat}{id es n:Nat}{xs:List PV}{fz:Bool}(h:σ[id]? = some (.arr es xs fz))(hk:Nat.ble k id=true)(hn:xs.length=n):lb k σ (.arr id n 0 n)=some (.pv (.sl xs)):=vt h hk hn
theorem read47{acc:List Hnk}(hat:at_≤ls.length)
  (hbad:acc = []→rdBad R ls)
  (hgood:acc ≠ []→R (.tup [.pv (nmP p s),.pv (nmP p' s'),uu acc,.pv (.raw (.pointer none))]) (S3 ls at_)):
  D2.n47 (D2.X w0 3) w0 3 R (S9 ls at_ p s p' s' acc) (.ptr 2 0) (.ptr 3 0) (.ptr 4 0) (.ptr 5 0) (.ptr 6 0) (.ptr 7 0) (.arr 8 acc.length 0 acc.length):=by
 refine D2.n47_in ?_
 rw[D2.b47_eq]
 repeat ((with_reducible first|apply A0|apply wI|apply wT|apply wP|apply wS|apply wB);exact rfl)
 rw[G6]
 refine B5 (fun g=>?_) (fun g=>?_)
 ·repeat ((with_reducible first|apply A0|apply wI|apply wT|apply wP|apply wS|apply wB);exact rfl)
  refine ⟨rfl,?_⟩
  refine ⟨rfl,?_⟩
  repeat ((with_reducible first|apply A0|apply wI|apply wT|apply wP|apply wS|apply wB);exact rfl)
  refine ⟨rfl,rfl,?_⟩
  repeat ((with_reducible first|apply A0|apply wI|apply wT|apply wP|apply wS|apply wB);exact rfl)
  refine X4 (σ:=S3 ls at_) L5 rfl (r':=.tup [.pv (nmP [] []),.pv (nmP [] []),.pv (.sl []),fR 100 at_]) rfl (hbad ?_ _ _ _ hat)
  exact List.length_eq_zero_iff.1 (by omega)
 ·repeat ((with_reducible first|apply A0|apply wI|apply wT|apply wP|apply wS|apply wB);exact rfl)
  refine ⟨rfl,?_⟩
  repeat ((with_reducible first|apply A0|apply wI|apply wT|apply wP|apply wS|apply wB);exact rfl)
  exact X4 (σ:=S3 ls at_) L5 rfl (seal_four rfl rfl (qr (id:=8) (es:=6) (fz:=false) (xs:=acc.map O2) rfl rfl (List.length_map _)) rfl) (hgood fun e=>g (by rw[e];rfl))
theorem drop_cons{α:Type}{xs:List α}{k:Nat}{c:α}(h:xs[k]? = some c):xs.drop k=c::xs.drop (k+1):=by
 have hlt:=(List.getElem?_eq_some_iff.1 h).1
 rw[List.drop_eq_getElem_cons hlt]
 rw[List.getElem?_eq_getElem hlt] at h
 cases h;rfl
theorem read_loop(L:Laid w0.w)(hl:ls.length≤4194306)(hx:∀l∈ls,l ≠ []∧l.length≤4194306)(hrows:ls.flatten.length≤4194305):∀(f at_:Nat) (acc:List Hnk),(ls.drop at_).length<f→at_≤ls.length→acc.length≤at_→((∀ hs r,X9 f acc (ls.drop at_)=some (hs,r)→hs = [])→rdBad R ls) →
  (∀ hs r,X9 f acc (ls.drop at_)=some (hs,r)→hs ≠ [] → ∀at',ls.drop at'=r→at'≤ls.length→R (.tup [.pv (nmP p s),.pv (nmP p' s'),uu hs,.pv (.raw (.pointer none))]) (S3 ls at')) →
  D2.n28 (D2.X w0 3) w0 3 R (S9 ls at_ p s p' s' acc) (.ptr 2 0) (.ptr 3 0) (.ptr 4 0) (.ptr 5 0) (.ptr 6 0) (.ptr 7 0) (.arr 8 acc.length 0 acc.length)
 | 0,at_,acc,h,_,_,_,_=>absurd h (Nat.not_lt_zero _)
 | f+1,at_,acc,hf,hat,hacc,hbad,hgood=>by
  have stop:(∀ hs r,X9 (f+1) acc (ls.drop at_)=some (hs,r)→hs=acc∧r=ls.drop at_)→X9 (f+1) acc (ls.drop at_)=some (acc,ls.drop at_) → ∀t,t=false→D2.n32 (D2.X w0 3) w0 3 R (S9 ls at_ p s p' s' acc) (.ptr 2 0) (.ptr 3 0) (.ptr 4 0) (.ptr 5 0) (.ptr 6 0) (.ptr 7 0) (.arr 8 acc.length 0 acc.length) t:=by
   rintro h1 h2 t rfl
   refine D2.n32_in ?_
   rw[D2.b32_eq,C3]
   exact read47 hat (fun e=>hbad fun hs r h=>by rw[(h1 hs r h).1,e]) (fun hne=>hgood _ _ h2 hne at_ rfl hat)
  refine D2.n28_in ?_
  rw[D2.b29_eq]
  repeat ((with_reducible first|apply A0|apply wI|apply wT|apply wP|apply wS|apply wB);exact rfl)
  rw[B0]
  refine B5 (fun g=>?_) (fun g=>?_)
  ·rw[List.length_map] at g
   obtain ⟨l,hl0⟩:∃l,ls[at_]? = some l:=⟨ls[at_]'(by omega),List.getElem?_eq_getElem (by omega)⟩
   have hdr:=drop_cons hl0
   have hlx:=hx l (List.mem_of_getElem? hl0)
   repeat ((with_reducible first|apply A0|apply wI|apply wT|apply wP|apply wS|apply wB);exact rfl)
   refine A0 (T6 ju (rl hl0) rfl) ?_
   repeat ((with_reducible first|apply A0|apply wI|apply wT|apply wP|apply wS|apply wB);exact rfl)
   refine O3 (E5 ?_)
   cases hp:Lib.hasPrefix l [64,64,32,45] with
   | false=>
    have h2:X9 (f+1) acc (ls.drop at_)=some (acc,ls.drop at_):=by
     rw[hdr,X9,if_neg (by rw[hp];decide)]
    generalize hb:false=b
    exact stop (fun hs r h=>by rw[h2] at h;cases h;exact ⟨rfl,rfl⟩) h2 b hb.symm
   | true=>
    generalize hb:true=b
    refine D2.n32_in ?_
    rw[D2.b32_eq]
    subst hb
    rw[D4]
    have heq:X9 (f+1) acc (ls.drop at_)=match ku acc (ls.drop at_) with
      | none=>none
      | some (h,r)=>X9 f (acc ++ [h]) r:=by
     rw[hdr,X9,if_pos hp];rfl
    refine hunk_spec L hl hx hrows hl0 (by omega) (fun hn h e a at' ha0=>?_) (fun h r hr at' hd' hle=>?_)
    ·repeat ((with_reducible first|apply A0|apply wI|apply wT|apply wP|apply wS|apply wB);exact rfl)
     rw[P2]
     refine A0 rfl (A0 (v:=false) rfl (E5 ?_))
     rw[Bool.not_false,D4]
     repeat ((with_reducible first|apply A0|apply wI|apply wT|apply wP|apply wS|apply wB);exact rfl)
     refine ⟨rfl,?_⟩
     repeat ((with_reducible first|apply A0|apply wI|apply wT|apply wP|apply wS|apply wB);exact rfl)
     exact X4 (σ:=S3 ls at') L5 rfl rfl (hbad (fun hs r h=>by rw[heq,hn] at h;cases h) e a at' ha0)
    ·have ho:=hunkL_out (T:=4194306) (ls:=ls.drop at_) (fun l hl=>(hx l (List.mem_of_mem_drop hl)).2) (fun l hl=>(hx l (List.mem_of_mem_drop hl)).1) hr
     obtain ⟨l1,q,hq⟩:=ho.pre
     have hlen:(ls.drop at').length<(ls.drop at_).length:=by
      rw[hd',hq];simp only[List.length_cons,List.length_append];omega
     rw[List.length_drop,List.length_drop] at hlen
     repeat ((with_reducible first|apply A0|apply wI|apply wT|apply wP|apply wS|apply wB);exact rfl)
     rw[P2]
     refine A0 rfl (A0 (v:=true) rfl (E5 ?_))
     rw[Bool.not_true,C3]
     repeat ((with_reducible first|apply A0|apply wI|apply wT|apply wP|apply wS|apply wB);exact rfl)
     refine J5 (v:=.pv (.sl [O2 h])) rfl ?_
     refine J5 (W9 (id:=8) (es:=6) (ver:=acc.length) (xs:=acc.map O2) (ys:=[O2 h]) rfl rfl (List.length_map _).symm rfl rfl ⟨by rw[List.length_map];show acc.length+1≤_;omega,by rw[List.length_map];show (acc.length+1)*72≤_;omega⟩) ?_
     have e:acc.map O2 ++ [O2 h]=(acc ++ [h]).map O2:=by simp
     have e2:(acc.map O2).length + [O2 h].length=(acc ++ [h]).length:=by simp
     rw[e,e2]
     refine D2.n28_weak (N2.drop (τ:=S9 ls at' p s p' s' (acc ++ [h])) L5 (Nat.le_of_ble_eq_true rfl) rfl rfl) ?_
     have he:X9 (f+1) acc (ls.drop at_)=X9 f (acc ++ [h]) (ls.drop at'):=by
      rw[heq,hr]
      simp only
      rw[← hd']
     rw[he] at hgood hbad
     exact read_loop L hl hx hrows f at' (acc ++ [h]) (by rw[List.length_drop] at hf ⊢;omega) hle (by rw[List.length_append,List.length_singleton];omega) hbad hgood
  ·rw[List.length_map] at g
   have h2:X9 (f+1) acc (ls.drop at_)=some (acc,ls.drop at_):=by
    rw[List.drop_eq_nil_of_le (by omega)];rfl
   generalize hb:false=b
   exact stop (fun hs r h=>by rw[h2] at h;cases h;exact ⟨rfl,rfl⟩) h2 b hb.symm
theorem read_no1(h:dj [45,45,45,32] ls 0=none):gm ls=none:=by
 match ls,h with
 | [],_=>rfl
 | [_],_=>rfl
 | l1::l2::r,h=>
  have:bl [45,45,45,32] l1=none:=h
  rw[gm,this]
theorem read_no2(h:dj [43,43,43,32] ls 1=none):gm ls=none:=by
 match ls,h with
 | [],_=>rfl
 | [_],_=>rfl
 | l1::l2::r,h=>
  have:bl [43,43,43,32] l2=none:=h
  rw[gm,this]
  cases bl [45,45,45,32] l1<;>rfl
theorem read_spec(L:Laid w0.w)(hl:ls.length≤4194306)(hx:∀l∈ls,l ≠ []∧l.length≤4194306)(hrows:ls.flatten.length≤4194305)
  (hbad:gm ls=none→rdBad R ls)
  (hgood:∀x,gm ls=some x → ∀at',ls.drop at'=x.r→at'≤ls.length→R (.tup [.pv (nmP x.a.1 x.a.2),.pv (nmP x.b.1 x.b.2),uu x.l,.pv (.raw (.pointer none))]) (S3 ls at')):
  A2 (cx w0) D2.id [.ptr 2 0] (S3 ls 0) R:=by
 refine D2.calls ?_
 rw[D2.b0_eq]
 refine name_spec (T:=[]) L (by decide) (by decide) (by decide) (.inl rfl) (by omega) (fun l hl=>by have:=(hx l hl).2;omega) ?_
 cases h1:dj [45,45,45,32] ls 0 with
 | none=>
  unfold nameA ua
  repeat ((with_reducible first|apply A0|apply wI|apply wT|apply wP|apply wS|apply wB);exact rfl)
  rw[P2]
  refine A0 rfl (A0 (v:=false) rfl (E5 ?_))
  rw[Bool.not_false,D4]
  repeat ((with_reducible first|apply A0|apply wI|apply wT|apply wP|apply wS|apply wB);exact rfl)
  refine ⟨rfl,?_⟩
  repeat ((with_reducible first|apply A0|apply wI|apply wT|apply wP|apply wS|apply wB);exact rfl)
  exact X4 (σ:=S3 ls 0) L5 rfl rfl (hbad (read_no1 h1) 110 0 0 (Nat.zero_le _))
 | some q=>
  obtain ⟨p,s⟩:=q
  unfold nameA ua
  repeat ((with_reducible first|apply A0|apply wI|apply wT|apply wP|apply wS|apply wB);exact rfl)
  rw[P2]
  refine A0 rfl (A0 (v:=true) rfl (E5 ?_))
  rw[Bool.not_true,C3]
  refine name_spec (T:=[nmO p s]) (at_:=1) L (by decide) (by decide) (by decide) (.inr ⟨p,s,rfl⟩) (by omega) (fun l hl=>by have:=(hx l hl).2;omega) ?_
  cases h2:dj [43,43,43,32] ls 1 with
  | none=>
   unfold nameA ua
   repeat ((with_reducible first|apply A0|apply wI|apply wT|apply wP|apply wS|apply wB);exact rfl)
   rw[P2]
   refine A0 rfl (A0 (v:=false) rfl (E5 ?_))
   rw[Bool.not_false,D4]
   repeat ((with_reducible first|apply A0|apply wI|apply wT|apply wP|apply wS|apply wB);exact rfl)
   refine ⟨rfl,?_⟩
   repeat ((with_reducible first|apply A0|apply wI|apply wT|apply wP|apply wS|apply wB);exact rfl)
   exact X4 (σ:=S3 ls 1) L5 rfl rfl (hbad (read_no2 h2) 110 1 1 (by unfold dj at h1;cases ls with|nil=>simp at h1|cons=>simp))
  | some q=>
   obtain ⟨p',s'⟩:=q
   unfold nameA ua
   repeat ((with_reducible first|apply A0|apply wI|apply wT|apply wP|apply wS|apply wB);exact rfl)
   rw[P2]
   refine A0 rfl (A0 (v:=true) rfl (E5 ?_))
   rw[Bool.not_true,C3]
   obtain ⟨l1,l2,r,e,e1,e2⟩:∃l1 l2 r,ls=l1::l2::r∧bl [45,45,45,32] l1=some (p,s)∧bl [43,43,43,32] l2=some (p',s'):=by
    unfold dj at h1 h2
    cases ls with
    | nil=>simp at h1
    | cons l1 r=>
     cases r with
     | nil=>simp at h2
     | cons l2 r=>exact ⟨l1,l2,r,rfl,by simpa using h1,by simpa using h2⟩
   have hd2:ls.drop 2=r:=by rw[e];rfl
   have hlen:2≤ls.length:=by rw[e];simp
   refine D2.n28_weak (r':=.ptr 2 0) (t2':=.ptr 3 0) (t3':=.ptr 4 0) (none_':=.ptr 5 0) (old':=.ptr 6 0) (fresh':=.ptr 7 0) (out':=.arr 8 0 0 0) (τ:=S9 ls 2 p s p' s' []) (N2.nil (t:=10) (es:=6) rfl rfl) ?_
   have hrd:gm ls=match X9 (r.length+1) [] r with
     | some (h::hs,r)=>some ⟨(p,s),(p',s'),h::hs,r⟩
     | _=>none:=by
    rw[e,gm,e1,e2];rfl
   refine read_loop L hl hx hrows (r.length+1) 2 [] (by rw[hd2];omega) hlen (Nat.zero_le _) (fun hno=>hbad ?_) (fun hs r' hr hne at' hd' hle=>?_)
   ·rw[hd2] at hno
    rw[hrd]
    split
    ·rename_i hq
     exact absurd (hno _ _ hq) (by simp)
    ·rfl
   rw[hd2] at hr
   refine hgood ⟨(p,s),(p',s'),hs,r'⟩ ?_ at' hd' hle
   rw[e,gm,e1,e2]
   simp only[hr]
   cases hs with
   | nil=>exact absurd rfl hne
   | cons h hs=>rfl
abbrev parseBad(w:AV):Prop:=∃(n:Int) (e:Int),(e=2∨1≤n)∧(0≤n∧n≤8388610)∧w = .tup [.pv (nmP [] []),.pv (nmP [] []),.pv (.sl []),.pv (.str []),.pv (.int .i64 n),.pv (.iface 61 (.int .i64 e))]
def Y1(s:Ln)(w:AV):Prop:=match parseF s with
 | some (x,H8)=>(∃ j,j≤(E4 (X0 s)).length∧(E4 (X0 s)).drop j=x.r)∧w = .tup [.pv (nmP x.a.1 x.a.2),.pv (nmP x.b.1 x.b.2),uu x.l,.pv (.str H8),.pv (.int .i64 0),.pv (.raw .nilIface)]
 | none=>parseBad w
theorem xd{s:Ln}{w:AV}(h:Y1 s w):AV.under 0 w=true:=by
 unfold Y1 at h
 split at h
 ·rw[h.2];rfl
 ·obtain ⟨n,e,_,_,rfl⟩:=h;rfl
abbrev S5(ls:List Ln)(at_:Nat)(p s p' s':Ln):A1:=S3 ls at_ ++ [nmO p s,nmO p' s']
theorem parse49{x:Ln}{size:Int}{k:Nat}(hk:k≤x.length)(hs:(if (x.length:Int)<size then (x.length:Int) else size)=(k:Int)){v:AV}
  (hv:R v []) (he:v = .tup [.pv (nmP p s),.pv (nmP p' s'),uu hs0,.pv (.str (x.drop k)),.pv (.int .i64 0),.pv (.raw .nilIface)]):
  F9.n49 (F9.X w0 0) w0 0 R (S5 ls at_ p s p' s') x (.ptr 0 0) (.ptr 1 0) (.ptr 3 0) (.ptr 4 0) (uu hs0) size:=by
 subst he
 refine F9.n49_in ?_
 rw[F9.b49_eq,hs]
 repeat ((with_reducible first|apply A0|apply wI|apply wT|apply wP|apply wS|apply wB);exact rfl)
 refine A0 (F5 hk) (F4 ?_)
 repeat ((with_reducible first|apply A0|apply wI|apply wT|apply wP|apply wS|apply wB);exact rfl)
 refine ⟨rfl,A0 (F5 hk) rfl,?_⟩
 repeat ((with_reducible first|apply A0|apply wI|apply wT|apply wP|apply wS|apply wB);exact rfl)
 refine ⟨A0 (F5 hk) rfl,A0 (F5 hk) rfl,?_⟩
 repeat ((with_reducible first|apply A0|apply wI|apply wT|apply wP|apply wS|apply wB);exact rfl)
 exact nd (σ:=[]) L5 rfl rfl hv
theorem slice_lns{σ:A1}{ls:List Ln}{k:Nat}(h:k≤ls.length):G7 σ B3 J7.td (.pv (im ls)) none (some (.pv (.int .i64 (k:Int))))=some (.pv (im (ls.take k))):=by
 show (if (0:Int)≤0∧(0:Int)≤(k:Int)∧(k:Int)≤(((ls.map PV.str).length:Nat):Int) then (if X6 1 (ls.map PV.str)=true then some (AV.pv (.sl (((ls.map PV.str).take (k:Int).toNat).drop (0:Int).toNat))) else none) else none)=_
 have e:X6 1 (ls.map PV.str)=true:=by
  simp only[X6,List.all_eq_true,List.mem_map]
  rintro x ⟨r,_,rfl⟩
  rfl
 rw[if_pos (by rw[List.length_map];omega),if_pos e]
 simp
theorem il{x:Ln}(xs:List Ln)(total:Nat)(hT:total≤4194305)(next:F9.n49 (F9.X w0 0) w0 0 R (S5 ls at_ p s p' s') x (.ptr 0 0) (.ptr 1 0) (.ptr 3 0) (.ptr 4 0) (uu hs0) (total:Int)):∀(r:List Ln) (k size:Nat),xs.drop k=r→size+r.flatten.length=total→xs.length≤4194306 →
  F9.n36 (F9.X w0 0) w0 0 R (S5 ls at_ p s p' s') x (.ptr 0 0) (.ptr 1 0) (.ptr 3 0) (.ptr 4 0) (uu hs0) (size:Int) (.pv (im xs)) xs.length k
 | [],k,size,hd,hs,hl=>by
  have hk:=X7 hd
  refine F9.n36_in ?_
  rw[F9.b37_eq,B0,if_neg (by omega)]
  simp at hs
  rw[hs];exact next
 | l::r,k,size,hd,hs,hl=>by
  obtain ⟨h1,h2,hk⟩:=Q6 hd
  simp only[List.flatten_cons,List.length_append] at hs
  refine F9.n36_in ?_
  rw[F9.b37_eq,B0,if_pos (by omega)]
  refine A0 (T6 ju (rl h1) rfl) ?_
  repeat ((with_reducible first|apply A0|apply wI|apply wT|apply wP|apply wS|apply wB);exact rfl)
  rw[D8 (n:=(size:Int)+_) (by omega) (by omega),K6 hk (by omega)]
  have e:(size:Int)+(l.length:Int)=((size+l.length:Nat):Int):=by omega
  rw[e]
  exact il xs total hT next r (k+1) (size+l.length) h2 (by omega) hl
theorem tf:∀{L:List Ln},(∀ l∈L,l ≠ [])→L.length≤L.flatten.length
 | [],_=>Nat.le_refl _
 | l::L,h=>by
  have:=tf (L:=L) fun x hx=>h x (List.mem_cons_of_mem _ hx)
  have h1:1≤l.length:=List.length_pos_iff.2 (h l (by simp))
  simp only[List.length_cons,List.flatten_cons,List.length_append];omega
theorem Parse_spec(L:Laid w0.w){x:Ln}(hx:x.length≤4611686018427387904)(hR:∀w,Y1 x w→R w σ):A2 (cx w0) F9.id [.pv (.str x)] σ R:=by
 refine A2.some_of (P:=Y1 x) L rfl (fun w1 L1=>?_) (fun r h=>xd h) hR
 refine F9.calls ?_
 rw[F9.b0_eq,B0]
 refine B5 (fun g=>?_) (fun g=>?_)
 ·repeat ((with_reducible first|apply A0|apply wI|apply wT|apply wP|apply wS|apply wB);exact rfl)
  refine N1 (σ:=[]) L5 rfl (r':=.tup [.pv (nmP [] []),.pv (nmP [] []),.pv (.sl []),.pv (.str []),.pv (.int .i64 0),.pv (.iface 61 (.int .i64 2))]) rfl ?_
  unfold Y1 parseF
  rw[if_pos (by omega)]
  exact ⟨_,_,.inl rfl,by decide,rfl⟩
 ·have fin:∀t,t=decide (x ≠ []∧P6 x=false)→F9.n15 (F9.X w1 0) w1 0 (fun r _=>Y1 x r) [zN,zN] x (.ptr 0 0) (.ptr 1 0) x t:=by
   rintro t rfl
   have hwl:=wholeF_len x
   have key:F9.n18 (F9.X w1 0) w1 0 (fun r _=>Y1 x r) [zN,zN] x (.ptr 0 0) (.ptr 1 0) (X0 x):=by
    refine F9.n18_in ?_
    rw[F9.b18_eq]
    refine Split_spec L1 (by omega) ?_
    have hL:(E4 (X0 x)).flatten=X0 x:=S4 _
    have hne:=cm (X0 x)
    generalize hg:E4 (X0 x)=ls at hL hne
    have hfl:ls.flatten.length≤4194305:=by rw[hL];omega
    have hll:ls.length≤4194306:=by
     have:ls.length≤ls.flatten.length:=tf hne
     omega
    refine A0 (v:=.pv (.agg [im ls,.int .i64 0])) rfl ⟨rfl,?_⟩
    refine read_spec (ls:=ls) L1 hll (fun l hl=>⟨hne l hl,by have:=mem_flatten_len hl;omega⟩) hfl (fun hn e a at' ha0=>?_) (fun y hy at' hd hle=>?_)
    ·repeat ((with_reducible first|apply A0|apply wI|apply wT|apply wP|apply wS|apply wB);exact rfl)
     rw[P2]
     refine A0 rfl (A0 (v:=false) rfl (E5 ?_))
     rw[Bool.not_false,D4]
     repeat ((with_reducible first|apply A0|apply wI|apply wT|apply wP|apply wS|apply wB);exact rfl)
     refine ⟨rfl,rfl,rfl,?_⟩
     repeat ((with_reducible first|apply A0|apply wI|apply wT|apply wP|apply wS|apply wB);exact rfl)
     refine ⟨rfl,rfl,rfl,rfl,rfl,rfl,rfl,?_⟩
     repeat ((with_reducible first|apply A0|apply wI|apply wT|apply wP|apply wS|apply wB);exact rfl)
     refine N1 (σ:=[]) L5 rfl (r':=.tup [.pv (nmP [] []),.pv (nmP [] []),.pv (.sl []),.pv (.str []),.pv (.int .i64 (IntKind.wrap .i64 ((a:Int)+1))),.pv (.iface 61 (.int .i64 e))]) rfl ?_
     unfold Y1 parseF
     rw[if_neg (by omega),hg,hn]
     exact ⟨_,_,.inr (by rw[D8 (by omega) (by omega)];omega),by rw[D8 (by omega) (by omega)];omega,rfl⟩
    ·repeat ((with_reducible first|apply A0|apply wI|apply wT|apply wP|apply wS|apply wB);exact rfl)
     rw[P2]
     refine A0 rfl (A0 (v:=true) rfl (E5 ?_))
     rw[Bool.not_true,C3]
     repeat ((with_reducible first|apply A0|apply wI|apply wT|apply wP|apply wS|apply wB);exact rfl)
     refine A0 (slice_lns hle) ?_
     refine A0 rfl (G2 ?_)
     rw[List.length_map]
     have hsum:(ls.take at').flatten.length+y.r.flatten.length=(X0 x).length:=by
      have:=congrArg (fun x:List Ln=>x.flatten.length) (List.take_append_drop at' ls)
      simp only[List.flatten_append,List.length_append] at this
      rw[hd,hL] at this
      exact this
     refine il (ls.take at') ((ls.take at').flatten.length) (by omega) ?_ (ls.take at') 0 0 rfl (by omega) (by rw[List.length_take];omega)
     refine parse49 (k:=min ((ls.take at').flatten.length) x.length) (by omega) ?_ ?_ rfl
     ·split<;>omega
     ·unfold Y1 parseF
      rw[if_neg (by omega),hg,hy]
      have e:sizeF x y.r=(ls.take at').flatten.length:=by unfold sizeF;omega
      simp only[e]
      exact ⟨⟨at',hle,hd⟩,trivial⟩
   refine F9.n15_in ?_
   rw[F9.b15_eq,B0]
   refine B5 (fun g2=>⟨by simp only[List.length_singleton];omega,?_⟩) (fun g2=>?_)
   ·have:X0 x=x ++ [10]:=by unfold X0;rw[if_pos g2]
    rw[← this];exact key
   ·have:X0 x=x:=by unfold X0;rw[if_neg g2]
    rw[this] at key;exact key
  rw[E9,Q8]
  refine B5 (fun g2=>?_) (fun g2=>?_)
  ·generalize hb:false=b
   refine fin b ?_
   rw[← hb,decide_eq_false (fun e=>e.1 g2)]
  ·refine bz (by omega) (E5 ?_)
   refine fin _ ?_
   cases hw:P6 x<;>simp[g2]
end
end Go.Sv.U
