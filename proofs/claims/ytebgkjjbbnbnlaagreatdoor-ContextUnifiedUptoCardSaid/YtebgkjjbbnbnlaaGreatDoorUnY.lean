/- What the code of reading answers: a hunk, a whole diff, a text. -/
import Derived.Test.YtebgkjjbbnbnlaaGreatDoorUnU
import Derived.Test.YtebgkjjbbnbnlaaGreatDoorCxB
set_option linter.unusedVariables false
set_option linter.unusedSimpArgs false
set_option maxRecDepth 100000
namespace Go.Sv
open Go Go.RowKit Go.Proofs
section
variable {w0:B5}{σ:A2}{R:AV→A2→Prop}
theorem Lw{k:Nat}{id es n:Nat}{xs:List PV}{fz:Bool}(h:σ[id]? = some (.arr es xs fz))(hk:Nat.ble k id=true)(hn:xs.length=n):px k σ (.arr id n 0 n)=some (.pv (.sl xs)):=by
 simp only[px,hk,h]
 rw[if_pos ⟨hn,by omega⟩,List.drop_zero,List.take_of_length_le (by omega)]
theorem lm{k:Nat}{id:Nat}{h:Hnk}{rows:List Row}{fz:Bool}(ho:σ[id]? = some (.arr 2 (rows.map I3) fz))(hk:Nat.ble k id=true):
  tn k σ (.agg [.pv (.int .i64 h.a),.pv (.int .i64 h.n),.pv (.int .i64 h.b),.pv (.int .i64 h.m),.pv (.str h.head),.arr id rows.length 0 rows.length])=some (.pv (K6 { h with rows:=rows })):=by
 have e:=Lw ho hk (List.length_map _)
 simp only[tn,Bj,e]
 rfl
theorem ov{k:Nat}{a b a' b':AV}(h1:pp k σ a=some a')(h2:pp k σ b=some b'):yg k σ (.tup [a,b])=some (.tup [a',b']):=by
 simp[yg,xa,h1,h2]
theorem Ss{ti:TI}{id es ver i:Nat}{xs:List PV}{fz:Bool}{cs:List PV}(ho:σ[id]? = some (.arr es xs fz))(hv:xs.length=ver)(hi:xs[i]? = some (.agg cs))(ha:ti.td.isAgg=true)(hs:cs.length=ti.size):A4 σ ti (.eptr id ver i 0)=some (.pv (.agg cs)):=by
 simp only[A4,ho,if_pos hv,hi,ma,ha,hs,and_self,if_true,Option.map_some]
abbrev S9(ls:List Ln)(at_:Nat)(p s p' s':Ln)(hs:List Hnk):A2:=[zN,zN,rdr ls at_,zN,zN,zN,nmO p s,nmO p' s',.arr 6 (hs.map K6) false]
abbrev fR(e:Int)(at_:Nat):AV:=.ro (.agg [.int .i64 e,.int .i64 (at_:Int)]) 0
abbrev hT(ls:List Ln)(at_:Nat)(p s p' s':Ln)(hs:List Hnk)(h:Hnk):A2:=S9 ls at_ p s p' s' hs ++ [.cells 39 (hC0 ln),.cells 39 (hC0 h)]
variable {ls:List Ln}{p s p' s':Ln}{hs hs0:List Hnk}{at_:Nat}
theorem Ui{h:Hnk}(hl:ls.length≤8388608)(hx:∀l∈ls,l ≠ []∧l.length≤8388608)(hN:0≤h.n∧h.n≤2147483648)(hM:0≤h.m∧h.m≤2147483648)(hat:at_≤ls.length)
  (hbad:Z3 h.n h.m (ls.drop at_) 0 0 false []=none→(∀ acc at_,R (.ptr 12 0) (rwS ls at_ p s p' s' hs h acc ++ [fO 111 at_])) ∧ ∀acc at_ w,R (.ptr 12 0) (rwS ls at_ p s p' s' hs h acc ++ [fO 111 at_,rO w]))
  (hgood:∀rows r',Z3 h.n h.m (ls.drop at_) 0 0 false []=some (rows,r') → ∀at',ls.drop at'=r'→at'≤ls.length→R (.pv (.raw (.pointer none))) (rwS ls at' p s p' s' hs h rows ++ [fO 111 at'])):
  A1 (cx w0) B0.id [.ptr 2 0,.ptr 10 0] (hT ls at_ p s p' s' hs h) R:=by
 refine B0.calls ?_
 rw[B0.b0_eq]
 have e:List.length (hT ls at_ p s p' s' hs h)=11:=rfl
 rw[e]
 generalize hf:false=f
 refine B0.n7_weak (M5.cellNil (id:=10) (es:=2) (pre:=[.pv (.int .i64 h.a),.pv (.int .i64 h.n),.pv (.int .i64 h.b),.pv (.int .i64 h.m),.pv (.str h.head)]) (post:=[]) rfl) ?_
 exact Uf hl hx hN hM (ls.drop at_) at_ 0 0 f [] rfl hat (by omega) (by omega) (by omega) (by omega) (fun e=>by rw[← hf] at e;cases e) (Nat.zero_le _) (fun x hx=>by cases hx) (by rw[← hf];exact hbad) (by rw[← hf];exact hgood)
theorem aA{h:Hnk}{rows:List Row}{a:Nat}(t:Bool)
  (hbad:t=true→R (.tup [.pv (K6 { h with rows:=rows }),fR 112 a]) (S9 ls at_ p s p' s' hs))
  (hgood:t=false→R (.tup [.pv (K6 { h with rows:=rows }),.pv (.raw (.pointer none))]) (S9 ls at_ p s p' s' hs)) (x:P9):
  I8.n36 (I8.X w0 9) w0 9 R (S9 ls at_ p s p' s' hs ++ [.cells 39 (hC0 ln),.cells 39 [.pv (.int .i64 h.a),.pv (.int .i64 h.n),.pv (.int .i64 h.b),.pv (.int .i64 h.m),.pv (.str h.head),.arr 11 rows.length 0 rows.length],.arr 2 (rows.map I3) true,x]) (.ptr 9 0) (a:Int) (.ptr 10 0) t:=by
 refine I8.n36_in ?_
 rw[I8.b36_eq]
 refine A7 (fun g=>?_) (fun g=>?_)
 ·repeat ((with_reducible first|apply A0|apply wI|apply wT|apply wP|apply wS|apply wB);exact rfl)
  refine ⟨rfl,?_⟩
  repeat ((with_reducible first|apply A0|apply wI|apply wT|apply wP|apply wS|apply wB);exact rfl)
  refine ba (σ:=S9 ls at_ p s p' s' hs) O3 rfl (ov (lm (fz:=true) rfl rfl) rfl) (hbad g)
 ·repeat ((with_reducible first|apply A0|apply wI|apply wT|apply wP|apply wS|apply wB);exact rfl)
  refine ba (σ:=S9 ls at_ p s p' s' hs) O3 rfl (ov (lm (fz:=true) rfl rfl) rfl) (hgood g)
theorem Sz(L:Laid w0.w){l:Ln}(hl:ls.length≤4194306)(hx:∀l∈ls,l ≠ []∧l.length≤4194306)(hrows:ls.flatten.length≤4194305)(hat:ls[at_]? = some l)(hh:hs.length≤8388608)
  (hbad:jx hs (ls.drop at_)=none → ∀(h:Hnk) (e:Int) (a at':Nat),R (.tup [.pv (K6 h),fR e a]) (S9 ls at' p s p' s' hs))
  (hgood:∀h r,jx hs (ls.drop at_)=some (h,r) → ∀at',ls.drop at'=r→at'≤ls.length→R (.tup [.pv (K6 h),.pv (.raw (.pointer none))]) (S9 ls at' p s p' s' hs)):
  A1 (cx w0) I8.id [.ptr 2 0,.arr 8 hs.length 0 hs.length] (S9 ls at_ p s p' s' hs) R:=by
 have hlt:=(List.getElem?_eq_some_iff.1 hat).1
 have hlx:=hx l (List.mem_of_getElem? hat)
 have hbl:=bd l
 have hdr:ls.drop at_=l::ls.drop (at_+1):=by
  rw[List.drop_eq_getElem_cons hlt]
  rw[List.getElem?_eq_getElem hlt] at hat
  cases hat;rfl
 have wi:IntKind.wrap .i64 ((at_:Int)+1)=((at_+1:Nat):Int):=by rw[F8 (by omega) (by omega)];omega
 rw[hdr] at hbad hgood
 refine I8.calls ?_
 rw[I8.b0_eq]
 repeat ((with_reducible first|apply A0|apply wI|apply wT|apply wP|apply wS|apply wB);exact rfl)
 refine A0 (O1 ny (vz hat) rfl) ?_
 repeat ((with_reducible first|apply A0|apply wI|apply wT|apply wP|apply wS|apply wB);exact rfl)
 refine ii (by omega) (K9 ?_)
 refine Oh L (by omega) ?_
 have ho:=Cf (N7 l)
 generalize hf:dl (N7 l)=fr at ho
 obtain ⟨h0,ok⟩:=fr
 simp only at ho
 obtain ⟨o1,o2,o3,o4,o5,o6⟩:=ho
 repeat ((with_reducible first|apply A0|apply wI|apply wT|apply wP|apply wS|apply wB);exact rfl)
 rw[E3]
 refine A7 (fun g=>?_) (fun g=>?_)
 ·repeat ((with_reducible first|apply A0|apply wI|apply wT|apply wP|apply wS|apply wB);exact rfl)
  rw[wi]
  repeat ((with_reducible first|apply A0|apply wI|apply wT|apply wP|apply wS|apply wB);exact rfl)
  refine Ui (h:=h0) (at_:=at_+1) (by omega) (fun l hl=>⟨(hx l hl).1,by have:=(hx l hl).2;omega⟩) o2 o4 hlt (fun hn=>?_) (fun rows r' hr at' hd' hle=>?_)
  ·have hb:=hbad (by have g1:ok=true:=g;simp only[jx,hf,g1,if_true,hn])
   refine ⟨fun acc at2=>?_,fun acc at2 w=>?_⟩
   ·rw[Q1]
    refine A0 rfl (A0 (v:=false) rfl (F0 ?_))
    rw[Bool.not_false,L4]
    repeat ((with_reducible first|apply A0|apply wI|apply wT|apply wP|apply wS|apply wB);exact rfl)
    exact ba (σ:=S9 ls at2 p s p' s' hs) O3 rfl (ov (lm (h:=h0) (fz:=false) rfl rfl) rfl) (hb _ 111 at2 at2)
   ·rw[Q1]
    refine A0 rfl (A0 (v:=false) rfl (F0 ?_))
    rw[Bool.not_false,L4]
    repeat ((with_reducible first|apply A0|apply wI|apply wT|apply wP|apply wS|apply wB);exact rfl)
    exact ba (σ:=S9 ls at2 p s p' s' hs) O3 rfl (ov (lm (h:=h0) (fz:=false) rfl rfl) rfl) (hb _ 111 at2 at2)
  ·rw[Q1]
   refine A0 rfl (A0 (v:=true) rfl (F0 ?_))
   rw[Bool.not_true,I7]
   repeat ((with_reducible first|apply A0|apply wI|apply wT|apply wP|apply wS|apply wB);exact rfl)
   have hro:=qk h0.n h0.m 4194306 (ls.drop (at_+1)) 0 0 false [] rows r' (fun l hl=>(hx l (List.mem_of_mem_drop hl)).2) hr
   refine A1.freeze (id:=11) (es:=2) (xs:=rows.map I3) (fz:=false) rfl (.cons (.part [_,_,_,_,_] [] _ (List.length_map _).symm) .nil) ?_
   have g1:ok=true:=g
   have hfl:(ls.drop (at_+1)).flatten.length≤ls.flatten.length:=by
    have:=congrArg (fun x:List Ln=>x.flatten.length) (List.take_append_drop (at_+1) ls)
    simp only[List.flatten_append,List.length_append] at this
    omega
   have hr1:=hro.len
   have hr2:=hro.text (fun x hx=>by cases hx)
   simp only[List.length_nil] at hr1
   refine iq L (h:={ h0 with rows:=rows }) (by show rows.length≤_;omega) (fun x hx=>Nat.le_trans (hr2 x hx) (by decide)) (by show h0.head.length≤_;omega) ⟨by show _≤h0.a;omega,by show h0.a≤_;omega⟩ ⟨by show _≤h0.b;omega,by show h0.b≤_;omega⟩ ?_
   cases hv:J2 { h0 with rows:=rows } with
   | false=>
    rw[kx,if_neg (by decide),Q1]
    refine A0 rfl (A0 (v:=false) rfl (F0 ?_))
    rw[Bool.not_false,L4]
    repeat ((with_reducible first|apply A0|apply wI|apply wT|apply wP|apply wS|apply wB);exact rfl)
    refine ⟨rfl,?_⟩
    repeat ((with_reducible first|apply A0|apply wI|apply wT|apply wP|apply wS|apply wB);exact rfl)
    refine ba (σ:=S9 ls at' p s p' s' hs) O3 rfl (ov (lm (h:=h0) (rows:=rows) (fz:=true) rfl rfl) rfl) (hbad ?_ _ 100 at_ _)
    simp only[jx,hf,g1,if_true,hr,hv,Bool.false_eq_true,if_false]
   | true=>
    rw[kx,if_pos rfl,Q1]
    refine A0 rfl (A0 (v:=true) rfl (F0 ?_))
    rw[Bool.not_true,I7]
    have hev:∀t,t = !Ep hs { h0 with rows:=rows }→I8.n36 (I8.X w0 9) w0 9 R (S9 ls at' p s p' s' hs ++ [.cells 39 (hC0 ln),.cells 39 [.pv (.int .i64 h0.a),.pv (.int .i64 h0.n),.pv (.int .i64 h0.b),.pv (.int .i64 h0.m),.pv (.str h0.head),.arr 11 rows.length 0 rows.length],.arr 2 (rows.map I3) true,fO 111 at']) (.ptr 9 0) (at_:Int) (.ptr 10 0) t:=by
     intro t ht
     refine aA t (fun e=>hbad ?_ _ 112 at_ _) (fun e=>hgood _ r' ?_ at' hd' hle) _
     ·rw[e] at ht
      have:Ep hs { h0 with rows:=rows }=false:=by simpa using ht.symm
      simp only[jx,hf,g1,if_true,hr,hv,this,Bool.false_eq_true,if_false]
     ·rw[e] at ht
      have:Ep hs { h0 with rows:=rows }=true:=by simpa using ht.symm
      simp only[jx,hf,g1,if_true,hr,hv,this]
    repeat ((with_reducible first|apply A0|apply wI|apply wT|apply wP|apply wS|apply wB);exact rfl)
    rw[A8]
    refine B6 (fun g2=>?_) (fun g2=>hev _ ?_)
    ·obtain ⟨q,hq,rfl⟩:∃q hq,hs=q ++ [hq]:=by
      rcases List.eq_nil_or_concat hs with e|⟨q,hq,e⟩
      ·rw[e] at g2;exact absurd g2 (by decide)
      ·exact ⟨q,hq,by rw[e,List.concat_eq_append]⟩
     have hql:(q ++ [hq]).length=q.length+1:=by simp
     have hget:((q ++ [hq]).map K6)[q.length]? = some (K6 hq):=by simp
     have wl:IntKind.wrap .i64 ((((q ++ [hq]).length:Nat):Int)-1)=(q.length:Int):=by rw[hql,F8 (by omega) (by omega)];omega
     repeat ((with_reducible first|apply A0|apply wI|apply wT|apply wP|apply wS|apply wB);exact rfl)
     rw[wl]
     refine A0 (nc (id:=8) (xs:=(q ++ [hq]).map K6) ke rfl (by omega) rfl (List.length_map _)) ?_
     rw[Nat.zero_add]
     refine A0 (Ss (id:=8) (xs:=(q ++ [hq]).map K6) rfl (List.length_map _) hget rfl rfl) ?_
     repeat ((with_reducible first|apply A0|apply wI|apply wT|apply wP|apply wS|apply wB);exact rfl)
     refine A1.freeze (id:=11) (es:=2) (xs:=rows.map I3) (fz:=true) rfl (.cons (.same _) (.cons (.part [_,_,_,_,_] [] _ (List.length_map _).symm) .nil)) ?_
     refine tv L (g:=hq) (h:={ h0 with rows:=rows }) (F0 ?_)
     refine hev _ ?_
     have:Ep (q ++ [hq]) { h0 with rows:=rows }=mm hq { h0 with rows:=rows }:=by unfold Ep;simp
     rw[this]
    ·have:hs = []:=by
      cases hs with
      | nil=>rfl
      | cons x y=>exact absurd g2 (by simp only[List.length_cons];omega)
     rw[this];rfl
 ·repeat ((with_reducible first|apply A0|apply wI|apply wT|apply wP|apply wS|apply wB);exact rfl)
  refine ⟨rfl,?_⟩
  repeat ((with_reducible first|apply A0|apply wI|apply wT|apply wP|apply wS|apply wB);exact rfl)
  refine ba (σ:=S9 ls at_ p s p' s' hs) O3 rfl (r':=.tup [.pv (K6 { h0 with rows:=[] }),fR 100 at_]) rfl (hbad ?_ _ _ _ _)
  rw[jx,hf,if_neg (by rw[g];decide)]
abbrev S3(ls:List Ln)(at_:Nat):A2:=[zN,zN,rdr ls at_]
abbrev Wl(R:AV→A2→Prop)(ls:List Ln):Prop:=∀(e:Int) (a at':Nat),R (.tup [.pv (nmP [] []),.pv (nmP [] []),.pv (.sl []),fR e a]) (S3 ls at')
theorem Uc{k:Nat}{a b c d a' b' c' d':AV}(h1:pp k σ a=some a')(h2:pp k σ b=some b')(h3:pp k σ c=some c')(h4:pp k σ d=some d'):yg k σ (.tup [a,b,c,d])=some (.tup [a',b',c',d']):=by
 simp[yg,xa,h1,h2,h3,h4]
theorem Wi{k:Nat}{id es n:Nat}{xs:List PV}{fz:Bool}(h:σ[id]? = some (.arr es xs fz))(hk:Nat.ble k id=true)(hn:xs.length=n):pp k σ (.arr id n 0 n)=some (.pv (.sl xs)):=Lw h hk hn
theorem Zx{acc:List Hnk}(hat:at_≤ls.length)
  (hbad:acc = []→Wl R ls)
  (hgood:acc ≠ []→R (.tup [.pv (nmP p s),.pv (nmP p' s'),cg acc,.pv (.raw (.pointer none))]) (S3 ls at_)):
  D8.n47 (D8.X w0 3) w0 3 R (S9 ls at_ p s p' s' acc) (.ptr 2 0) (.ptr 3 0) (.ptr 4 0) (.ptr 5 0) (.ptr 6 0) (.ptr 7 0) (.arr 8 acc.length 0 acc.length):=by
 refine D8.n47_in ?_
 rw[D8.b47_eq]
 repeat ((with_reducible first|apply A0|apply wI|apply wT|apply wP|apply wS|apply wB);exact rfl)
 rw[H6]
 refine B6 (fun g=>?_) (fun g=>?_)
 ·repeat ((with_reducible first|apply A0|apply wI|apply wT|apply wP|apply wS|apply wB);exact rfl)
  refine ⟨rfl,?_⟩
  refine ⟨rfl,?_⟩
  repeat ((with_reducible first|apply A0|apply wI|apply wT|apply wP|apply wS|apply wB);exact rfl)
  refine ⟨rfl,rfl,?_⟩
  repeat ((with_reducible first|apply A0|apply wI|apply wT|apply wP|apply wS|apply wB);exact rfl)
  refine ba (σ:=S3 ls at_) O3 rfl (r':=.tup [.pv (nmP [] []),.pv (nmP [] []),.pv (.sl []),fR 100 at_]) rfl (hbad ?_ _ _ _)
  exact List.length_eq_zero_iff.1 (by omega)
 ·repeat ((with_reducible first|apply A0|apply wI|apply wT|apply wP|apply wS|apply wB);exact rfl)
  refine ⟨rfl,?_⟩
  repeat ((with_reducible first|apply A0|apply wI|apply wT|apply wP|apply wS|apply wB);exact rfl)
  exact ba (σ:=S3 ls at_) O3 rfl (Uc rfl rfl (Wi (id:=8) (es:=6) (fz:=false) (xs:=acc.map K6) rfl rfl (List.length_map _)) rfl) (hgood fun e=>g (by rw[e];rfl))
theorem Tn{α:Type}{xs:List α}{k:Nat}{c:α}(h:xs[k]? = some c):xs.drop k=c::xs.drop (k+1):=by
 have hlt:=(List.getElem?_eq_some_iff.1 h).1
 rw[List.drop_eq_getElem_cons hlt]
 rw[List.getElem?_eq_getElem hlt] at h
 cases h;rfl
theorem Fi(L:Laid w0.w)(hl:ls.length≤4194306)(hx:∀l∈ls,l ≠ []∧l.length≤4194306)(hrows:ls.flatten.length≤4194305):∀(f at_:Nat) (acc:List Hnk),(ls.drop at_).length<f→at_≤ls.length→acc.length≤at_→((∀ hs r,af f acc (ls.drop at_)=some (hs,r)→hs = [])→Wl R ls) →
  (∀ hs r,af f acc (ls.drop at_)=some (hs,r)→hs ≠ [] → ∀at',ls.drop at'=r→at'≤ls.length→R (.tup [.pv (nmP p s),.pv (nmP p' s'),cg hs,.pv (.raw (.pointer none))]) (S3 ls at')) →
  D8.n28 (D8.X w0 3) w0 3 R (S9 ls at_ p s p' s' acc) (.ptr 2 0) (.ptr 3 0) (.ptr 4 0) (.ptr 5 0) (.ptr 6 0) (.ptr 7 0) (.arr 8 acc.length 0 acc.length)
 | 0,at_,acc,h,_,_,_,_=>absurd h (Nat.not_lt_zero _)
 | f+1,at_,acc,hf,hat,hacc,hbad,hgood=>by
  have stop:(∀ hs r,af (f+1) acc (ls.drop at_)=some (hs,r)→hs=acc∧r=ls.drop at_)→af (f+1) acc (ls.drop at_)=some (acc,ls.drop at_) → ∀t,t=false→D8.n32 (D8.X w0 3) w0 3 R (S9 ls at_ p s p' s' acc) (.ptr 2 0) (.ptr 3 0) (.ptr 4 0) (.ptr 5 0) (.ptr 6 0) (.ptr 7 0) (.arr 8 acc.length 0 acc.length) t:=by
   rintro h1 h2 t rfl
   refine D8.n32_in ?_
   rw[D8.b32_eq,I7]
   exact Zx hat (fun e=>hbad fun hs r h=>by rw[(h1 hs r h).1,e]) (fun hne=>hgood _ _ h2 hne at_ rfl hat)
  refine D8.n28_in ?_
  rw[D8.b29_eq]
  repeat ((with_reducible first|apply A0|apply wI|apply wT|apply wP|apply wS|apply wB);exact rfl)
  rw[A8]
  refine B6 (fun g=>?_) (fun g=>?_)
  ·rw[List.length_map] at g
   obtain ⟨l,hl0⟩:∃l,ls[at_]? = some l:=⟨ls[at_]'(by omega),List.getElem?_eq_getElem (by omega)⟩
   have hdr:=Tn hl0
   have hlx:=hx l (List.mem_of_getElem? hl0)
   repeat ((with_reducible first|apply A0|apply wI|apply wT|apply wP|apply wS|apply wB);exact rfl)
   refine A0 (O1 ny (vz hl0) rfl) ?_
   repeat ((with_reducible first|apply A0|apply wI|apply wT|apply wP|apply wS|apply wB);exact rfl)
   refine Z7 (F0 ?_)
   cases hp:Lib.hasPrefix l [64,64,32,45] with
   | false=>
    have h2:af (f+1) acc (ls.drop at_)=some (acc,ls.drop at_):=by
     rw[hdr,af,if_neg (by rw[hp];decide)]
    generalize hb:false=b
    exact stop (fun hs r h=>by rw[h2] at h;cases h;exact ⟨rfl,rfl⟩) h2 b hb.symm
   | true=>
    generalize hb:true=b
    refine D8.n32_in ?_
    rw[D8.b32_eq]
    subst hb
    rw[L4]
    have heq:af (f+1) acc (ls.drop at_)=match jx acc (ls.drop at_) with
      | none=>none
      | some (h,r)=>af f (acc ++ [h]) r:=by
     rw[hdr,af,if_pos hp];rfl
    refine Sz L hl hx hrows hl0 (by omega) (fun hn h e a at'=>?_) (fun h r hr at' hd' hle=>?_)
    ·repeat ((with_reducible first|apply A0|apply wI|apply wT|apply wP|apply wS|apply wB);exact rfl)
     rw[Q1]
     refine A0 rfl (A0 (v:=false) rfl (F0 ?_))
     rw[Bool.not_false,L4]
     repeat ((with_reducible first|apply A0|apply wI|apply wT|apply wP|apply wS|apply wB);exact rfl)
     refine ⟨rfl,?_⟩
     repeat ((with_reducible first|apply A0|apply wI|apply wT|apply wP|apply wS|apply wB);exact rfl)
     exact ba (σ:=S3 ls at') O3 rfl rfl (hbad (fun hs r h=>by rw[heq,hn] at h;cases h) e a at')
    ·have ho:=Sx (T:=4194306) (ls:=ls.drop at_) (fun l hl=>(hx l (List.mem_of_mem_drop hl)).2) (fun l hl=>(hx l (List.mem_of_mem_drop hl)).1) hr
     obtain ⟨l1,q,hq⟩:=ho.pre
     have hlen:(ls.drop at').length<(ls.drop at_).length:=by
      rw[hd',hq];simp only[List.length_cons,List.length_append];omega
     rw[List.length_drop,List.length_drop] at hlen
     repeat ((with_reducible first|apply A0|apply wI|apply wT|apply wP|apply wS|apply wB);exact rfl)
     rw[Q1]
     refine A0 rfl (A0 (v:=true) rfl (F0 ?_))
     rw[Bool.not_true,I7]
     repeat ((with_reducible first|apply A0|apply wI|apply wT|apply wP|apply wS|apply wB);exact rfl)
     refine J4 (v:=.pv (.sl [K6 h])) rfl ?_
     refine J4 (X5 (id:=8) (es:=6) (ver:=acc.length) (xs:=acc.map K6) (ys:=[K6 h]) rfl rfl (List.length_map _).symm rfl rfl ⟨by rw[List.length_map];show acc.length+1≤_;omega,by rw[List.length_map];show (acc.length+1)*72≤_;omega⟩) ?_
     have e:acc.map K6 ++ [K6 h]=(acc ++ [h]).map K6:=by simp
     have e2:(acc.map K6).length + [K6 h].length=(acc ++ [h]).length:=by simp
     rw[e,e2]
     refine D8.n28_weak (M5.drop (τ:=S9 ls at' p s p' s' (acc ++ [h])) O3 (Nat.le_of_ble_eq_true rfl) rfl rfl) ?_
     have he:af (f+1) acc (ls.drop at_)=af f (acc ++ [h]) (ls.drop at'):=by
      rw[heq,hr]
      simp only
      rw[← hd']
     rw[he] at hgood hbad
     exact Fi L hl hx hrows f at' (acc ++ [h]) (by rw[List.length_drop] at hf ⊢;omega) hle (by rw[List.length_append,List.length_singleton];omega) hbad hgood
  ·rw[List.length_map] at g
   have h2:af (f+1) acc (ls.drop at_)=some (acc,ls.drop at_):=by
    rw[List.drop_eq_nil_of_le (by omega)];rfl
   generalize hb:false=b
   exact stop (fun hs r h=>by rw[h2] at h;cases h;exact ⟨rfl,rfl⟩) h2 b hb.symm
theorem Uy(h:ja [45,45,45,32] ls 0=none):nt ls=none:=by
 match ls,h with
 | [],_=>rfl
 | [_],_=>rfl
 | l1::l2::r,h=>
  have:cn [45,45,45,32] l1=none:=h
  rw[nt,this]
theorem Wa(h:ja [43,43,43,32] ls 1=none):nt ls=none:=by
 match ls,h with
 | [],_=>rfl
 | [_],_=>rfl
 | l1::l2::r,h=>
  have:cn [43,43,43,32] l2=none:=h
  rw[nt,this]
  cases cn [45,45,45,32] l1<;>rfl
theorem Tc(L:Laid w0.w)(hl:ls.length≤4194306)(hx:∀l∈ls,l ≠ []∧l.length≤4194306)(hrows:ls.flatten.length≤4194305)
  (hbad:nt ls=none→Wl R ls)
  (hgood:∀x,nt ls=some x → ∀at',ls.drop at'=x.r→at'≤ls.length→R (.tup [.pv (nmP x.a.1 x.a.2),.pv (nmP x.b.1 x.b.2),cg x.l,.pv (.raw (.pointer none))]) (S3 ls at')):
  A1 (cx w0) D8.id [.ptr 2 0] (S3 ls 0) R:=by
 refine D8.calls ?_
 rw[D8.b0_eq]
 refine Fu (T:=[]) L (by decide) (by decide) (by decide) (.inl rfl) (by omega) (fun l hl=>by have:=(hx l hl).2;omega) ?_
 cases h1:ja [45,45,45,32] ls 0 with
 | none=>
  unfold Az Ml
  repeat ((with_reducible first|apply A0|apply wI|apply wT|apply wP|apply wS|apply wB);exact rfl)
  rw[Q1]
  refine A0 rfl (A0 (v:=false) rfl (F0 ?_))
  rw[Bool.not_false,L4]
  repeat ((with_reducible first|apply A0|apply wI|apply wT|apply wP|apply wS|apply wB);exact rfl)
  refine ⟨rfl,?_⟩
  repeat ((with_reducible first|apply A0|apply wI|apply wT|apply wP|apply wS|apply wB);exact rfl)
  exact ba (σ:=S3 ls 0) O3 rfl rfl (hbad (Uy h1) 110 0 0)
 | some q=>
  obtain ⟨p,s⟩:=q
  unfold Az Ml
  repeat ((with_reducible first|apply A0|apply wI|apply wT|apply wP|apply wS|apply wB);exact rfl)
  rw[Q1]
  refine A0 rfl (A0 (v:=true) rfl (F0 ?_))
  rw[Bool.not_true,I7]
  refine Fu (T:=[nmO p s]) (at_:=1) L (by decide) (by decide) (by decide) (.inr ⟨p,s,rfl⟩) (by omega) (fun l hl=>by have:=(hx l hl).2;omega) ?_
  cases h2:ja [43,43,43,32] ls 1 with
  | none=>
   unfold Az Ml
   repeat ((with_reducible first|apply A0|apply wI|apply wT|apply wP|apply wS|apply wB);exact rfl)
   rw[Q1]
   refine A0 rfl (A0 (v:=false) rfl (F0 ?_))
   rw[Bool.not_false,L4]
   repeat ((with_reducible first|apply A0|apply wI|apply wT|apply wP|apply wS|apply wB);exact rfl)
   refine ⟨rfl,?_⟩
   repeat ((with_reducible first|apply A0|apply wI|apply wT|apply wP|apply wS|apply wB);exact rfl)
   exact ba (σ:=S3 ls 1) O3 rfl rfl (hbad (Wa h2) 110 1 1)
  | some q=>
   obtain ⟨p',s'⟩:=q
   unfold Az Ml
   repeat ((with_reducible first|apply A0|apply wI|apply wT|apply wP|apply wS|apply wB);exact rfl)
   rw[Q1]
   refine A0 rfl (A0 (v:=true) rfl (F0 ?_))
   rw[Bool.not_true,I7]
   obtain ⟨l1,l2,r,e,e1,e2⟩:∃l1 l2 r,ls=l1::l2::r∧cn [45,45,45,32] l1=some (p,s)∧cn [43,43,43,32] l2=some (p',s'):=by
    unfold ja at h1 h2
    cases ls with
    | nil=>simp at h1
    | cons l1 r=>
     cases r with
     | nil=>simp at h2
     | cons l2 r=>exact ⟨l1,l2,r,rfl,by simpa using h1,by simpa using h2⟩
   have hd2:ls.drop 2=r:=by rw[e];rfl
   have hlen:2≤ls.length:=by rw[e];simp
   refine D8.n28_weak (r':=.ptr 2 0) (t2':=.ptr 3 0) (t3':=.ptr 4 0) (none_':=.ptr 5 0) (old':=.ptr 6 0) (fresh':=.ptr 7 0) (out':=.arr 8 0 0 0) (τ:=S9 ls 2 p s p' s' []) (M5.nil (t:=10) (es:=6) rfl rfl) ?_
   have hrd:nt ls=match af (r.length+1) [] r with
     | some (h::hs,r)=>some ⟨(p,s),(p',s'),h::hs,r⟩
     | _=>none:=by
    rw[e,nt,e1,e2];rfl
   refine Fi L hl hx hrows (r.length+1) 2 [] (by rw[hd2];omega) hlen (Nat.zero_le _) (fun hno=>hbad ?_) (fun hs r' hr hne at' hd' hle=>?_)
   ·rw[hd2] at hno
    rw[hrd]
    split
    ·rename_i hq
     exact absurd (hno _ _ hq) (by simp)
    ·rfl
   rw[hd2] at hr
   refine hgood ⟨(p,s),(p',s'),hs,r'⟩ ?_ at' hd' hle
   rw[e,nt,e1,e2]
   simp only[hr]
   cases hs with
   | nil=>exact absurd rfl hne
   | cons h hs=>rfl
abbrev We(w:AV):Prop:=∃(n:Int) (e:Int),w = .tup [.pv (nmP [] []),.pv (nmP [] []),.pv (.sl []),.pv (.str []),.pv (.int .i64 n),.pv (.iface 63 (.int .i64 e))]
def co(s:Ln)(w:AV):Prop:=match wv s with
 | some (x,rest)=>w = .tup [.pv (nmP x.a.1 x.a.2),.pv (nmP x.b.1 x.b.2),cg x.l,.pv (.str rest),.pv (.int .i64 0),.pv (.raw .nilIface)]
 | none=>We w
theorem Dc{s:Ln}{w:AV}(h:co s w):AV.under 0 w=true:=by
 unfold co at h
 split at h
 ·rw[h];rfl
 ·obtain ⟨n,e,rfl⟩:=h;rfl
abbrev S5(ls:List Ln)(at_:Nat)(p s p' s':Ln):A2:=S3 ls at_ ++ [nmO p s,nmO p' s']
theorem Xk{x:Ln}{size:Int}{k:Nat}(hk:k≤x.length)(hs:(if (x.length:Int)<size then (x.length:Int) else size)=(k:Int)){v:AV}
  (hv:R v []) (he:v = .tup [.pv (nmP p s),.pv (nmP p' s'),cg hs0,.pv (.str (x.drop k)),.pv (.int .i64 0),.pv (.raw .nilIface)]):
  G6.n49 (G6.X w0 0) w0 0 R (S5 ls at_ p s p' s') x (.ptr 0 0) (.ptr 1 0) (.ptr 3 0) (.ptr 4 0) (cg hs0) size:=by
 subst he
 refine G6.n49_in ?_
 rw[G6.b49_eq,hs]
 repeat ((with_reducible first|apply A0|apply wI|apply wT|apply wP|apply wS|apply wB);exact rfl)
 refine A0 (K8 hk) (K9 ?_)
 repeat ((with_reducible first|apply A0|apply wI|apply wT|apply wP|apply wS|apply wB);exact rfl)
 refine ⟨rfl,A0 (K8 hk) rfl,?_⟩
 repeat ((with_reducible first|apply A0|apply wI|apply wT|apply wP|apply wS|apply wB);exact rfl)
 refine ⟨A0 (K8 hk) rfl,A0 (K8 hk) rfl,?_⟩
 repeat ((with_reducible first|apply A0|apply wI|apply wT|apply wP|apply wS|apply wB);exact rfl)
 exact qf (σ:=[]) O3 rfl rfl hv
theorem Ti{σ:A2}{ls:List Ln}{k:Nat}(h:k≤ls.length):K5 σ B2 X7.td (.pv (re ls)) none (some (.pv (.int .i64 (k:Int))))=some (.pv (re (ls.take k))):=by
 show (if (0:Int)≤0∧(0:Int)≤(k:Int)∧(k:Int)≤(((ls.map PV.str).length:Nat):Int) then (if Y0 1 (ls.map PV.str)=true then some (AV.pv (.sl (((ls.map PV.str).take (k:Int).toNat).drop (0:Int).toNat))) else none) else none)=_
 have e:Y0 1 (ls.map PV.str)=true:=by
  simp only[Y0,List.all_eq_true,List.mem_map]
  rintro x ⟨r,_,rfl⟩
  rfl
 rw[if_pos (by rw[List.length_map];omega),if_pos e]
 simp
theorem Hy{x:Ln}(xs:List Ln)(total:Nat)(hT:total≤4194305)(next:G6.n49 (G6.X w0 0) w0 0 R (S5 ls at_ p s p' s') x (.ptr 0 0) (.ptr 1 0) (.ptr 3 0) (.ptr 4 0) (cg hs0) (total:Int)):∀(r:List Ln) (k size:Nat),xs.drop k=r→size+r.flatten.length=total→xs.length≤4194306 →
  G6.n36 (G6.X w0 0) w0 0 R (S5 ls at_ p s p' s') x (.ptr 0 0) (.ptr 1 0) (.ptr 3 0) (.ptr 4 0) (cg hs0) (size:Int) (.pv (re xs)) xs.length k
 | [],k,size,hd,hs,hl=>by
  have hk:=N5 hd
  refine G6.n36_in ?_
  rw[G6.b37_eq,A8,if_neg (by omega)]
  simp at hs
  rw[hs];exact next
 | l::r,k,size,hd,hs,hl=>by
  obtain ⟨h1,h2,hk⟩:=G7 hd
  simp only[List.flatten_cons,List.length_append] at hs
  refine G6.n36_in ?_
  rw[G6.b37_eq,A8,if_pos (by omega)]
  refine A0 (O1 ny (vz h1) rfl) ?_
  repeat ((with_reducible first|apply A0|apply wI|apply wT|apply wP|apply wS|apply wB);exact rfl)
  rw[F8 (n:=(size:Int)+_) (by omega) (by omega),J3 hk (by omega)]
  have e:(size:Int)+(l.length:Int)=((size+l.length:Nat):Int):=by omega
  rw[e]
  exact Hy xs total hT next r (k+1) (size+l.length) h2 (by omega) hl
theorem xu:∀{L:List Ln},(∀ l∈L,l ≠ [])→L.length≤L.flatten.length
 | [],_=>Nat.le_refl _
 | l::L,h=>by
  have:=xu (L:=L) fun x hx=>h x (List.mem_cons_of_mem _ hx)
  have h1:1≤l.length:=List.length_pos_iff.2 (h l (by simp))
  simp only[List.length_cons,List.flatten_cons,List.length_append];omega
theorem Pz(L:Laid w0.w){x:Ln}(hx:x.length≤4611686018427387904)(hR:∀w,co x w→R w σ):A1 (cx w0) G6.id [.pv (.str x)] σ R:=by
 refine A1.some_of (P:=co x) L rfl (fun w1 L1=>?_) (fun r h=>Dc h) hR
 refine G6.calls ?_
 rw[G6.b0_eq,A8]
 refine B6 (fun g=>?_) (fun g=>?_)
 ·repeat ((with_reducible first|apply A0|apply wI|apply wT|apply wP|apply wS|apply wB);exact rfl)
  refine U9 (σ:=[]) O3 rfl (r':=.tup [.pv (nmP [] []),.pv (nmP [] []),.pv (.sl []),.pv (.str []),.pv (.int .i64 0),.pv (.iface 63 (.int .i64 2))]) rfl ?_
  unfold co wv
  rw[if_pos (by omega)]
  exact ⟨_,_,rfl⟩
 ·have fin:∀t,t=decide (x ≠ []∧L6 x=false)→G6.n15 (G6.X w1 0) w1 0 (fun r _=>co x r) [zN,zN] x (.ptr 0 0) (.ptr 1 0) x t:=by
   rintro t rfl
   have hwl:=Ow x
   have key:G6.n18 (G6.X w1 0) w1 0 (fun r _=>co x r) [zN,zN] x (.ptr 0 0) (.ptr 1 0) (ci x):=by
    refine G6.n18_in ?_
    rw[G6.b18_eq]
    refine Bv L1 (by omega) ?_
    have hL:(M7 (ci x)).flatten=ci x:=dc _
    have hne:=lu (ci x)
    generalize hg:M7 (ci x)=ls at hL hne
    have hfl:ls.flatten.length≤4194305:=by rw[hL];omega
    have hll:ls.length≤4194306:=by
     have:ls.length≤ls.flatten.length:=xu hne
     omega
    refine A0 (v:=.pv (.agg [re ls,.int .i64 0])) rfl ⟨rfl,?_⟩
    refine Tc (ls:=ls) L1 hll (fun l hl=>⟨hne l hl,by have:=nl hl;omega⟩) hfl (fun hn e a at'=>?_) (fun y hy at' hd hle=>?_)
    ·repeat ((with_reducible first|apply A0|apply wI|apply wT|apply wP|apply wS|apply wB);exact rfl)
     rw[Q1]
     refine A0 rfl (A0 (v:=false) rfl (F0 ?_))
     rw[Bool.not_false,L4]
     repeat ((with_reducible first|apply A0|apply wI|apply wT|apply wP|apply wS|apply wB);exact rfl)
     refine ⟨rfl,rfl,rfl,?_⟩
     repeat ((with_reducible first|apply A0|apply wI|apply wT|apply wP|apply wS|apply wB);exact rfl)
     refine ⟨rfl,rfl,rfl,rfl,rfl,rfl,rfl,?_⟩
     repeat ((with_reducible first|apply A0|apply wI|apply wT|apply wP|apply wS|apply wB);exact rfl)
     refine U9 (σ:=[]) O3 rfl (r':=.tup [.pv (nmP [] []),.pv (nmP [] []),.pv (.sl []),.pv (.str []),.pv (.int .i64 (IntKind.wrap .i64 ((a:Int)+1))),.pv (.iface 63 (.int .i64 e))]) rfl ?_
     unfold co wv
     rw[if_neg (by omega),hg,hn]
     exact ⟨_,_,rfl⟩
    ·repeat ((with_reducible first|apply A0|apply wI|apply wT|apply wP|apply wS|apply wB);exact rfl)
     rw[Q1]
     refine A0 rfl (A0 (v:=true) rfl (F0 ?_))
     rw[Bool.not_true,I7]
     repeat ((with_reducible first|apply A0|apply wI|apply wT|apply wP|apply wS|apply wB);exact rfl)
     refine A0 (Ti hle) ?_
     refine A0 rfl (L3 ?_)
     rw[List.length_map]
     have hsum:(ls.take at').flatten.length+y.r.flatten.length=(ci x).length:=by
      have:=congrArg (fun x:List Ln=>x.flatten.length) (List.take_append_drop at' ls)
      simp only[List.flatten_append,List.length_append] at this
      rw[hd,hL] at this
      exact this
     refine Hy (ls.take at') ((ls.take at').flatten.length) (by omega) ?_ (ls.take at') 0 0 rfl (by omega) (by rw[List.length_take];omega)
     refine Xk (k:=min ((ls.take at').flatten.length) x.length) (by omega) ?_ ?_ rfl
     ·split<;>omega
     ·unfold co wv
      rw[if_neg (by omega),hg,hy]
      have e:Sb x y.r=(ls.take at').flatten.length:=by unfold Sb;omega
      simp only[e]
   refine G6.n15_in ?_
   rw[G6.b15_eq,A8]
   refine B6 (fun g2=>⟨by simp only[List.length_singleton];omega,?_⟩) (fun g2=>?_)
   ·have:ci x=x ++ [10]:=by unfold ci;rw[if_pos g2]
    rw[← this];exact key
   ·have:ci x=x:=by unfold ci;rw[if_neg g2]
    rw[this] at key;exact key
  rw[E3,U5]
  refine B6 (fun g2=>?_) (fun g2=>?_)
  ·generalize hb:false=b
   refine fin b ?_
   rw[← hb,decide_eq_false (fun e=>e.1 g2)]
  ·refine ik (by omega) (F0 ?_)
   refine fin _ ?_
   cases hw:L6 x<;>simp[g2]
end
end Go.Sv
