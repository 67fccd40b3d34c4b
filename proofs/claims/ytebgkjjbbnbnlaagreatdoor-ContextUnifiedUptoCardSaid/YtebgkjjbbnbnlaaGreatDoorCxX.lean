/- What the code of package context answers where it reads: a whole diff's pieces. What the code of package context answers where it reads: a whole diff. What the code of package context answers where it reads: a text. Context diffs, printed: as plain lists. The marks of the program are the marks of the document. -/
import Derived.Test.YtebgkjjbbnbnlaaGreatDoorCxO
import Derived.Test.YtebgkjjbbnbnlaaGreatDoorSvBk
set_option linter.unusedVariables false
set_option linter.unusedSimpArgs false
set_option maxRecDepth 100000
section
namespace Go.Sv
section
open Go Go.RowKit Go.Proofs
variable {w0:B5}{σ:A2}{R:AV→A2→Prop}
def pg(a n:Int):Int:=if n>0 then IntKind.wrap .i64 (a-1) else a
theorem nb{a n:Int}(hR:R (.pv (.int .i64 (pg a n))) σ):A1 (cx w0) P2.id [.pv (.int .i64 a),.pv (.int .i64 n)] σ R:=by
 refine P2.calls ?_
 rw[P2.b0_eq,A8]
 unfold pg at hR
 refine B6 (fun g=>?_) (fun g=>?_)
 ·rw[if_pos g] at hR;exact P8 hR
 ·rw[if_neg g] at hR;exact P8 hR
def cr(g h:Hnk):Bool:=decide (pg h.a h.n≥IntKind.wrap .i64 (pg g.a g.n+g.n))&&decide (pg h.b h.m≥IntKind.wrap .i64 (pg g.b g.m+g.m))
theorem Mc(L:Laid w0.w){g h:Hnk}(hR:R (.pv (.bool (cr g h))) σ):A1 (cx w0) N3.id [.pv (K6 g),.pv (K6 h)] σ R:=by
 refine A1.alone L rfl (fun w1 L1=>?_) rfl hR
 have fin:∀t,t=cr g h→N3.n4 (N3.X w1 0) w1 0 (fun r' _=>r' = .pv (.bool (cr g h))) [.cells 39 (jq g),.cells 39 (jq h)] t:=by
  rintro t rfl
  refine N3.n4_in ?_
  rw[N3.b4_eq]
  exact C4 (Nat.zero_le _) rfl
 refine N3.calls ?_
 rw[N3.b0_eq]
 refine ⟨rfl,rfl,?_⟩
 repeat ((with_reducible first|apply A0|apply wI|apply wT|apply wP|apply wS|apply wB);exact rfl)
 refine nb (L3 ⟨rfl,rfl,rfl,?_⟩)
 refine nb (L3 ⟨rfl,?_⟩)
 refine A7 (fun g1=>?_) (fun g1=>fin _ ?_)
 ·repeat ((with_reducible first|apply A0|apply wI|apply wT|apply wP|apply wS|apply wB);exact rfl)
  refine nb (L3 ⟨rfl,rfl,rfl,?_⟩)
  refine nb (L3 ⟨rfl,fin _ ?_⟩)
  rw[cr,g1];rfl
 ·rw[cr,g1];rfl
noncomputable def feP1:List (FuncId×FE):=[(P7.id,P7.fe)]
theorem Yr(w0:B5):ut (cx w0) feP1:=⟨P7.ok w0,trivial⟩
abbrev badN(line e:Int):AV:=.tup [.pv (.agg [.str [],.str []]),.pv (.agg [.str [],.str []]),.nilsl,.pv (.str []),.pv (.int .i64 line),.pv (.iface 63 (.int .i64 e))]
abbrev zg(line e:Int):AV:=.tup [.pv (.agg [.str [],.str []]),.pv (.agg [.str [],.str []]),.pv (.sl []),.pv (.str []),.pv (.int .i64 line),.pv (.iface 63 (.int .i64 e))]
theorem Yi(w0:B5)(line e:Int):pb (cx w0) (ox feP1) (iu sy) 1000 40 P7.id [.pv (.int .i64 line),.pv (.iface 63 (.int .i64 e))] []=some (badN line e,[]):=by kernel_rfl
theorem lz(L:Laid w0.w){line e:Int}(hR:R (badN line e) σ):A1 (cx w0) P7.id [.pv (.int .i64 line),.pv (.iface 63 (.int .i64 e))] σ R:=
 A1.alone L rfl (fun w1 L1=>mu L1 (Yr w1) (Yi w1 line e) rfl) rfl hR
abbrev z2:A2:=[nmX [] [],nmX [] []]
theorem xk:∀(f:Nat) (s:Ln) (done:List Ln),s.length<f→s.length≤1099511627776→done.length+s.length≤1099511627776→R (.arr 2 (done++M7 s).length 0 (done++M7 s).length) (z2++lnS (done++M7 s)) →
  F4.n6 (F4.X w0 2) w0 2 R (z2++lnS done) s (.arr 2 done.length 0 done.length)
 | 0,s,done,h,_,_,_=>absurd h (Nat.not_lt_zero _)
 | f+1,s,done,hf,hs,hd,hR=>by
  refine F4.n6_in ?_
  rw[F4.b7_eq,E3,U5]
  refine B6 (fun g=>?_) (fun g=>?_)
  ·refine F4.n25_in ?_
   rw[F4.b25_eq]
   subst g
   have e:done++M7 []=done:=by simp[M7]
   rw[e] at hR
   exact C4 (Nat.le_of_ble_eq_true rfl) hR
  ·obtain ⟨k,k1,k2,k3,k4⟩:=mq s g
   have hge:=Lib.indexByte_ge s 10
   have fin:∀at_:Int,at_=(k:Int)→F4.n22 (F4.X w0 2) w0 2 R (z2++lnS done) s (.arr 2 done.length 0 done.length) at_:=by
    rintro at_ rfl
    have hl1:(s.take k).length=k:=by rw[List.length_take];omega
    rw[k4,show done++s.take k::M7 (s.drop k)=(done ++ [s.take k])++M7 (s.drop k) by simp] at hR
    have ih:=xk f (s.drop k) (done ++ [s.take k]) (by rw[List.length_drop];omega) (by rw[List.length_drop];omega) (by rw[List.length_drop,List.length_append,List.length_singleton];omega) hR
    simp only[List.length_append,List.length_singleton] at ih
    have e:done.map PV.str ++ [PV.str (s.take k)]=(done ++ [s.take k]).map PV.str:=by simp
    refine F4.n22_in ?_
    rw[F4.b22_eq]
    refine A0 (cw k2) (K9 ?_)
    refine J4 Rp ?_
    refine J4 (X5 (id:=2) (es:=1) (ver:=done.length) (xs:=done.map PV.str) (ys:=[.str (s.take k)]) rfl rfl (List.length_map _).symm rfl rfl ⟨by rw[List.length_map];show done.length+1≤_;omega,by rw[List.length_map];show (done.length+1)*16≤_;omega⟩) ?_
    refine A0 (K8 k2) (K9 ?_)
    rw[List.length_map,e]
    exact ih
   refine iw (c:=10) (L3 ?_)
   have hle:Lib.indexByte s 10+1≤1099511627776:=by
    by_cases hm:Lib.indexByte s 10 = -1
    ·omega
    ·rw[if_neg hm] at k3;omega
   rw[F8 (by omega) (by omega),H6]
   refine B6 (fun g2=>fin _ ?_) (fun g2=>fin _ ?_)
   ·rw[if_pos (by omega)] at k3;exact k3
   ·rw[if_neg (by omega)] at k3;exact k3
theorem Kv{s:Ln}(hs:s.length≤1099511627776)(hR:R (.arr 2 (M7 s).length 0 (M7 s).length) (z2++lnS (M7 s))):A1 (cx w0) F4.id [.pv (.str s)] z2 R:=by
 refine F4.calls ?_
 show F4.b0 (F4.X w0 2) w0 2 R z2 s
 rw[F4.b0_eq]
 refine F4.n6_weak (s':=s) (out':=.arr 2 0 0 0) (τ:=z2++lnS []) (M5.nil (t:=3) (es:=1) rfl rfl) ?_
 exact xk (s.length+1) s [] (by omega) hs (by simpa using hs) (by simpa using hR)
end
end Go.Sv
end
section
namespace Go.Sv
abbrev Rs:Ln:=[42,42,42,42,42,42,42,42,42,42,42,42,42,42,42]
def fo(s:Ln):Bool:=(X8 s Rs).2&&(match (X8 s Rs).1 with| []=>true|c::_=>c==32)
theorem Uh{s:Ln}(h:fo s=true):15≤s.length:=by
 unfold fo at h
 rw[Bool.and_eq_true] at h
 have h1:=h.1
 unfold X8 at h1
 split at h1
 ·rename_i hp
  unfold Lib.hasPrefix at hp
  have:=(List.isPrefixOf_iff_prefix.1 hp).length_le
  simpa using this
 ·cases h1
inductive nq(ls:List Ln):Nat→List Hnk→Int→Int→Option (List Hnk×Nat)→Prop
 | stop {at_:Nat} {acc:List Hnk} (h:fo (ah (ls.drop at_)).1=false) (hne:acc ≠ []):nq ls at_ acc 0 0 (some (acc,at_))
 | none {at_:Nat} (h:fo (ah (ls.drop at_)).1=false):nq ls at_ [] (Go.IntKind.wrap .i64 ((at_:Int)+1)) 100 none
 | bad {at_:Nat} {acc:List Hnk} {line err:Int} (h:fo (ah (ls.drop at_)).1=true) (hh:jz ls at_ line err none):nq ls at_ acc (Go.IntKind.wrap .i64 (line+1)) err none
 | order {at_ at':Nat} {acc:List Hnk} {line:Int} {g x:Hnk} (h:fo (ah (ls.drop at_)).1=true) (hh:jz ls at_ line 0 (some (x,at'))) (ho:acc.getLast? = some g) (hb:cr g x=false):nq ls at_ acc (Go.IntKind.wrap .i64 (line+1)) 112 none
 | step {at_ at':Nat} {acc:List Hnk} {line l2 err:Int} {x:Hnk} {o:Option (List Hnk×Nat)} (h:fo (ah (ls.drop at_)).1=true) (hh:jz ls at_ line 0 (some (x,at'))) (ho:∀g,acc.getLast? = some g→cr g x=true) (hr:nq ls at' (acc ++ [x]) l2 err o):nq ls at_ acc l2 err o
theorem Qb{ls:List Ln}{first:Nat}{line err:Int}{o:Option (Hnk×Nat)}{T:Nat}(hT:∀l∈ls,l.length≤T)(h:jz ls first line err o):∀x at',o=some (x,at')→first<at'∧at'≤ls.length:=by
 intro x at' e
 cases h with
 | noOld=>cases e
 | noNew=>cases e
 | noTog=>cases e
 | @tog old fresh at2 at3 rows ho h2 hle h3 h4 h5 hle3 head hh=>
  split at e
  ·injection e with e
   injection e with _ e
   subst e
   obtain ⟨_,_,q,hq⟩:=ig (kind:=45) (most:=(ls.length:Int)) (T:=T) (ls.drop (first+2)) [] false (fun l hl=>hT l (List.mem_of_mem_drop hl)) (by simp)
   obtain ⟨_,_,q2,hq2⟩:=ig (kind:=43) (most:=fresh.count) (T:=T) (ls.drop (at2+1)) [] false (fun l hl=>hT l (List.mem_of_mem_drop hl)) (by simp)
   have l1:=congrArg List.length hq
   have l2:=congrArg List.length hq2
   have l3:=congrArg List.length h2
   have l4:=congrArg List.length h5
   simp only[List.length_append,List.length_drop] at l1 l2 l3 l4
   have hf1:first+2≤ls.length:=by
    by_cases hc:first+2≤ls.length
    ·exact hc
    ·rw[List.drop_eq_nil_of_le (by omega)] at ho;cases ho
   have hf2:at2+1≤ls.length:=by
    by_cases hc:at2+1≤ls.length
    ·exact hc
    ·rw[List.drop_eq_nil_of_le (by omega)] at h3;cases h3
   exact ⟨by omega,hle3⟩
  ·cases e
section
open Go Go.RowKit Go.Proofs
variable {w0:B5}{σ:A2}{R:AV→A2→Prop}
variable {ls:List Ln}{text p s p' s':Ln}
theorem Td{S:A2}{a b c d e:PV}{n:Nat}{xs:List PV}(h:S[8]? = some (.arr 6 xs false))(hn:xs.length=n):gu 0 S (.tup [.pv a,.pv b,.arr 8 n 0 n,.pv c,.pv d,.pv e])=some (.tup [.pv a,.pv b,.pv (.sl xs),.pv c,.pv d,.pv e]):=by
 have e2:tn 0 S (.arr 8 n 0 n)=some (.pv (.sl xs)):=by
  show px 0 S (.arr 8 n 0 n)=_
  simp only[px,h]
  rw[if_pos ⟨hn,by omega⟩]
  simp[← hn]
 simp only[gu,vu,e2]
 rfl
abbrev Oj:AV:=.pv (.raw (.func (.func 36) #[] #[]))
abbrev Hz(text p s p' s':Ln)(hs:List Hnk)(n:Nat):AV:=.tup [.pv (nmP p s),.pv (nmP p' s'),.pv (.sl (hs.map K6)),.pv (.str (text.drop (min text.length n))),.pv (.int .i64 0),.pv (.raw .nilIface)]
theorem Vw{at_ n:Nat}{hs:List Hnk}(hR:R (Hz text p s p' s' hs n) []):
  C1.n108 (C1.X w0 0) w0 0 R (cS ls at_ p s p' s' hs) text (.ptr 0 0) (.ptr 1 0) (.ptr 5 0) (.ptr 7 0) (.arr 8 hs.length 0 hs.length) (n:Int):=by
 refine C1.n108_in ?_
 rw[C1.b108_eq]
 have e:(if ((List.length text:Nat):Int)<(n:Int) then ((List.length text:Nat):Int) else (n:Int))=((min text.length n:Nat):Int):=by split<;>omega
 rw[e]
 have hle:min text.length n≤text.length:=Nat.min_le_left _ _
 repeat ((with_reducible first|apply A0|apply wI|apply wT|apply wP|apply wS|apply wB);exact rfl)
 refine A0 (K8 hle) (K9 ?_)
 repeat ((with_reducible first|apply A0|apply wI|apply wT|apply wP|apply wS|apply wB);exact rfl)
 refine ⟨rfl,A0 (K8 hle) rfl,?_⟩
 repeat ((with_reducible first|apply A0|apply wI|apply wT|apply wP|apply wS|apply wB);exact rfl)
 refine ⟨A0 (K8 hle) rfl,A0 (K8 hle) rfl,?_⟩
 repeat ((with_reducible first|apply A0|apply wI|apply wT|apply wP|apply wS|apply wB);exact rfl)
 exact U9 (σ:=[]) O3 rfl (Td rfl (List.length_map _)) hR
theorem Lb{at_:Nat}{hs:List Hnk}{pl:List Ln}(hs1:pl.flatten.length≤1099511627776)(hs2:pl.length≤1099511627776)(hR:R (Hz text p s p' s' hs pl.flatten.length) []):∀(r:List Ln) (k n:Nat),pl.drop k=r→n+r.flatten.length=pl.flatten.length →
  C1.n95 (C1.X w0 0) w0 0 R (cS ls at_ p s p' s' hs) text (.ptr 0 0) (.ptr 1 0) (.ptr 5 0) (.ptr 7 0) (.arr 8 hs.length 0 hs.length) (n:Int) (.pv (.sl (pl.map PV.str))) pl.length k
 | [],k,n,hd,hn=>by
  have hk:=N5 hd
  refine C1.n95_in ?_
  rw[C1.b96_eq,A8,if_neg (by omega)]
  have:n=pl.flatten.length:=by simpa using hn
  rw[this]
  exact Vw hR
 | l::r,k,n,hd,hn=>by
  obtain ⟨h1,h2,hk⟩:=G7 hd
  rw[List.flatten_cons,List.length_append] at hn
  refine C1.n95_in ?_
  rw[C1.b96_eq,A8,if_pos (by omega)]
  refine A0 (O1 ny (Js h1) rfl) ?_
  repeat ((with_reducible first|apply A0|apply wI|apply wT|apply wP|apply wS|apply wB);exact rfl)
  rw[J3 hk (by omega),F8 (n:=(n:Int)+(l.length:Int)) (by omega) (by omega),show (n:Int)+(l.length:Int)=((n+l.length:Nat):Int) by omega]
  exact Lb hs1 hs2 hR r (k+1) (n+l.length) h2 (by omega)
theorem Mw{ti:TI}{id es ver i:Nat}{xs:List PV}{fz:Bool}{cs:List PV}(ho:σ[id]? = some (.arr es xs fz))(hv:xs.length=ver)(hi:xs[i]? = some (.agg cs))(ha:ti.td.isAgg=true)(hs:cs.length=ti.size):A4 σ ti (.eptr id ver i 0)=some (.pv (.agg cs)):=by
 simp only[A4,ho,if_pos hv,hi,ma,ha,hs,and_self,if_true,Option.map_some]
theorem Ll:∀l:List Ln,Y0 1 (l.map PV.str)=true:=by
 intro l
 induction l with
 | nil=>rfl
 | cons c r ih=>exact ih
theorem Ut{k:Nat}(h:k≤ls.length):K5 σ B2 X7.td (.pv (re ls)) none (some (.pv (.int .i64 (k:Int))))=some (.pv (.sl ((ls.take k).map PV.str))):=by
 show (if (0:Int)≤0∧(0:Int)≤(k:Int)∧(k:Int)≤(((ls.map PV.str).length:Nat):Int) then (if Y0 1 (ls.map PV.str)=true then some (AV.pv (.sl (((ls.map PV.str).take (k:Int).toNat).drop (0:Int).toNat))) else none) else none)=_
 rw[if_pos (by rw[List.length_map];omega),if_pos (Ll ls)]
 simp[List.map_take]
theorem Yk(L:Laid w0.w){at_:Nat}{hs:List Hnk}(hl:ls.length≤8388606)(hf:ls.flatten.length≤1099511627776)(hat:at_≤ls.length)
  (hbad:hs = []→R (zg (IntKind.wrap .i64 ((at_:Int)+1)) 100) [])
  (hgood:hs ≠ []→R (Hz text p s p' s' hs (ls.take at_).flatten.length) []):
  C1.n81 (C1.X w0 0) w0 0 R (cS ls at_ p s p' s' hs) text (.ptr 0 0) (.ptr 1 0) Oj (.ptr 3 0) (.ptr 5 0) (.ptr 7 0) (.arr 8 hs.length 0 hs.length):=by
 refine C1.n81_in ?_
 rw[C1.b81_eq]
 repeat ((with_reducible first|apply A0|apply wI|apply wT|apply wP|apply wS|apply wB);exact rfl)
 rw[H6]
 refine B6 (fun g=>?_) (fun g=>?_)
 ·repeat ((with_reducible first|apply A0|apply wI|apply wT|apply wP|apply wS|apply wB);exact rfl)
  refine lz L ?_
  repeat ((with_reducible first|apply A0|apply wI|apply wT|apply wP|apply wS|apply wB);exact rfl)
  exact U9 (σ:=[]) (r':=zg (IntKind.wrap .i64 ((at_:Int)+1)) 100) O3 rfl rfl (hbad (List.length_eq_zero_iff.1 (by omega)))
 ·repeat ((with_reducible first|apply A0|apply wI|apply wT|apply wP|apply wS|apply wB);exact rfl)
  refine A0 (Ut hat) ?_
  repeat ((with_reducible first|apply A0|apply wI|apply wT|apply wP|apply wS|apply wB);exact rfl)
  rw[List.length_map]
  have hfl:(ls.take at_).flatten.length≤ls.flatten.length:=by
   have:=congrArg (fun x:List Ln=>x.flatten.length) (List.take_append_drop at_ ls)
   simp only[List.flatten_append,List.length_append] at this
   omega
  exact Lb (pl:=ls.take at_) (by omega) (by rw[List.length_take];omega) (hgood fun e=>g (by rw[e];rfl)) (ls.take at_) 0 0 rfl (by omega)
set_option maxHeartbeats 1000000 in
theorem Al(L:Laid w0.w)(hl:ls.length≤8388606)(hx:∀l∈ls,l.length≤8388608)(hf:ls.flatten.length≤1099511627776):∀(f at_:Nat) (acc:List Hnk),ls.length-at_<f→at_≤ls.length→acc.length≤at_ →
  (∀ line err,nq ls at_ acc line err none→R (zg line err) []) →
  (∀ hs at',nq ls at_ acc 0 0 (some (hs,at'))→R (Hz text p s p' s' hs (ls.take at').flatten.length) []) →
  C1.n48 (C1.X w0 0) w0 0 R (cS ls at_ p s p' s' acc) text (.ptr 0 0) (.ptr 1 0) Oj (.ptr 3 0) (.ptr 5 0) (.ptr 7 0) (.arr 8 acc.length 0 acc.length)
 | 0,at_,acc,h,_,_,_,_=>absurd h (Nat.not_lt_zero _)
 | f+1,at_,acc,hfu,hat,hacc,hbad,hgood=>by
  have hnl:(ah (ls.drop at_)).1.length≤8388608:=tp (fun l h=>hx l (List.mem_of_mem_drop h))
  have h57:∀t,t = !fo (ah (ls.drop at_)).1→C1.n57 (C1.X w0 0) w0 0 R (cS ls at_ p s p' s' acc) text (.ptr 0 0) (.ptr 1 0) Oj (.ptr 3 0) (.ptr 5 0) (.ptr 7 0) (.arr 8 acc.length 0 acc.length) t:=by
   intro t ht
   refine C1.n57_in ?_
   rw[C1.b57_eq]
   refine A7 (fun g=>?_) (fun g=>?_)
   ·have hh:fo (ah (ls.drop at_)).1=false:=by rw[g] at ht;simpa using ht.symm
    refine Yk L hl hf hat (fun e=>hbad _ _ (by rw[e];exact .none hh)) (fun hne=>hgood _ _ (.stop hh hne))
   ·have hh:fo (ah (ls.drop at_)).1=true:=by rw[g] at ht;simpa using ht.symm
    have hlt:at_<ls.length:=by
     by_cases hc:at_<ls.length
     ·exact hc
     ·rw[List.drop_eq_nil_of_le (by omega)] at hh;cases hh
    have h75:∀(x:Hnk) (line:Int) (at':Nat) (t:Bool),jz ls at_ line 0 (some (x,at'))→(t=true → ∃g,acc.getLast? = some g∧cr g x=false)→(t=false → ∀g,acc.getLast? = some g→cr g x=true) →
      C1.n75 (C1.X w0 0) w0 0 R (cS ls at' p s p' s' acc ++ [hC1 x.a x.n x.b x.m x.head x.rows]) text (.ptr 0 0) (.ptr 1 0) Oj (.ptr 3 0) (.ptr 5 0) (.ptr 7 0) (.arr 8 acc.length 0 acc.length) (.ptr 9 0) line t:=by
     intro x line at' t hC ht1 ht2
     obtain ⟨s1,s2⟩:=Qb hx hC x at' rfl
     refine C1.n75_in ?_
     rw[C1.b75_eq]
     refine A7 (fun gt=>?_) (fun gt=>?_)
     ·obtain ⟨g0,hg1,hg2⟩:=ht1 gt
      repeat ((with_reducible first|apply A0|apply wI|apply wT|apply wP|apply wS|apply wB);exact rfl)
      refine lz L ?_
      repeat ((with_reducible first|apply A0|apply wI|apply wT|apply wP|apply wS|apply wB);exact rfl)
      exact U9 (σ:=[]) (r':=zg (IntKind.wrap .i64 (line+1)) 112) O3 rfl rfl (hbad _ _ (.order hh hC hg1 hg2))
     ·repeat ((with_reducible first|apply A0|apply wI|apply wT|apply wP|apply wS|apply wB);exact rfl)
      refine J4 (v:=.pv (.sl [K6 x])) rfl ?_
      refine J4 (X5 (id:=8) (es:=6) (ver:=acc.length) (xs:=acc.map K6) (ys:=[K6 x]) rfl rfl (List.length_map _).symm rfl rfl ⟨by rw[List.length_map];show acc.length+1≤_;omega,by rw[List.length_map];show (acc.length+1)*72≤_;omega⟩) ?_
      have e:acc.map K6 ++ [K6 x]=(acc ++ [x]).map K6:=by simp
      have e2:(acc.map K6).length + [K6 x].length=(acc ++ [x]).length:=by simp
      rw[e,e2]
      refine C1.n48_weak (M5.drop (τ:=cS ls at' p s p' s' (acc ++ [x])) O3 (Nat.le_of_ble_eq_true rfl) rfl rfl) ?_
      exact Al L hl hx hf f at' (acc ++ [x]) (by omega) s2 (by rw[List.length_append,List.length_singleton];omega) (fun l2 err hr=>hbad _ _ (.step hh hC (ht2 gt) hr)) (fun hs at2 hr=>hgood _ _ (.step hh hC (ht2 gt) hr))
    refine Mg L hl hlt hx (Uh hh) (fun line err h at' hC=>?_) (fun line x at' hC=>?_)
    ·repeat ((with_reducible first|apply A0|apply wI|apply wT|apply wP|apply wS|apply wB);exact rfl)
     rw[Q1]
     refine A0 rfl (A0 (v:=false) rfl (F0 ?_))
     rw[Bool.not_false,L4]
     repeat ((with_reducible first|apply A0|apply wI|apply wT|apply wP|apply wS|apply wB);exact rfl)
     refine lz L ?_
     repeat ((with_reducible first|apply A0|apply wI|apply wT|apply wP|apply wS|apply wB);exact rfl)
     exact U9 (σ:=[]) (r':=zg (IntKind.wrap .i64 (line+1)) err) O3 rfl rfl (hbad _ _ (.bad hh hC))
    ·repeat ((with_reducible first|apply A0|apply wI|apply wT|apply wP|apply wS|apply wB);exact rfl)
     rw[Q1]
     refine A0 rfl (A0 (v:=true) rfl (F0 ?_))
     rw[Bool.not_true,I7]
     repeat ((with_reducible first|apply A0|apply wI|apply wT|apply wP|apply wS|apply wB);exact rfl)
     rw[A8]
     refine B6 (fun g2=>?_) (fun g2=>?_)
     ·obtain ⟨q,hq,rfl⟩:∃q hq,acc=q ++ [hq]:=by
       rcases List.eq_nil_or_concat acc with e|⟨q,hq,e⟩
       ·rw[e] at g2;exact absurd g2 (by decide)
       ·exact ⟨q,hq,by rw[e,List.concat_eq_append]⟩
      have hql:(q ++ [hq]).length=q.length+1:=by simp
      have hget:((q ++ [hq]).map K6)[q.length]? = some (K6 hq):=by simp
      have wl:IntKind.wrap .i64 ((((q ++ [hq]).length:Nat):Int)-1)=(q.length:Int):=by rw[hql,F8 (by omega) (by omega)];omega
      rw[wl]
      refine A0 (nc (id:=8) (xs:=(q ++ [hq]).map K6) ke rfl (by omega) rfl (List.length_map _)) ?_
      rw[Nat.zero_add]
      refine A0 (Mw (id:=8) (xs:=(q ++ [hq]).map K6) rfl (List.length_map _) hget rfl rfl) ?_
      repeat ((with_reducible first|apply A0|apply wI|apply wT|apply wP|apply wS|apply wB);exact rfl)
      refine Mc L (g:=hq) (h:=x) (F0 ?_)
      have hgl:(q ++ [hq]).getLast? = some hq:=by simp
      refine h75 x line at' _ hC (fun e=>⟨hq,hgl,by simpa using e⟩) (fun e g hg=>?_)
      rw[hgl] at hg
      cases hg
      simpa using e
     ·have:acc = []:=by
       cases acc with
       | nil=>rfl
       | cons x y=>exact absurd g2 (by simp only[List.length_cons];omega)
      generalize hb:false=b
      refine h75 x line at' b hC (fun e=>by rw[← hb] at e;cases e) (fun e g hg=>by rw[this] at hg;cases hg)
  refine C1.n48_in ?_
  rw[C1.b49_eq]
  refine mf (id:=3) (at_:=at_) rfl (by omega) hx ?_
  repeat ((with_reducible first|apply A0|apply wI|apply wT|apply wP|apply wS|apply wB);exact rfl)
  refine io (by omega) ?_
  repeat ((with_reducible first|apply A0|apply wI|apply wT|apply wP|apply wS|apply wB);exact rfl)
  rw[E3]
  refine A7 (fun g=>?_) (fun g=>?_)
  ·rw[E3,U5]
   refine B6 (fun g2=>?_) (fun g2=>?_)
   ·generalize hb:false=b
    refine h57 b ?_
    unfold fo
    rw[g,g2,←hb];rfl
   ·cases hc:(X8 (ah (ls.drop at_)).1 Rs).1 with
    | nil=>exact absurd hc g2
    | cons c r=>
     refine A0 (R4 (k:=0) (c:=c) rfl) (L3 ?_)
     refine h57 _ ?_
     unfold fo
     rw[g,hc]
     simp only[Bool.true_and]
     rw[Bool.eq_iff_iff]
     simp only[bne_iff_ne,ne_eq,Bool.not_eq_true',beq_eq_false_iff_ne]
     rw[show ((32:Int))=((32:UInt8).toNat:Int) from rfl,Dz]
  ·generalize hb:true=b
   refine h57 b ?_
   unfold fo
   rw[g,←hb];rfl
end
end Go.Sv
end
section
namespace Go.Sv
def Dl(ls:List Ln):List Ln:=match ls.getLast? with
 | none=>ls
 | some l=>if L6 l=true then ls else ls.dropLast ++ [l ++ [10]]
def W6(text:Ln):List Ln:=Dl (M7 text)
theorem tm{l:Ln}:∀{L:List Ln},l∈L→l.length≤L.flatten.length
 | x::L,h=>by
  rw[List.flatten_cons,List.length_append]
  rcases List.mem_cons.1 h with rfl|h
  ·omega
  ·have:=tm h;omega
theorem Dn:∀{L:List Ln},(∀ l∈L,l ≠ [])→L.length≤L.flatten.length
 | [],_=>by simp
 | x::L,h=>by
  have h1:=List.length_pos_iff.2 (h x (by simp))
  have h2:=Dn (L:=L) (fun l hl=>h l (List.mem_cons_of_mem _ hl))
  rw[List.flatten_cons,List.length_append,List.length_cons];omega
theorem Oz(text:Ln):(W6 text).flatten.length≤text.length+1∧(W6 text).length≤text.length ∧ ∀l∈W6 text,l.length≤text.length+1:=by
 have h1:=congrArg List.length (dc text)
 have h2:=Dn (lu text)
 have key:(W6 text).flatten.length≤text.length+1∧(W6 text).length=(M7 text).length:=by
  unfold W6 Dl
  rcases List.eq_nil_or_concat (M7 text) with e|⟨q,w,e⟩
  ·rw[e];simp
  ·rw[List.concat_eq_append] at e
   rw[e] at h1 ⊢
   rw[List.getLast?_append,List.getLast?_singleton,Option.some_or]
   simp only
   split
   ·exact ⟨by omega,rfl⟩
   ·rw[List.dropLast_concat]
    simp only[List.flatten_append,List.flatten_cons,List.flatten_nil,List.length_append,List.length_singleton,List.append_nil] at h1 ⊢
    exact ⟨by omega,trivial⟩
 exact ⟨key.1,by omega,fun l hl=>Nat.le_trans (tm hl) key.1⟩
section
open Go Go.RowKit Go.Proofs
variable {w0:B5}{σ:A2}{R:AV→A2→Prop}
inductive na(text:Ln):AV→Prop
 | big (h:4194304<text.length):na text (zg 0 2)
 | name1 (h:text.length≤4194304) (h1:am [42,42,42,32] (W6 text)=none):na text (zg 1 110)
 | name2 {a:Ln×Ln} (h:text.length≤4194304) (h1:am [42,42,42,32] (W6 text)=some a) (h2:am [45,45,45,32] ((W6 text).drop 1)=none):na text (zg 2 110)
 | bad {a b:Ln×Ln} {line err:Int} (h:text.length≤4194304) (h1:am [42,42,42,32] (W6 text)=some a) (h2:am [45,45,45,32] ((W6 text).drop 1)=some b) (hr:nq (W6 text) 2 [] line err none):na text (zg line err)
 | good {a b:Ln×Ln} {hs:List Hnk} {at_:Nat} (h:text.length≤4194304) (h1:am [42,42,42,32] (W6 text)=some a) (h2:am [45,45,45,32] ((W6 text).drop 1)=some b) (hr:nq (W6 text) 2 [] 0 0 (some (hs,at_))):na text (Hz text a.1 a.2 b.1 b.2 hs ((W6 text).take at_).flatten.length)
theorem na.under{text:Ln}{w:AV}(h:na text w):AV.under 0 w=true:=by cases h<;>rfl
theorem Sg(o:Option (Ln×Ln)):∃(p s:Ln) (b:Bool),nmsA o = .tup [.pv (nmP p s),.pv (.bool b)]∧Rd o=nmX p s∧(b=true→o=some (p,s))∧(b=false→o=none):=by
 cases o with
 | none=>exact ⟨[],[],false,rfl,rfl,fun h=>(by cases h),fun _=>rfl⟩
 | some g=>exact ⟨g.1,g.2,true,rfl,rfl,fun _=>rfl,fun h=>(by cases h)⟩
abbrev pS(ls:List Ln)(fz:Bool):A2:=z2 ++ [.arr 1 (ls.map PV.str) fz]
theorem La{m:Ln}{ls:List Ln}{at_:Nat}{x:Ln×Ln}(h:am m (ls.drop at_)=some x)(hm:m ≠ []):at_<ls.length:=by
 by_cases hc:at_<ls.length
 ·exact hc
 ·rw[List.drop_eq_nil_of_le (by omega)] at h
  unfold am ah at h
  rw[if_pos (by unfold X8;rw[if_neg (by unfold Lib.hasPrefix;cases m with|nil=>exact absurd rfl hm|cons a b=>simp)])] at h
  cases h
set_option maxHeartbeats 1000000 in
theorem Yo(L:Laid w0.w){text:Ln}(ht:text.length≤4194304)(hR:∀w,na text w→R w []):
  C1.n22 (C1.X w0 0) w0 0 R (pS (W6 text) false) text (.ptr 0 0) (.ptr 1 0) Oj (.arr 2 (W6 text).length 0 (W6 text).length):=by
 obtain ⟨o1,o2,o3⟩:=Oz text
 have e1:na text=na text:=rfl
 have hn1:=fun h=>hR _ (na.name1 ht h)
 have hn2:=fun a h h'=>hR _ (na.name2 (a:=a) ht h h')
 have hbad:=fun a b line err h h' h2=>hR _ (na.bad (a:=a) (b:=b) (line:=line) (err:=err) ht h h' h2)
 have hgood:=fun a b hs at_ h h' h2=>hR _ (na.good (a:=a) (b:=b) (hs:=hs) (at_:=at_) ht h h' h2)
 clear hR e1
 generalize W6 text=ls at *
 refine C1.n22_in ?_
 rw[C1.b22_eq]
 repeat ((with_reducible first|apply A0|apply wI|apply wT|apply wP|apply wS|apply wB);exact rfl)
 refine ⟨rfl,?_⟩
 refine A1.freezeCell (id:=2) (id2:=3) (es:=1) (n:=ls.length) (xs:=ls.map PV.str) (fz:=false) (pre:=[]) (post:=[.pv (.int .i64 0)]) rfl rfl (List.length_map _).symm ?_
 refine xe L (σ:=pS ls true ++ [rdC ls 0]) (id:=3) (at_:=0) rfl (by omega) (by omega) (fun l hl=>Nat.le_trans (o3 l hl) (by omega)) ?_
 rw[List.drop_zero]
 generalize h1:am [42,42,42,32] ls=n1
 obtain ⟨p,s,b,a1,a2,b1,b2⟩:=Sg n1
 rw[a1,a2]
 repeat ((with_reducible first|apply A0|apply wI|apply wT|apply wP|apply wS|apply wB);exact rfl)
 rw[E3]
 refine A7 (fun gb=>?_) (fun gb=>?_)
 rotate_left
 ·have hn:=b2 gb
  rw[hn,Tt]
  repeat ((with_reducible first|apply A0|apply wI|apply wT|apply wP|apply wS|apply wB);exact rfl)
  refine lz L ?_
  repeat ((with_reducible first|apply A0|apply wI|apply wT|apply wP|apply wS|apply wB);exact rfl)
  exact U9 (σ:=[]) (r':=zg 1 110) O3 rfl rfl (hn1 (by rw[h1,hn]))
 rw[b1 gb] at h1
 rw[b1 gb,Tt]
 have hlt0:=La (at_:=0) (ls:=ls) h1 (by simp)
 refine xe L (σ:=pS ls true ++ [rdC ls 1,nmX p s,nmX p s]) (id:=3) (at_:=1) rfl (by omega) (by omega) (fun l hl=>Nat.le_trans (o3 l hl) (by omega)) ?_
 generalize h2:am [45,45,45,32] (ls.drop 1)=n2
 obtain ⟨p',s',b',a1',a2',b1',b2'⟩:=Sg n2
 rw[a1',a2']
 repeat ((with_reducible first|apply A0|apply wI|apply wT|apply wP|apply wS|apply wB);exact rfl)
 rw[E3]
 refine A7 (fun gb=>?_) (fun gb=>?_)
 rotate_left
 ·have hn:=b2' gb
  rw[hn,Tt]
  repeat ((with_reducible first|apply A0|apply wI|apply wT|apply wP|apply wS|apply wB);exact rfl)
  refine lz L ?_
  repeat ((with_reducible first|apply A0|apply wI|apply wT|apply wP|apply wS|apply wB);exact rfl)
  exact U9 (σ:=[]) (r':=zg 2 110) O3 rfl rfl (hn2 _ h1 (by rw[h2,hn]))
 rw[b1' gb] at h2
 rw[b1' gb,Tt]
 have hlt1:=La (at_:=1) (ls:=ls) h2 (by simp)
 show C1.n48 (C1.X w0 0) w0 0 R [nmX [] [],nmX [] [],.arr 1 (ls.map PV.str) true,rdC ls 2,nmX p s,nmX p s,nmX p' s',nmX p' s'] text (.ptr 0 0) (.ptr 1 0) Oj (.ptr 3 0) (.ptr 5 0) (.ptr 7 0) .nilsl
 refine C1.n48_weak (text':=text) (t2':=.ptr 0 0) (t3':=.ptr 1 0) (bad':=Oj) (r':=.ptr 3 0) (old':=.ptr 5 0) (fresh':=.ptr 7 0) (out':=.arr 8 0 0 0) (τ:=cS ls 2 p s p' s' []) (M5.nil (t:=15) (es:=6) rfl rfl) ?_
 exact Al L (by omega) (fun l hl=>Nat.le_trans (o3 l hl) (by omega)) (by omega) (ls.length+1) 2 [] (by omega) (by omega) (by simp) (fun line err hr=>hbad _ _ _ _ h1 h2 hr) (fun hs at' hr=>hgood _ _ _ _ h1 h2 hr)
theorem Kk{id es ver i:Nat}{xs:List PV}{fz:Bool}{l:Ln}(ho:σ[id]? = some (.arr es xs fz))(hv:xs.length=ver)(hi:xs[i]? = some (.str l)):A4 σ ti9 (.eptr id ver i 0)=some (.pv (.str l)):=by
 simp only[A4,ho,if_pos hv,hi]
 rfl
theorem Tm{id es ver i:Nat}{xs:List PV}{l l':Ln}(ho:σ[id]? = some (.arr es xs false))(hv:xs.length=ver)(hi:xs[i]? = some (.str l)):C3 σ ti9 (.eptr id ver i 0) (.pv (.str l'))=some (σ.set id (.arr es (xs.set i (.str l')) false)):=by
 show (if 1=1∧true=true then (match σ[id]?,some [PV.str l'] with
   | some (.arr es xs false),some ps=>
    if xs.length=ver then match xs[i]? with
     | some (.agg cs)=>if 0+ps.length≤cs.length then some (σ.set id (.arr es (xs.set i (.agg (T1 cs 0 ps))) false)) else none
     | some _=>match ps with
      | [q]=>if 0=0 then some (σ.set id (.arr es (xs.set i q) false)) else none
      | _=>none
     | none=>none
    else none
   | _,_=>none) else none)=_
 rw[if_pos ⟨rfl,rfl⟩,ho]
 simp only[if_pos hv,hi]
 rfl
theorem Il(L:Laid w0.w){text:Ln}(hx:text.length≤4611686018427387904)(hR:∀w,na text w→R w σ):A1 (cx w0) C1.id [.pv (.str text)] σ R:=by
 refine A1.some_of (P:=na text) L rfl (fun w1 L1=>?_) (fun r h=>h.under) hR
 refine C1.calls ?_
 show C1.b0 (C1.X w1 0) w1 0 (fun r' _=>na text r') [] text
 rw[C1.b0_eq,A8]
 refine B6 (fun g=>?_) (fun g=>?_)
 ·repeat ((with_reducible first|apply A0|apply wI|apply wT|apply wP|apply wS|apply wB);exact rfl)
  refine lz L1 ?_
  repeat ((with_reducible first|apply A0|apply wI|apply wT|apply wP|apply wS|apply wB);exact rfl)
  exact U9 (σ:=[]) (r':=zg 0 2) O3 rfl rfl (.big (by omega))
 ·refine Kv (by omega) ?_
  have ht:text.length≤4194304:=by omega
  have key:=Yo (R:=fun r' _=>na text r') L1 ht (fun w h=>h)
  have hsl:(M7 text).length≤text.length:=by
   have h1:=congrArg List.length (dc text)
   have h2:=Dn (lu text)
   omega
  repeat ((with_reducible first|apply A0|apply wI|apply wT|apply wP|apply wS|apply wB);exact rfl)
  rw[A8]
  refine B6 (fun g2=>?_) (fun g2=>?_)
  ·obtain ⟨q,l,e⟩:∃q l,M7 text=q ++ [l]:=by
    rcases List.eq_nil_or_concat (M7 text) with e|⟨q,l,e⟩
    ·rw[e] at g2;exact absurd g2 (by decide)
    ·exact ⟨q,l,by rw[e,List.concat_eq_append]⟩
   have hll:l.length≤text.length:=by
    have h1:=congrArg List.length (dc text)
    rw[e] at h1
    simp only[List.flatten_append,List.flatten_cons,List.flatten_nil,List.length_append,List.append_nil] at h1
    omega
   have hlc:W6 text=if L6 l=true then q ++ [l] else q ++ [l ++ [10]]:=by
    unfold W6 Dl
    rw[e,List.getLast?_append,List.getLast?_singleton,Option.some_or]
    simp only[List.dropLast_concat]
   rw[e] at hsl ⊢
   have hql:(q ++ [l]).length=q.length+1:=by simp
   have hget:((q ++ [l]).map PV.str)[q.length]? = some (.str l):=by simp
   have wl:IntKind.wrap .i64 ((((q ++ [l]).length:Nat):Int)-1)=(q.length:Int):=by rw[hql,F8 (by omega) (by omega)];omega
   rw[wl]
   refine A0 (nc (id:=2) (xs:=(q ++ [l]).map PV.str) ny rfl (by omega) rfl (List.length_map _)) ?_
   rw[Nat.zero_add]
   refine A0 (Kk (id:=2) (xs:=(q ++ [l]).map PV.str) rfl (List.length_map _) hget) (K9 ?_)
   refine ik (by omega) (F0 ?_)
   generalize ht1:(!L6 l)=t
   refine C1.n19_in ?_
   rw[C1.b19_eq]
   refine A7 (fun gt=>?_) (fun gt=>?_)
   ·rw[wl]
    refine A0 (nc (id:=2) (xs:=(q ++ [l]).map PV.str) ny rfl (by omega) rfl (List.length_map _)) ?_
    rw[Nat.zero_add]
    refine A0 (Kk (id:=2) (xs:=(q ++ [l]).map PV.str) rfl (List.length_map _) hget) (K9 ?_)
    refine ⟨by simp only[List.length_singleton];omega,?_⟩
    refine A0 (nc (id:=2) (xs:=(q ++ [l]).map PV.str) ny rfl (by omega) rfl (List.length_map _)) ?_
    rw[Nat.zero_add]
    refine A0 (Tm (id:=2) (xs:=(q ++ [l]).map PV.str) rfl (List.length_map _) hget) ?_
    have hw:¬L6 l=true:=by rw[gt] at ht1;simpa using ht1
    rw[if_neg hw] at hlc
    rw[hlc] at key
    have e3:((q ++ [l]).map PV.str).set q.length (PV.str (l ++ [10]))=(q ++ [l ++ [10]]).map PV.str:=by simp
    rw[e3]
    have e4:(q ++ [l]).length=(q ++ [l ++ [10]]).length:=by simp
    rw[e4]
    exact key
   ·have hw:L6 l=true:=by rw[gt] at ht1;simpa using ht1
    rw[if_pos hw] at hlc
    rw[hlc] at key
    exact key
  ·have hnil:M7 text = []:=by
    cases h:M7 text with
    | nil=>rfl
    | cons x y=>rw[h] at g2;exact absurd g2 (by simp only[List.length_cons];omega)
   have hlc:W6 text = []:=by unfold W6 Dl;rw[hnil];rfl
   rw[hlc] at key
   rw[hnil]
   generalize hb:false=b
   refine C1.n19_in ?_
   rw[C1.b19_eq]
   refine A7 (fun gt=>by rw[← hb] at gt;cases gt) (fun gt=>?_)
   subst hb
   exact key
end
end Go.Sv
end
section
namespace Go.Sv
theorem Qp{α:Type}{xs:List α}{k:Nat}{c:α}(h:xs[k]? = some c):xs.drop k=c::xs.drop (k+1):=by
 have hlt:=(List.getElem?_eq_some_iff.1 h).1
 rw[List.drop_eq_getElem_cons hlt]
 rw[List.getElem?_eq_getElem hlt] at h
 cases h;rfl
def W3:List Row→Nat
 | []=>0
 | r::l=>if r.k=1 then 0 else W3 l+1
def Q5(k:Int):List Row→Bool
 | []=>false
 | r::l=>if r.k=1 then false else (r.k==k)||Q5 k l
def V2(o f:Bool)(k:Int):UInt8:=if (o&&f)=true then 33 else if k=2 then 45 else 43
def O8:Nat→List Row→List UInt8
 | 0,_=>[]
 | _+1,[]=>[]
 | n+1,r::l=>if r.k=1 then 32::O8 n l else ((r::l).take (W3 (r::l))).map (fun x=>V2 (Q5 2 (r::l)) (Q5 3 (r::l)) x.k)++O8 n ((r::l).drop (W3 (r::l)))
def vq(l:List Row):Nat→Nat
 | 0=>0
 | i+1=>match l[i]? with
  | some r=>if r.k=1 then i+1 else vq l i
  | none=>i+1
def Zc(l:List Row)(i:Nat):Bool:=Q5 2 (l.drop (vq l i))&&Q5 3 (l.drop (vq l i))
def Bo(l:List Row)(i:Nat)(k:Int):UInt8:=if k=1 then 32 else V2 (Zc l i) true k
theorem zu:∀l:List Row,W3 l≤l.length
 | []=>Nat.le_refl _
 | r::l=>by
  have:=zu l
  unfold W3;split
  ·omega
  ·simp only[List.length_cons];omega
theorem zv:∀(l:List Row) (i:Nat) (r:Row),i<W3 l→l[i]? = some r→r.k≠1
 | [],i,r,h,_=>by simp[W3] at h
 | x::l,i,r,h,hr=>by
  unfold W3 at h
  split at h
  ·omega
  ·rename_i hx
   cases i with
   | zero=>simp at hr;subst hr;exact hx
   | succ i=>exact zv l i r (by omega) (by simpa using hr)
theorem wt:∀(l:List Row),l.drop (W3 l) = [] ∨ ∃r q,l.drop (W3 l)=r::q∧r.k=1
 | []=>.inl rfl
 | x::l=>by
  unfold W3
  split
  ·rename_i h;exact .inr ⟨x,l,rfl,h⟩
  ·exact wt l
theorem Gw(pre l:List Row)(hp:pre = [] ∨ ∃q x,pre=q ++ [x]∧x.k=1):∀i,i≤W3 l→vq (pre++l) (pre.length+i)=pre.length
 | 0,_=>by
  rcases hp with rfl|⟨q,x,rfl,hx⟩
  ·rfl
  ·have e:(q ++ [x]).length+0=q.length+1:=by simp
   rw[e,vq]
   have:((q ++ [x])++l)[q.length]? = some x:=by simp
   rw[this]
   simp[hx]
 | i+1,h=>by
  have hle:=zu l
  have hil:i<l.length:=by omega
  have e:pre.length+(i+1)=(pre.length+i)+1:=by omega
  rw[e,vq]
  have hg:(pre++l)[pre.length+i]? = some l[i]:=by
   rw[List.getElem?_append_right (by omega)]
   simp[hil]
  rw[hg]
  have hk:=zv l i l[i] (by omega) (List.getElem?_eq_getElem hil)
  simp only[hk,if_false]
  exact Gw pre l hp i (by omega)
theorem pu:∀(n:Nat) (pre l:List Row),l.length≤n→(pre = []∨(∃ q x,pre=q ++ [x]∧x.k=1)∨l = [] ∨ ∃r q,l=r::q∧r.k=1) →
  (O8 n l).length=l.length ∧ ∀i r,l[i]? = some r→(O8 n l)[i]? = some (Bo (pre++l) (pre.length+i) r.k)
 | 0,pre,l,h,_=>by
  have:l = []:=List.length_eq_zero_iff.1 (by omega)
  subst this
  exact ⟨rfl,fun i r h=>by simp at h⟩
 | n+1,pre,[],_,_=>⟨rfl,fun i r h=>by simp at h⟩
 | n+1,pre,x::l,h,hp=>by
  simp only[List.length_cons] at h
  by_cases hx:x.k=1
  ·obtain ⟨h1,h2⟩:=pu n (pre ++ [x]) l (by omega) (.inr (.inl ⟨pre,x,rfl,hx⟩))
   rw[O8,if_pos hx]
   refine ⟨by simp[h1],fun i r hr=>?_⟩
   cases i with
   | zero=>
    simp at hr;subst hr
    simp[Bo,hx]
   | succ i=>
    have:=h2 i r (by simpa using hr)
    rw[List.getElem?_cons_succ,this]
    simp only[List.append_assoc,List.singleton_append,List.length_append,List.length_singleton]
    rw[show pre.length+1+i=pre.length+(i+1) by omega]
  ·have hp':pre = [] ∨ ∃q y,pre=q ++ [y]∧y.k=1:=by
    rcases hp with h|h|h|⟨r,q,h,hr⟩
    ·exact .inl h
    ·exact .inr h
    ·cases h
    ·cases h;exact absurd hr hx
   have hN:=zu (x::l)
   have hpos:0<W3 (x::l):=by unfold W3;rw[if_neg hx];omega
   generalize hk:W3 (x::l)=k at hN hpos
   have hs:=wt (x::l)
   rw[hk] at hs
   have hdl:((x::l).drop k).length≤n:=by rw[List.length_drop,List.length_cons];omega
   obtain ⟨h1,h2⟩:=pu n (pre++(x::l).take k) ((x::l).drop k) hdl (.inr (.inr hs))
   rw[O8,if_neg hx,hk]
   simp only[List.length_cons] at hN
   refine ⟨by rw[List.length_append,List.length_map,h1,←List.length_append,List.take_append_drop],fun i r hr=>?_⟩
   by_cases hi:i<k
   ·rw[List.getElem?_append_left (by rw[List.length_map,List.length_take,List.length_cons];omega),List.getElem?_map,List.getElem?_take,if_pos hi,hr]
    have hrk:=zv (x::l) i r (by omega) hr
    have hst:=Gw pre (x::l) hp' i (by omega)
    simp only[Option.map_some,Bo,hrk,if_false,Option.some.injEq,Zc,hst,V2,Bool.and_true]
    simp
   ·rw[List.getElem?_append_right (by rw[List.length_map,List.length_take,List.length_cons];omega),List.length_map,List.length_take,List.length_cons]
    have e:min k (l.length+1)=k:=by omega
    rw[e]
    have:=h2 (i-k) r (by rw[List.getElem?_drop,show k+(i-k)=i by omega];exact hr)
    rw[this]
    congr 1
    rw[List.append_assoc,List.take_append_drop,List.length_append,List.length_take,List.length_cons,e]
    rw[show pre.length+k+(i-k)=pre.length+i by omega]
def jm(kd:Int):List Row→List UInt8→List UInt8
 | r::l,c::m=>(if r.k=1∨r.k=kd then c::32::cy r.t else [])++jm kd l m
 | _,_=>[]
def ee(kd:Int)(l:List Row):Bool:=l.any (fun r=>r.k==kd)
def Bg(kd:Int)(l:List Row)(m:List UInt8):List UInt8:=if ee kd l=true then jm kd l m else []
end Go.Sv
end
