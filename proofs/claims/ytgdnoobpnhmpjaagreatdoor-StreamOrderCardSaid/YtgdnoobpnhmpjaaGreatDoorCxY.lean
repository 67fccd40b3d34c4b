/- What the code of package context answers where it reads: a whole diff. What the code of package context answers where it reads: a text. -/
import Derived.Test.YtgdnoobpnhmpjaaGreatDoorCxQa
set_option linter.unusedVariables false
set_option linter.unusedSimpArgs false
set_option maxRecDepth 100000
section
namespace Go.Sv.U
abbrev stars:Ln:=[42,42,42,42,42,42,42,42,42,42,42,42,42,42,42]
def gn(s:Ln):Bool:=(W1 s stars).2&&(match (W1 s stars).1 with| []=>true|c::_=>c==32)
theorem headC_len{s:Ln}(h:gn s=true):15≤s.length:=by
 unfold gn at h
 rw[Bool.and_eq_true] at h
 have h1:=h.1
 unfold W1 at h1
 split at h1
 ·rename_i hp
  unfold Lib.hasPrefix at hp
  have:=(List.isPrefixOf_iff_prefix.1 hp).length_le
  simpa using this
 ·cases h1
inductive li(ls:List Ln):Nat→List Hnk→Int→Int→Option (List Hnk×Nat)→Prop
 | stop {at_:Nat} {acc:List Hnk} (h:gn (Y5 (ls.drop at_)).1=false) (hne:acc ≠ []):li ls at_ acc 0 0 (some (acc,at_))
 | none {at_:Nat} (h:gn (Y5 (ls.drop at_)).1=false):li ls at_ [] (Go.IntKind.wrap .i64 ((at_:Int)+1)) 100 none
 | bad {at_:Nat} {acc:List Hnk} {line err:Int} (h:gn (Y5 (ls.drop at_)).1=true) (hh:jh ls at_ line err none):li ls at_ acc (Go.IntKind.wrap .i64 (line+1)) err none
 | order {at_ at':Nat} {acc:List Hnk} {line:Int} {g x:Hnk} (h:gn (Y5 (ls.drop at_)).1=true) (hh:jh ls at_ line 0 (some (x,at'))) (ho:acc.getLast? = some g) (hb:dx g x=false):li ls at_ acc (Go.IntKind.wrap .i64 (line+1)) 112 none
 | step {at_ at':Nat} {acc:List Hnk} {line l2 err:Int} {x:Hnk} {o:Option (List Hnk×Nat)} (h:gn (Y5 (ls.drop at_)).1=true) (hh:jh ls at_ line 0 (some (x,at'))) (ho:∀g,acc.getLast? = some g→dx g x=true) (hr:li ls at' (acc ++ [x]) l2 err o):li ls at_ acc l2 err o
theorem vx{ls:List Ln}{first:Nat}{line err:Int}{o:Option (Hnk×Nat)}{T:Nat}(hT:∀l∈ls,l.length≤T)(h:jh ls first line err o):∀x at',o=some (x,at')→first<at'∧at'≤ls.length:=by
 intro x at' e
 cases h with
 | noOld=>cases e
 | noNew=>cases e
 | noTog=>cases e
 | @tog old fresh at2 at3 rows ho h2 hle h3 h4 h5 hle3 head hh=>
  split at e
  ·injection e with e
   injection e with _ e
   subst e
   obtain ⟨_,_,q,hq⟩:=ej (kind:=45) (most:=(ls.length:Int)) (T:=T) (ls.drop (first+2)) [] false (fun l hl=>hT l (List.mem_of_mem_drop hl)) (by simp)
   obtain ⟨_,_,q2,hq2⟩:=ej (kind:=43) (most:=fresh.count) (T:=T) (ls.drop (at2+1)) [] false (fun l hl=>hT l (List.mem_of_mem_drop hl)) (by simp)
   have l1:=congrArg List.length hq
   have l2:=congrArg List.length hq2
   have l3:=congrArg List.length h2
   have l4:=congrArg List.length h5
   simp only[List.length_append,List.length_drop] at l1 l2 l3 l4
   have hf1:first+2≤ls.length:=by
    by_cases hc:first+2≤ls.length
    ·exact hc
    ·rw[List.drop_eq_nil_of_le (by omega)] at ho;cases ho
   have hf2:at2+1≤ls.length:=by
    by_cases hc:at2+1≤ls.length
    ·exact hc
    ·rw[List.drop_eq_nil_of_le (by omega)] at h3;cases h3
   exact ⟨by omega,hle3⟩
  ·cases e
section
open Go Go.RowKit Go.Proofs
variable {w0:B4}{σ:A1}{R:AV→A1→Prop}
variable {ls:List Ln}{text p s p' s':Ln}
theorem ends_seal{S:A1}{a b c d e:PV}{n:Nat}{xs:List PV}(h:S[8]? = some (.arr 6 xs false))(hn:xs.length=n):bp 0 S (.tup [.pv a,.pv b,.arr 8 n 0 n,.pv c,.pv d,.pv e])=some (.tup [.pv a,.pv b,.pv (.sl xs),.pv c,.pv d,.pv e]):=by
 have e2:kq 0 S (.arr 8 n 0 n)=some (.pv (.sl xs)):=by
  show gd 0 S (.arr 8 n 0 n)=_
  simp only[gd,h]
  rw[if_pos ⟨hn,by omega⟩]
  simp[← hn]
 simp only[bp,ii,e2]
 rfl
abbrev vBad:AV:=.pv (.raw (.func (.func 62) #[] #[]))
abbrev goodA(text p s p' s':Ln)(hs:List Hnk)(n:Nat):AV:=.tup [.pv (nmP p s),.pv (nmP p' s'),.pv (.sl (hs.map O2)),.pv (.str (text.drop (min text.length n))),.pv (.int .i64 0),.pv (.raw .nilIface)]
theorem parse108{at_ n:Nat}{hs:List Hnk}(hR:R (goodA text p s p' s' hs n) []):
  C6.n108 (C6.X w0 0) w0 0 R (cS ls at_ p s p' s' hs) text (.ptr 0 0) (.ptr 1 0) (.ptr 5 0) (.ptr 7 0) (.arr 8 hs.length 0 hs.length) (n:Int):=by
 refine C6.n108_in ?_
 rw[C6.b108_eq]
 have e:(if ((List.length text:Nat):Int)<(n:Int) then ((List.length text:Nat):Int) else (n:Int))=((min text.length n:Nat):Int):=by split<;>omega
 rw[e]
 have hle:min text.length n≤text.length:=Nat.min_le_left _ _
 repeat ((with_reducible first|apply A0|apply wI|apply wT|apply wP|apply wS|apply wB);exact rfl)
 refine A0 (F5 hle) (F4 ?_)
 repeat ((with_reducible first|apply A0|apply wI|apply wT|apply wP|apply wS|apply wB);exact rfl)
 refine ⟨rfl,A0 (F5 hle) rfl,?_⟩
 repeat ((with_reducible first|apply A0|apply wI|apply wT|apply wP|apply wS|apply wB);exact rfl)
 refine ⟨A0 (F5 hle) rfl,A0 (F5 hle) rfl,?_⟩
 repeat ((with_reducible first|apply A0|apply wI|apply wT|apply wP|apply wS|apply wB);exact rfl)
 exact N1 (σ:=[]) L5 rfl (ends_seal rfl (List.length_map _)) hR
theorem sum_loop{at_:Nat}{hs:List Hnk}{pl:List Ln}(hs1:pl.flatten.length≤1099511627776)(hs2:pl.length≤1099511627776)(hR:R (goodA text p s p' s' hs pl.flatten.length) []):∀(r:List Ln) (k n:Nat),pl.drop k=r→n+r.flatten.length=pl.flatten.length →
  C6.n95 (C6.X w0 0) w0 0 R (cS ls at_ p s p' s' hs) text (.ptr 0 0) (.ptr 1 0) (.ptr 5 0) (.ptr 7 0) (.arr 8 hs.length 0 hs.length) (n:Int) (.pv (.sl (pl.map PV.str))) pl.length k
 | [],k,n,hd,hn=>by
  have hk:=X7 hd
  refine C6.n95_in ?_
  rw[C6.b96_eq,B0,if_neg (by omega)]
  have:n=pl.flatten.length:=by simpa using hn
  rw[this]
  exact parse108 hR
 | l::r,k,n,hd,hn=>by
  obtain ⟨h1,h2,hk⟩:=Q6 hd
  rw[List.flatten_cons,List.length_append] at hn
  refine C6.n95_in ?_
  rw[C6.b96_eq,B0,if_pos (by omega)]
  refine A0 (T6 ju (ln_get' h1) rfl) ?_
  repeat ((with_reducible first|apply A0|apply wI|apply wT|apply wP|apply wS|apply wB);exact rfl)
  rw[K6 hk (by omega),D8 (n:=(n:Int)+(l.length:Int)) (by omega) (by omega),show (n:Int)+(l.length:Int)=((n+l.length:Nat):Int) by omega]
  exact sum_loop hs1 hs2 hR r (k+1) (n+l.length) h2 (by omega)
theorem load_elem12{ti:TI}{id es ver i:Nat}{xs:List PV}{fz:Bool}{cs:List PV}(ho:σ[id]? = some (.arr es xs fz))(hv:xs.length=ver)(hi:xs[i]? = some (.agg cs))(ha:ti.td.isAgg=true)(hs:cs.length=ti.size):A6 σ ti (.eptr id ver i 0)=some (.pv (.agg cs)):=by
 simp only[A6,ho,if_pos hv,hi,ga,ha,hs,and_self,if_true,Option.map_some]
theorem strs_sized1:∀l:List Ln,X6 1 (l.map PV.str)=true:=by
 intro l
 induction l with
 | nil=>rfl
 | cons c r ih=>exact ih
theorem lns_take{k:Nat}(h:k≤ls.length):G7 σ B3 J7.td (.pv (im ls)) none (some (.pv (.int .i64 (k:Int))))=some (.pv (.sl ((ls.take k).map PV.str))):=by
 show (if (0:Int)≤0∧(0:Int)≤(k:Int)∧(k:Int)≤(((ls.map PV.str).length:Nat):Int) then (if X6 1 (ls.map PV.str)=true then some (AV.pv (.sl (((ls.map PV.str).take (k:Int).toNat).drop (0:Int).toNat))) else none) else none)=_
 rw[if_pos (by rw[List.length_map];omega),if_pos (strs_sized1 ls)]
 simp[List.map_take]
theorem parse81(L:Laid w0.w){at_:Nat}{hs:List Hnk}(hl:ls.length≤8388606)(hf:ls.flatten.length≤1099511627776)(hat:at_≤ls.length)
  (hbad:hs = []→R (uz (IntKind.wrap .i64 ((at_:Int)+1)) 100) [])
  (hgood:hs ≠ []→R (goodA text p s p' s' hs (ls.take at_).flatten.length) []):
  C6.n81 (C6.X w0 0) w0 0 R (cS ls at_ p s p' s' hs) text (.ptr 0 0) (.ptr 1 0) vBad (.ptr 3 0) (.ptr 5 0) (.ptr 7 0) (.arr 8 hs.length 0 hs.length):=by
 refine C6.n81_in ?_
 rw[C6.b81_eq]
 repeat ((with_reducible first|apply A0|apply wI|apply wT|apply wP|apply wS|apply wB);exact rfl)
 rw[G6]
 refine B5 (fun g=>?_) (fun g=>?_)
 ·repeat ((with_reducible first|apply A0|apply wI|apply wT|apply wP|apply wS|apply wB);exact rfl)
  refine jg L rfl ?_
  repeat ((with_reducible first|apply A0|apply wI|apply wT|apply wP|apply wS|apply wB);exact rfl)
  exact N1 (σ:=[]) (r':=uz (IntKind.wrap .i64 ((at_:Int)+1)) 100) L5 rfl rfl (hbad (List.length_eq_zero_iff.1 (by omega)))
 ·repeat ((with_reducible first|apply A0|apply wI|apply wT|apply wP|apply wS|apply wB);exact rfl)
  refine A0 (lns_take hat) ?_
  repeat ((with_reducible first|apply A0|apply wI|apply wT|apply wP|apply wS|apply wB);exact rfl)
  rw[List.length_map]
  have hfl:(ls.take at_).flatten.length≤ls.flatten.length:=by
   have:=congrArg (fun x:List Ln=>x.flatten.length) (List.take_append_drop at_ ls)
   simp only[List.flatten_append,List.length_append] at this
   omega
  exact sum_loop (pl:=ls.take at_) (by omega) (by rw[List.length_take];omega) (hgood fun e=>g (by rw[e];rfl)) (ls.take at_) 0 0 rfl (by omega)
set_option maxHeartbeats 1000000 in
theorem parse_loop(L:Laid w0.w)(hl:ls.length≤8388606)(hx:∀l∈ls,l.length≤8388608)(hf:ls.flatten.length≤1099511627776):∀(f at_:Nat) (acc:List Hnk),ls.length-at_<f→at_≤ls.length→acc.length≤at_ →
  (∀ line err,li ls at_ acc line err none→R (uz line err) []) →
  (∀ hs at',li ls at_ acc 0 0 (some (hs,at'))→R (goodA text p s p' s' hs (ls.take at').flatten.length) []) →
  C6.n48 (C6.X w0 0) w0 0 R (cS ls at_ p s p' s' acc) text (.ptr 0 0) (.ptr 1 0) vBad (.ptr 3 0) (.ptr 5 0) (.ptr 7 0) (.arr 8 acc.length 0 acc.length)
 | 0,at_,acc,h,_,_,_,_=>absurd h (Nat.not_lt_zero _)
 | f+1,at_,acc,hfu,hat,hacc,hbad,hgood=>by
  have hnl:(Y5 (ls.drop at_)).1.length≤8388608:=qb (fun l h=>hx l (List.mem_of_mem_drop h))
  have h57:∀t,t = !gn (Y5 (ls.drop at_)).1→C6.n57 (C6.X w0 0) w0 0 R (cS ls at_ p s p' s' acc) text (.ptr 0 0) (.ptr 1 0) vBad (.ptr 3 0) (.ptr 5 0) (.ptr 7 0) (.arr 8 acc.length 0 acc.length) t:=by
   intro t ht
   refine C6.n57_in ?_
   rw[C6.b57_eq]
   refine A4 (fun g=>?_) (fun g=>?_)
   ·have hh:gn (Y5 (ls.drop at_)).1=false:=by rw[g] at ht;simpa using ht.symm
    refine parse81 L hl hf hat (fun e=>hbad _ _ (by rw[e];exact .none hh)) (fun hne=>hgood _ _ (.stop hh hne))
   ·have hh:gn (Y5 (ls.drop at_)).1=true:=by rw[g] at ht;simpa using ht.symm
    have hlt:at_<ls.length:=by
     by_cases hc:at_<ls.length
     ·exact hc
     ·rw[List.drop_eq_nil_of_le (by omega)] at hh;cases hh
    have h75:∀(x:Hnk) (line:Int) (at':Nat) (t:Bool),jh ls at_ line 0 (some (x,at'))→(t=true → ∃g,acc.getLast? = some g∧dx g x=false)→(t=false → ∀g,acc.getLast? = some g→dx g x=true) →
      C6.n75 (C6.X w0 0) w0 0 R (cS ls at' p s p' s' acc ++ [hC1 x.a x.n x.b x.m x.head x.rows]) text (.ptr 0 0) (.ptr 1 0) vBad (.ptr 3 0) (.ptr 5 0) (.ptr 7 0) (.arr 8 acc.length 0 acc.length) (.ptr 9 0) line t:=by
     intro x line at' t hC ht1 ht2
     obtain ⟨s1,s2⟩:=vx hx hC x at' rfl
     refine C6.n75_in ?_
     rw[C6.b75_eq]
     refine A4 (fun gt=>?_) (fun gt=>?_)
     ·obtain ⟨g0,hg1,hg2⟩:=ht1 gt
      repeat ((with_reducible first|apply A0|apply wI|apply wT|apply wP|apply wS|apply wB);exact rfl)
      refine jg L rfl ?_
      repeat ((with_reducible first|apply A0|apply wI|apply wT|apply wP|apply wS|apply wB);exact rfl)
      exact N1 (σ:=[]) (r':=uz (IntKind.wrap .i64 (line+1)) 112) L5 rfl rfl (hbad _ _ (.order hh hC hg1 hg2))
     ·repeat ((with_reducible first|apply A0|apply wI|apply wT|apply wP|apply wS|apply wB);exact rfl)
      refine J5 (v:=.pv (.sl [O2 x])) rfl ?_
      refine J5 (W9 (id:=8) (es:=6) (ver:=acc.length) (xs:=acc.map O2) (ys:=[O2 x]) rfl rfl (List.length_map _).symm rfl rfl ⟨by rw[List.length_map];show acc.length+1≤_;omega,by rw[List.length_map];show (acc.length+1)*72≤_;omega⟩) ?_
      have e:acc.map O2 ++ [O2 x]=(acc ++ [x]).map O2:=by simp
      have e2:(acc.map O2).length + [O2 x].length=(acc ++ [x]).length:=by simp
      rw[e,e2]
      refine C6.n48_weak (N2.drop (τ:=cS ls at' p s p' s' (acc ++ [x])) L5 (Nat.le_of_ble_eq_true rfl) rfl rfl) ?_
      exact parse_loop L hl hx hf f at' (acc ++ [x]) (by omega) s2 (by rw[List.length_append,List.length_singleton];omega) (fun l2 err hr=>hbad _ _ (.step hh hC (ht2 gt) hr)) (fun hs at2 hr=>hgood _ _ (.step hh hC (ht2 gt) hr))
    refine hunk_spec12 L hl hlt hx (headC_len hh) (fun line err h at' hC=>?_) (fun line x at' hC=>?_)
    ·repeat ((with_reducible first|apply A0|apply wI|apply wT|apply wP|apply wS|apply wB);exact rfl)
     rw[P2]
     refine A0 rfl (A0 (v:=false) rfl (E5 ?_))
     rw[Bool.not_false,D4]
     repeat ((with_reducible first|apply A0|apply wI|apply wT|apply wP|apply wS|apply wB);exact rfl)
     refine jg L rfl ?_
     repeat ((with_reducible first|apply A0|apply wI|apply wT|apply wP|apply wS|apply wB);exact rfl)
     exact N1 (σ:=[]) (r':=uz (IntKind.wrap .i64 (line+1)) err) L5 rfl rfl (hbad _ _ (.bad hh hC))
    ·repeat ((with_reducible first|apply A0|apply wI|apply wT|apply wP|apply wS|apply wB);exact rfl)
     rw[P2]
     refine A0 rfl (A0 (v:=true) rfl (E5 ?_))
     rw[Bool.not_true,C3]
     repeat ((with_reducible first|apply A0|apply wI|apply wT|apply wP|apply wS|apply wB);exact rfl)
     rw[B0]
     refine B5 (fun g2=>?_) (fun g2=>?_)
     ·obtain ⟨q,hq,rfl⟩:∃q hq,acc=q ++ [hq]:=by
       rcases List.eq_nil_or_concat acc with e|⟨q,hq,e⟩
       ·rw[e] at g2;exact absurd g2 (by decide)
       ·exact ⟨q,hq,by rw[e,List.concat_eq_append]⟩
      have hql:(q ++ [hq]).length=q.length+1:=by simp
      have hget:((q ++ [hq]).map O2)[q.length]? = some (O2 hq):=by simp
      have wl:IntKind.wrap .i64 ((((q ++ [hq]).length:Nat):Int)-1)=(q.length:Int):=by rw[hql,D8 (by omega) (by omega)];omega
      rw[wl]
      refine A0 (eh (id:=8) (xs:=(q ++ [hq]).map O2) tab46 rfl (by omega) rfl (List.length_map _)) ?_
      rw[Nat.zero_add]
      refine A0 (load_elem12 (id:=8) (xs:=(q ++ [hq]).map O2) rfl (List.length_map _) hget rfl rfl) ?_
      repeat ((with_reducible first|apply A0|apply wI|apply wT|apply wP|apply wS|apply wB);exact rfl)
      refine behind_spec L (g:=hq) (h:=x) (E5 ?_)
      have hgl:(q ++ [hq]).getLast? = some hq:=by simp
      refine h75 x line at' _ hC (fun e=>⟨hq,hgl,by simpa using e⟩) (fun e g hg=>?_)
      rw[hgl] at hg
      cases hg
      simpa using e
     ·have:acc = []:=by
       cases acc with
       | nil=>rfl
       | cons x y=>exact absurd g2 (by simp only[List.length_cons];omega)
      generalize hb:false=b
      refine h75 x line at' b hC (fun e=>by rw[← hb] at e;cases e) (fun e g hg=>by rw[this] at hg;cases hg)
  refine C6.n48_in ?_
  rw[C6.b49_eq]
  refine W3 (id:=3) (at_:=at_) rfl (by omega) hx ?_
  repeat ((with_reducible first|apply A0|apply wI|apply wT|apply wP|apply wS|apply wB);exact rfl)
  refine fg (by omega) ?_
  repeat ((with_reducible first|apply A0|apply wI|apply wT|apply wP|apply wS|apply wB);exact rfl)
  rw[E9]
  refine A4 (fun g=>?_) (fun g=>?_)
  ·rw[E9,Q8]
   refine B5 (fun g2=>?_) (fun g2=>?_)
   ·generalize hb:false=b
    refine h57 b ?_
    unfold gn
    rw[g,g2,←hb];rfl
   ·cases hc:(W1 (Y5 (ls.drop at_)).1 stars).1 with
    | nil=>exact absurd hc g2
    | cons c r=>
     refine A0 (M3 (k:=0) (c:=c) rfl) (G2 ?_)
     refine h57 _ ?_
     unfold gn
     rw[g,hc]
     simp only[Bool.true_and]
     rw[Bool.eq_iff_iff]
     simp only[bne_iff_ne,ne_eq,Bool.not_eq_true',beq_eq_false_iff_ne]
     rw[show ((32:Int))=((32:UInt8).toNat:Int) from rfl,vy]
  ·generalize hb:true=b
   refine h57 b ?_
   unfold gn
   rw[g,←hb];rfl
end
end Go.Sv.U
end
section
namespace Go.Sv.U
def wholeL(ls:List Ln):List Ln:=match ls.getLast? with
 | none=>ls
 | some l=>if P6 l=true then ls else ls.dropLast ++ [l ++ [10]]
def T2(text:Ln):List Ln:=wholeL (E4 text)
theorem qq{l:Ln}:∀{L:List Ln},l∈L→l.length≤L.flatten.length
 | x::L,h=>by
  rw[List.flatten_cons,List.length_append]
  rcases List.mem_cons.1 h with rfl|h
  ·omega
  ·have:=qq h;omega
theorem xb:∀{L:List Ln},(∀ l∈L,l ≠ [])→L.length≤L.flatten.length
 | [],_=>by simp
 | x::L,h=>by
  have h1:=List.length_pos_iff.2 (h x (by simp))
  have h2:=xb (L:=L) (fun l hl=>h l (List.mem_cons_of_mem _ hl))
  rw[List.flatten_cons,List.length_append,List.length_cons];omega
theorem linesC_out(text:Ln):(T2 text).flatten.length≤text.length+1∧(T2 text).length≤text.length ∧ ∀l∈T2 text,l.length≤text.length+1:=by
 have h1:=congrArg List.length (S4 text)
 have h2:=xb (cm text)
 have key:(T2 text).flatten.length≤text.length+1∧(T2 text).length=(E4 text).length:=by
  unfold T2 wholeL
  rcases List.eq_nil_or_concat (E4 text) with e|⟨q,w,e⟩
  ·rw[e];simp
  ·rw[List.concat_eq_append] at e
   rw[e] at h1 ⊢
   rw[List.getLast?_append,List.getLast?_singleton,Option.some_or]
   simp only
   split
   ·exact ⟨by omega,rfl⟩
   ·rw[List.dropLast_concat]
    simp only[List.flatten_append,List.flatten_cons,List.flatten_nil,List.length_append,List.length_singleton,List.append_nil] at h1 ⊢
    exact ⟨by omega,trivial⟩
 exact ⟨key.1,by omega,fun l hl=>Nat.le_trans (qq hl) key.1⟩
section
open Go Go.RowKit Go.Proofs
variable {w0:B4}{σ:A1}{R:AV→A1→Prop}
inductive jy(text:Ln):AV→Prop
 | big (h:4194304<text.length):jy text (uz 0 2)
 | name1 (h:text.length≤4194304) (h1:ac [42,42,42,32] (T2 text)=none):jy text (uz 1 110)
 | name2 {a:Ln×Ln} (h:text.length≤4194304) (h1:ac [42,42,42,32] (T2 text)=some a) (h2:ac [45,45,45,32] ((T2 text).drop 1)=none):jy text (uz 2 110)
 | bad {a b:Ln×Ln} {line err:Int} (h:text.length≤4194304) (h1:ac [42,42,42,32] (T2 text)=some a) (h2:ac [45,45,45,32] ((T2 text).drop 1)=some b) (hr:li (T2 text) 2 [] line err none):jy text (uz line err)
 | good {a b:Ln×Ln} {hs:List Hnk} {at_:Nat} (h:text.length≤4194304) (h1:ac [42,42,42,32] (T2 text)=some a) (h2:ac [45,45,45,32] ((T2 text).drop 1)=some b) (hr:li (T2 text) 2 [] 0 0 (some (hs,at_))):jy text (goodA text a.1 a.2 b.1 b.2 hs ((T2 text).take at_).flatten.length)
theorem jy.under{text:Ln}{w:AV}(h:jy text w):AV.under 0 w=true:=by cases h<;>rfl
theorem nms_two(o:Option (Ln×Ln)):∃(p s:Ln) (b:Bool),nmsA o = .tup [.pv (nmP p s),.pv (.bool b)]∧nmsCell o=nmX p s∧(b=true→o=some (p,s))∧(b=false→o=none):=by
 cases o with
 | none=>exact ⟨[],[],false,rfl,rfl,fun h=>(by cases h),fun _=>rfl⟩
 | some g=>exact ⟨g.1,g.2,true,rfl,rfl,fun _=>rfl,fun h=>(by cases h)⟩
abbrev pS(ls:List Ln)(fz:Bool):A1:=z2 ++ [.arr 1 (ls.map PV.str) fz]
theorem py{m:Ln}{ls:List Ln}{at_:Nat}{x:Ln×Ln}(h:ac m (ls.drop at_)=some x)(hm:m ≠ []):at_<ls.length:=by
 by_cases hc:at_<ls.length
 ·exact hc
 ·rw[List.drop_eq_nil_of_le (by omega)] at h
  unfold ac Y5 at h
  rw[if_pos (by unfold W1;rw[if_neg (by unfold Lib.hasPrefix;cases m with|nil=>exact absurd rfl hm|cons a b=>simp)])] at h
  cases h
set_option maxHeartbeats 1000000 in
theorem parse22(L:Laid w0.w){text:Ln}(ht:text.length≤4194304)(hR:∀w,jy text w→R w []):
  C6.n22 (C6.X w0 0) w0 0 R (pS (T2 text) false) text (.ptr 0 0) (.ptr 1 0) vBad (.arr 2 (T2 text).length 0 (T2 text).length):=by
 obtain ⟨o1,o2,o3⟩:=linesC_out text
 have e1:jy text=jy text:=rfl
 have hn1:=fun h=>hR _ (jy.name1 ht h)
 have hn2:=fun a h h'=>hR _ (jy.name2 (a:=a) ht h h')
 have hbad:=fun a b line err h h' h2=>hR _ (jy.bad (a:=a) (b:=b) (line:=line) (err:=err) ht h h' h2)
 have hgood:=fun a b hs at_ h h' h2=>hR _ (jy.good (a:=a) (b:=b) (hs:=hs) (at_:=at_) ht h h' h2)
 clear hR e1
 generalize T2 text=ls at *
 refine C6.n22_in ?_
 rw[C6.b22_eq]
 repeat ((with_reducible first|apply A0|apply wI|apply wT|apply wP|apply wS|apply wB);exact rfl)
 refine ⟨rfl,?_⟩
 refine A2.freezeCell (id:=2) (id2:=3) (es:=1) (n:=ls.length) (xs:=ls.map PV.str) (fz:=false) (pre:=[]) (post:=[.pv (.int .i64 0)]) rfl rfl (List.length_map _).symm ?_
 refine uj L (σ:=pS ls true ++ [rdC ls 0]) (id:=3) (at_:=0) rfl (by omega) (by omega) (fun l hl=>Nat.le_trans (o3 l hl) (by omega)) ?_
 rw[List.drop_zero]
 generalize h1:ac [42,42,42,32] ls=n1
 obtain ⟨p,s,b,a1,a2,b1,b2⟩:=nms_two n1
 rw[a1,a2]
 repeat ((with_reducible first|apply A0|apply wI|apply wT|apply wP|apply wS|apply wB);exact rfl)
 rw[E9]
 refine A4 (fun gb=>?_) (fun gb=>?_)
 rotate_left
 ·have hn:=b2 gb
  rw[hn,nmsN]
  repeat ((with_reducible first|apply A0|apply wI|apply wT|apply wP|apply wS|apply wB);exact rfl)
  refine jg L rfl ?_
  repeat ((with_reducible first|apply A0|apply wI|apply wT|apply wP|apply wS|apply wB);exact rfl)
  exact N1 (σ:=[]) (r':=uz 1 110) L5 rfl rfl (hn1 (by rw[h1,hn]))
 rw[b1 gb] at h1
 rw[b1 gb,nmsN]
 have hlt0:=py (at_:=0) (ls:=ls) h1 (by simp)
 refine uj L (σ:=pS ls true ++ [rdC ls 1,nmX p s,nmX p s]) (id:=3) (at_:=1) rfl (by omega) (by omega) (fun l hl=>Nat.le_trans (o3 l hl) (by omega)) ?_
 generalize h2:ac [45,45,45,32] (ls.drop 1)=n2
 obtain ⟨p',s',b',a1',a2',b1',b2'⟩:=nms_two n2
 rw[a1',a2']
 repeat ((with_reducible first|apply A0|apply wI|apply wT|apply wP|apply wS|apply wB);exact rfl)
 rw[E9]
 refine A4 (fun gb=>?_) (fun gb=>?_)
 rotate_left
 ·have hn:=b2' gb
  rw[hn,nmsN]
  repeat ((with_reducible first|apply A0|apply wI|apply wT|apply wP|apply wS|apply wB);exact rfl)
  refine jg L rfl ?_
  repeat ((with_reducible first|apply A0|apply wI|apply wT|apply wP|apply wS|apply wB);exact rfl)
  exact N1 (σ:=[]) (r':=uz 2 110) L5 rfl rfl (hn2 _ h1 (by rw[h2,hn]))
 rw[b1' gb] at h2
 rw[b1' gb,nmsN]
 have hlt1:=py (at_:=1) (ls:=ls) h2 (by simp)
 show C6.n48 (C6.X w0 0) w0 0 R [nmX [] [],nmX [] [],.arr 1 (ls.map PV.str) true,rdC ls 2,nmX p s,nmX p s,nmX p' s',nmX p' s'] text (.ptr 0 0) (.ptr 1 0) vBad (.ptr 3 0) (.ptr 5 0) (.ptr 7 0) .nilsl
 refine C6.n48_weak (text':=text) (t2':=.ptr 0 0) (t3':=.ptr 1 0) (bad':=vBad) (r':=.ptr 3 0) (old':=.ptr 5 0) (fresh':=.ptr 7 0) (out':=.arr 8 0 0 0) (τ:=cS ls 2 p s p' s' []) (N2.nil (t:=15) (es:=6) rfl rfl) ?_
 exact parse_loop L (by omega) (fun l hl=>Nat.le_trans (o3 l hl) (by omega)) (by omega) (ls.length+1) 2 [] (by omega) (by omega) (by simp) (fun line err hr=>hbad _ _ _ _ h1 h2 hr) (fun hs at' hr=>hgood _ _ _ _ h1 h2 hr)
theorem load_str{id es ver i:Nat}{xs:List PV}{fz:Bool}{l:Ln}(ho:σ[id]? = some (.arr es xs fz))(hv:xs.length=ver)(hi:xs[i]? = some (.str l)):A6 σ ti9 (.eptr id ver i 0)=some (.pv (.str l)):=by
 simp only[A6,ho,if_pos hv,hi]
 rfl
theorem store_str{id es ver i:Nat}{xs:List PV}{l l':Ln}(ho:σ[id]? = some (.arr es xs false))(hv:xs.length=ver)(hi:xs[i]? = some (.str l)):C2 σ ti9 (.eptr id ver i 0) (.pv (.str l'))=some (σ.set id (.arr es (xs.set i (.str l')) false)):=by
 show (if 1=1∧true=true then (match σ[id]?,some [PV.str l'] with
   | some (.arr es xs false),some ps=>
    if xs.length=ver then match xs[i]? with
     | some (.agg cs)=>if 0+ps.length≤cs.length then some (σ.set id (.arr es (xs.set i (.agg (P1 cs 0 ps))) false)) else none
     | some _=>match ps with
      | [q]=>if 0=0 then some (σ.set id (.arr es (xs.set i q) false)) else none
      | _=>none
     | none=>none
    else none
   | _,_=>none) else none)=_
 rw[if_pos ⟨rfl,rfl⟩,ho]
 simp only[if_pos hv,hi]
 rfl
theorem Parse_spec12(L:Laid w0.w){text:Ln}(hx:text.length≤4611686018427387904)(hR:∀w,jy text w→R w σ):A2 (cx w0) C6.id [.pv (.str text)] σ R:=by
 refine A2.some_of (P:=jy text) L rfl (fun w1 L1=>?_) (fun r h=>h.under) hR
 refine C6.calls ?_
 show C6.b0 (C6.X w1 0) w1 0 (fun r' _=>jy text r') [] text
 rw[C6.b0_eq,B0]
 refine B5 (fun g=>?_) (fun g=>?_)
 ·repeat ((with_reducible first|apply A0|apply wI|apply wT|apply wP|apply wS|apply wB);exact rfl)
  refine jg L1 rfl ?_
  repeat ((with_reducible first|apply A0|apply wI|apply wT|apply wP|apply wS|apply wB);exact rfl)
  exact N1 (σ:=[]) (r':=uz 0 2) L5 rfl rfl (.big (by omega))
 ·refine gh (by omega) ?_
  have ht:text.length≤4194304:=by omega
  have key:=parse22 (R:=fun r' _=>jy text r') L1 ht (fun w h=>h)
  have hsl:(E4 text).length≤text.length:=by
   have h1:=congrArg List.length (S4 text)
   have h2:=xb (cm text)
   omega
  repeat ((with_reducible first|apply A0|apply wI|apply wT|apply wP|apply wS|apply wB);exact rfl)
  rw[B0]
  refine B5 (fun g2=>?_) (fun g2=>?_)
  ·obtain ⟨q,l,e⟩:∃q l,E4 text=q ++ [l]:=by
    rcases List.eq_nil_or_concat (E4 text) with e|⟨q,l,e⟩
    ·rw[e] at g2;exact absurd g2 (by decide)
    ·exact ⟨q,l,by rw[e,List.concat_eq_append]⟩
   have hll:l.length≤text.length:=by
    have h1:=congrArg List.length (S4 text)
    rw[e] at h1
    simp only[List.flatten_append,List.flatten_cons,List.flatten_nil,List.length_append,List.append_nil] at h1
    omega
   have hlc:T2 text=if P6 l=true then q ++ [l] else q ++ [l ++ [10]]:=by
    unfold T2 wholeL
    rw[e,List.getLast?_append,List.getLast?_singleton,Option.some_or]
    simp only[List.dropLast_concat]
   rw[e] at hsl ⊢
   have hql:(q ++ [l]).length=q.length+1:=by simp
   have hget:((q ++ [l]).map PV.str)[q.length]? = some (.str l):=by simp
   have wl:IntKind.wrap .i64 ((((q ++ [l]).length:Nat):Int)-1)=(q.length:Int):=by rw[hql,D8 (by omega) (by omega)];omega
   rw[wl]
   refine A0 (eh (id:=2) (xs:=(q ++ [l]).map PV.str) ju rfl (by omega) rfl (List.length_map _)) ?_
   rw[Nat.zero_add]
   refine A0 (load_str (id:=2) (xs:=(q ++ [l]).map PV.str) rfl (List.length_map _) hget) (F4 ?_)
   refine bz (by omega) (E5 ?_)
   generalize ht1:(!P6 l)=t
   refine C6.n19_in ?_
   rw[C6.b19_eq]
   refine A4 (fun gt=>?_) (fun gt=>?_)
   ·rw[wl]
    refine A0 (eh (id:=2) (xs:=(q ++ [l]).map PV.str) ju rfl (by omega) rfl (List.length_map _)) ?_
    rw[Nat.zero_add]
    refine A0 (load_str (id:=2) (xs:=(q ++ [l]).map PV.str) rfl (List.length_map _) hget) (F4 ?_)
    refine ⟨by simp only[List.length_singleton];omega,?_⟩
    refine A0 (eh (id:=2) (xs:=(q ++ [l]).map PV.str) ju rfl (by omega) rfl (List.length_map _)) ?_
    rw[Nat.zero_add]
    refine A0 (store_str (id:=2) (xs:=(q ++ [l]).map PV.str) rfl (List.length_map _) hget) ?_
    have hw:¬P6 l=true:=by rw[gt] at ht1;simpa using ht1
    rw[if_neg hw] at hlc
    rw[hlc] at key
    have e3:((q ++ [l]).map PV.str).set q.length (PV.str (l ++ [10]))=(q ++ [l ++ [10]]).map PV.str:=by simp
    rw[e3]
    have e4:(q ++ [l]).length=(q ++ [l ++ [10]]).length:=by simp
    rw[e4]
    exact key
   ·have hw:P6 l=true:=by rw[gt] at ht1;simpa using ht1
    rw[if_pos hw] at hlc
    rw[hlc] at key
    exact key
  ·have hnil:E4 text = []:=by
    cases h:E4 text with
    | nil=>rfl
    | cons x y=>rw[h] at g2;exact absurd g2 (by simp only[List.length_cons];omega)
   have hlc:T2 text = []:=by unfold T2 wholeL;rw[hnil];rfl
   rw[hlc] at key
   rw[hnil]
   generalize hb:false=b
   refine C6.n19_in ?_
   rw[C6.b19_eq]
   refine A4 (fun gt=>by rw[← hb] at gt;cases gt) (fun gt=>?_)
   subst hb
   exact key
end
end Go.Sv.U
end
