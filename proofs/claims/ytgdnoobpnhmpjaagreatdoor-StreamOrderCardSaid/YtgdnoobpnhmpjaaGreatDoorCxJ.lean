/- What the code of package context answers where it reads: the line at hand, a header's name, numbers, ranges. What the code of package context answers where it reads: both parts of a hunk put together. -/
import Derived.Test.YtgdnoobpnhmpjaaGreatDoorCxI
import Derived.Test.YtgdnoobpnhmpjaaGreatDoorCxQ
import Derived.Test.YtgdnoobpnhmpjaaGreatDoorUnU
import Derived.Test.YtgdnoobpnhmpjaaGreatDoorHk
set_option linter.unusedVariables false
set_option linter.unusedSimpArgs false
set_option maxRecDepth 100000
section
namespace Go.Sv.U
section
open Go Go.RowKit Go.Proofs
variable {w0:B4}{σ:A1}{R:AV→A1→Prop}
abbrev rdC(ls:List Ln)(at_:Nat):M1:=.cells 117 [.pv (im ls),.pv (.int .i64 (at_:Int))]
theorem drop_consr{α:Type}{xs:List α}{k:Nat}{c:α}(h:xs[k]? = some c):xs.drop k=c::xs.drop (k+1):=by
 have hlt:=(List.getElem?_eq_some_iff.1 h).1
 rw[List.drop_eq_getElem_cons hlt]
 rw[List.getElem?_eq_getElem hlt] at h
 cases h;rfl
theorem ln_get'{ls:List Ln}{i:Nat}{l:Ln}(h:ls[i]? = some l):(ls.map PV.str)[i]? = some (.str l):=by rw[List.getElem?_map,h];rfl
theorem rd_at{id:Nat}{ls:List Ln}{at_:Nat}(h:σ[id]? = some (rdC ls at_)):A6 σ ti3 (.ptr id 1)=some (.pv (.int .i64 (at_:Int))):=by simp only[A6,h];rfl
theorem rd_ls{id:Nat}{ls:List Ln}{at_:Nat}(h:σ[id]? = some (rdC ls at_)):A6 σ J7 (.ptr id 0)=some (.pv (im ls)):=by simp only[A6,h];rfl
theorem W3{id:Nat}{ls:List Ln}{at_:Nat}(ho:σ[id]? = some (rdC ls at_))(hl:ls.length≤8388608)(hx:∀l∈ls,l.length≤8388608)(hR:R (.tup [.pv (.str (Y5 (ls.drop at_)).1),.pv (.bool (Y5 (ls.drop at_)).2)]) σ):A2 (cx w0) I8.id [.ptr id 0] σ R:=by
 refine I8.calls ?_
 rw[I8.b0_eq]
 refine A0 rfl (A0 rfl (A0 (rd_at ho) (G2 ?_)))
 refine A0 rfl (A0 rfl (A0 (rd_ls ho) ?_))
 refine A0 rfl (G2 ?_)
 rw[B0,List.length_map]
 refine B5 (fun g=>?_) (fun g=>?_)
 ·rw[List.drop_eq_nil_of_le (by omega)] at hR
  exact D6 (Nat.le_refl _) hR
 ·have hg:ls[at_]? = some (ls[at_]'(by omega)):=List.getElem?_eq_getElem (by omega)
  rw[drop_consr hg] at hR
  have hll:=hx _ (List.mem_of_getElem? hg)
  refine A0 rfl (A0 rfl (A0 (rd_ls ho) ?_))
  refine A0 rfl (A0 rfl (A0 (rd_at ho) (G2 ?_)))
  refine A0 (T6 ju (ln_get' hg) rfl) ?_
  repeat ((with_reducible first|apply A0|apply wI|apply wT|apply wP|apply wS|apply wB);exact rfl)
  refine W8 (by omega) (F4 ?_)
  exact D6 (Nat.le_refl _) hR
theorem tw:∀(l:Ln) (acc:Nat),l.all P5=true→Lib.decFrom acc l=some (l.foldl (fun a c=>a*10+(c.toNat-48)) acc)
 | [],acc,_=>rfl
 | c::l,acc,h=>by
  rw[List.all_cons,Bool.and_eq_true] at h
  have hc:48≤c.toNat∧c.toNat≤57:=by
   have:=h.1
   unfold P5 at this
   simpa using this
  rw[Lib.decFrom,Lib.digitVal,if_pos hc]
  exact tw l _ h.2
theorem atoi_digits{t:Ln}(h:t.all P5=true):Lib.atoi (48::t)=some (decV t:Int):=by
 have h2:=tw t 0 h
 rw[Lib.atoi]
 rw[if_neg (by decide),if_neg (by decide),Lib.decNat]
 rw[if_neg (by simp),Lib.decFrom,Lib.digitVal,if_pos (by decide)]
 show (Lib.decFrom 0 t).map _=_
 rw[h2];rfl
theorem dig_drop{s:Ln}(h:s.all P5=true):(s.dropWhile (· == 48)).all P5=true:=by
 rw[List.all_eq_true] at h ⊢
 intro x hx
 exact h x ((List.dropWhile_sublist _).subset hx)
theorem nz(L:Laid w0.w){s:Ln}(hs:s.length≤8388608)(hR:R (.tup [.pv (.int .i64 (V3 s).1),.pv (.bool (V3 s).2)]) σ):A2 (cx w0) L2.id [.pv (.str s)] σ R:=by
 refine A2.alone L rfl (fun w1 L1=>?_) rfl hR
 have key:∀t,t=decide (s = []∨s.all P5=false)→L2.n5 (L2.X w1 0) w1 0 (fun r _=>r = .tup [.pv (.int .i64 (V3 s).1),.pv (.bool (V3 s).2)]) [] s t:=by
  intro t ht
  refine L2.n5_in ?_
  rw[L2.b5_eq]
  refine A4 (fun g=>?_) (fun g=>?_)
  ·rw[g] at ht
   refine D6 (Nat.zero_le _) ?_
   rw[V3,if_pos (of_decide_eq_true ht.symm)]
  ·rw[g] at ht
   have hn:=of_decide_eq_false ht.symm
   have hd:s.all P5=true:=by
    cases h:s.all P5 with
    | true=>rfl
    | false=>exact absurd (.inr h) hn
   refine aq (by decide) (F4 ?_)
   rw[B0]
   refine B5 (fun g2=>?_) (fun g2=>?_)
   ·refine D6 (Nat.zero_le _) ?_
    rw[V3,if_neg hn,if_pos (by omega)]
   ·refine ⟨by simp only[List.length_singleton];omega,?_⟩
    refine mm (by simp only[List.length_append,List.length_singleton];omega) (atoi_digits (dig_drop hd)) ?_
    repeat ((with_reducible first|apply A0|apply wI|apply wT|apply wP|apply wS|apply wB);exact rfl)
    refine D6 (Nat.zero_le _) ?_
    rw[V3,if_neg hn,if_neg (by omega)]
    rfl
 refine L2.calls ?_
 rw[L2.b0_eq,Q8]
 refine B5 (fun g=>?_) (fun g=>?_)
 ·exact key _ (decide_eq_true (.inl g)).symm
 ·refine TrimD_spec L1 (by omega) (F4 (key _ ?_))
  have h1:=trimDF_nil s
  rw[Bool.eq_iff_iff,decide_eq_true_eq]
  cases h:s.all P5 with
  | true=>
   have:lz s = []:=h1.2 h
   rw[this];simp[g]
  | false=>
   have:lz s ≠ []:=fun e=>by rw[h1.1 e] at h;cases h
   simp[this]
abbrev rngC(g:Rng):List PV:=[.int .i64 g.at_,.int .i64 g.count,.bool g.two]
theorem takes_spec(L:Laid w0.w){g:Rng}{n:Int}(hR:R (.pv (.bool (Z7 g n))) σ):A2 (cx w0) H6.id [.pv (.agg (rngC g)),.pv (.int .i64 n)] σ R:=by
 refine A2.alone L rfl (fun w1 L1=>?_) rfl hR
 have fin:∀S t,t=Z7 g n→H6.n4 (H6.X w1 0) w1 0 (fun r _=>r = .pv (.bool (Z7 g n))) S t:=by
  rintro S t rfl
  refine H6.n4_in ?_
  rw[H6.b4_eq]
  exact D6 (Nat.zero_le _) rfl
 refine H6.calls ?_
 rw[H6.b0_eq]
 refine ⟨rfl,?_⟩
 repeat ((with_reducible first|apply A0|apply wI|apply wT|apply wP|apply wS|apply wB);exact rfl)
 rw[G6]
 refine B5 (fun h=>?_) (fun h=>?_)
 ·generalize hb:true=b
  refine fin _ b ?_
  rw[← hb,Z7,decide_eq_true h];rfl
 ·repeat ((with_reducible first|apply A0|apply wI|apply wT|apply wP|apply wS|apply wB);exact rfl)
  rw[E9]
  refine A4 (fun h2=>?_) (fun h2=>?_)
  ·generalize hb:false=b
   refine fin _ b ?_
   rw[← hb,Z7,decide_eq_false h,h2];rfl
  ·refine fin _ _ ?_
   rw[Z7,decide_eq_false h,h2,Bool.false_or,Bool.not_false,Bool.true_and,Bool.eq_iff_iff,beq_iff_eq,decide_eq_true_eq]
theorem lx(s:Ln):(V3 s).2=true→0≤(V3 s).1∧(V3 s).1≤2147483647:=by
 intro h
 unfold V3 at h ⊢
 split at h
 ·cases h
 ·split at h
  ·cases h
  ·rename_i h1 h2
   rw[if_neg h1,if_neg h2]
   exact ⟨Int.natCast_nonneg _,of_decide_eq_true h⟩
theorem cut1F_len(s:Ln)(c:UInt8):(V6 s c).1.length≤s.length∧(V6 s c).2.1.length≤s.length:=by
 unfold V6;split
 ·exact ⟨by rw[List.length_take];omega,by rw[List.length_drop];omega⟩
 ·exact ⟨Nat.le_refl _,by simp⟩
theorem cutSufF_len(s p:Ln):(ee s p).1.length≤s.length:=by
 unfold ee;split
 ·rw[List.length_take];omega
 ·exact Nat.le_refl _
theorem qb{r:List Ln}{T:Nat}(h:∀l∈r,l.length≤T):(Y5 r).1.length≤T:=by
 cases r with
 | nil=>simp[Y5]
 | cons l r=>exact Nat.le_trans (Y7 l) (h l (by simp))
abbrev zR:M1:=.cells 156 [.pv (.int .i64 0),.pv (.int .i64 0),.pv (.bool false)]
def spanA(o:Option Rng):AV:=match o with
 | some g=>.tup [.pv (.agg (rngC g)),.pv (.bool true)]
 | none=>.tup [.pv (.agg [.int .i64 0,.int .i64 0,.bool false]),.pv (.bool false)]
def spanN(o:Option Rng)(at_:Nat):Nat:=match o with
 | some _=>at_+1
 | none=>at_
theorem xi{α:Type}{l:List α}{i:Nat}{x:α}(h:l[i]? = some x):l.set i x=l:=by
 apply List.ext_getElem?
 intro j
 by_cases e:j=i
 ·subst e
  rw[List.getElem?_set_self (List.getElem?_eq_some_iff.1 h).1,h]
 ·rw[List.getElem?_set_ne (Ne.symm e)]
theorem st_rd{id:Nat}{ls:List Ln}{at_:Nat}{n:Nat}(ho:σ[id]? = some (rdC ls at_)):C2 σ ti3 (.ptr id 1) (.pv (.int .i64 (n:Int)))=some (σ.set id (rdC ls n)):=by
 show (if 1=1∧true=true then (match σ[id]? with
   | some (.cells ty cs)=>if 1+1≤cs.length then some (σ.set id (.cells ty (P1 cs 1 [.pv (.int .i64 (n:Int))]))) else none
   | _=>none) else none)=_
 rw[if_pos ⟨rfl,rfl⟩,ho]
 rfl
theorem get_last{x:M1}:(σ ++ [x])[σ.length]? = some x:=by simp
theorem qx{ty:TypeId}{cs:List AV}{ti:TI}{v:AV}(h1:v.cells.length=ti.size)(h2:v.cells.all AV.one=true)(h3:cs.length=ti.size):C2 (σ ++ [.cells ty cs]) ti (.ptr σ.length 0) v=some (σ ++ [.cells ty v.cells]):=by
 unfold C2
 simp only
 rw[if_pos ⟨h1,h2⟩,get_last]
 simp only
 rw[if_pos (by omega)]
 have:P1 cs 0 v.cells=v.cells:=by
  unfold P1
  rw[List.take_zero,List.nil_append,List.drop_eq_nil_of_le (by omega),List.append_nil]
 rw[this]
 simp
theorem qe{ty:TypeId}{cs:List AV}{ti:TI}(ha:ti.td.isAgg=true)(hs:cs.length=ti.size):A6 (σ ++ [.cells ty cs]) ti (.ptr σ.length 0)=some (em cs):=by
 simp only[A6,get_last,ji,ha,if_true]
 rw[if_pos (by omega),List.drop_zero,List.take_of_length_le (by omega)]
theorem set_last{id:Nat}{x y:M1}(h:id<σ.length):(σ ++ [x]).set id y=σ.set id y ++ [x]:=List.set_append_left _ _ h
def rngCell(o:Option Rng):M1:=match o with
 | some g=>.cells 156 [.pv (.int .i64 g.at_),.pv (.int .i64 g.count),.pv (.bool g.two)]
 | none=>zR
theorem ux(L:Laid w0.w){id:Nat}{ls:List Ln}{at_:Nat}{before behind:Ln}(ho:σ[id]? = some (rdC ls at_))(hl:ls.length≤8388607)(hat:at_≤ls.length)(hx:∀l∈ls,l.length≤8388608)
  (hR:R (spanA (bu before behind (ls.drop at_))) (σ.set id (rdC ls (spanN (bu before behind (ls.drop at_)) at_)) ++ [rngCell (bu before behind (ls.drop at_))])):
  A2 (cx w0) E3.id [.ptr id 0,.pv (.str before),.pv (.str behind)] σ R:=by
 have hid:=(List.getElem?_eq_some_iff.1 ho).1
 have ho':(σ ++ [zR])[id]? = some (rdC ls at_):=get_old _ ho
 have hnl:=qb (r:=ls.drop at_) (T:=8388608) (fun l hl=>hx l (List.mem_of_mem_drop hl))
 have hsl:(dm before behind (ls.drop at_)).1.length≤8388608:=by
  have h1:=bn (Y5 (ls.drop at_)).1 before
  have h2:=cutSufF_len (W1 (Y5 (ls.drop at_)).1 before).1 behind
  unfold dm;split<;>omega
 have h27:∀(two:Bool) (from_ to:Int) (t:Bool),bu before behind (ls.drop at_)=(if t=true then none else some ⟨from_,to-from_+1,two⟩)→(t=false→0≤from_∧from_≤2147483647∧0≤to∧to≤2147483647) →
   E3.n27 (E3.X w0 σ.length) w0 σ.length R (σ ++ [zR]) (.ptr id 0) (.ptr σ.length 0) two from_ to t:=by
  intro two from_ to t hs hb
  refine E3.n27_in ?_
  rw[E3.b27_eq]
  refine A4 (fun g=>?_) (fun g=>?_)
  ·rw[if_pos g] at hs
   rw[hs] at hR
   refine A0 (v:=.pv (.agg [.int .i64 0,.int .i64 0,.bool false])) rfl ?_
   refine A0 (qx rfl rfl rfl) (A0 (qe rfl rfl) (D6 (by simp) ?_))
   have e:σ.set id (rdC ls at_)=σ:=xi ho
   unfold spanN at hR
   simp only[e] at hR
   exact hR
  ·rw[if_neg (by rw[g];decide)] at hs
   obtain ⟨b1,b2,b3,b4⟩:=hb g
   rw[hs] at hR
   refine A0 rfl (A0 rfl (A0 (rd_at ho') (G2 ?_)))
   rw[D8 (n:=(at_:Int)+1) (by omega) (by omega),show (at_:Int)+1=((at_+1:Nat):Int) by omega]
   refine A0 rfl (A0 rfl (A0 (st_rd ho') ?_))
   rw[set_last hid,D8 (n:=to-from_) (by omega) (by omega),D8 (by omega) (by omega)]
   refine A0 (v:=.pv (.agg [.int .i64 from_,.int .i64 (to-from_+1),.bool two])) rfl ?_
   have hlen:σ.length=(σ.set id (rdC ls (at_+1))).length:=by simp
   rw[hlen]
   refine A0 (qx rfl rfl rfl) (A0 (qe rfl rfl) (D6 (by simp) hR))
 have h20:∀(ok:Bool) (first last:Ln) (two:Bool),first.length≤8388608→last.length≤8388608→bu before behind (ls.drop at_)=(if ok=true∧(V3 first).2=true∧(V3 last).2=true ∧ ¬(V3 last).1<(V3 first).1 then some ⟨(V3 first).1,(V3 last).1-(V3 first).1+1,two⟩ else none) →
   E3.n20 (E3.X w0 σ.length) w0 σ.length R (σ ++ [zR]) (.ptr id 0) (.ptr σ.length 0) ok first last two:=by
  intro ok first last two hf hla hs
  refine E3.n20_in ?_
  rw[E3.b20_eq]
  refine nz L hf ?_
  repeat ((with_reducible first|apply A0|apply wI|apply wT|apply wP|apply wS|apply wB);exact rfl)
  refine nz L hla ?_
  repeat ((with_reducible first|apply A0|apply wI|apply wT|apply wP|apply wS|apply wB);exact rfl)
  have bad:∀b:Bool,b=true → ¬(ok=true∧(V3 first).2=true∧(V3 last).2=true ∧ ¬(V3 last).1<(V3 first).1)→E3.n27 (E3.X w0 σ.length) w0 σ.length R (σ ++ [zR]) (.ptr id 0) (.ptr σ.length 0) two (V3 first).1 (V3 last).1 b:=by
   intro b hb hn
   rw[if_neg hn] at hs
   exact h27 two _ _ b (by rw[hs,if_pos hb]) (fun e=>by rw[hb] at e;cases e)
  rw[E9]
  refine A4 (fun g1=>?_) (fun g1=>?_)
  ·rw[E9]
   refine A4 (fun g2=>?_) (fun g2=>?_)
   ·rw[E9]
    refine A4 (fun g3=>?_) (fun g3=>?_)
    ·refine h27 two _ _ _ ?_ (fun e=>⟨(lx _ g2).1,(lx _ g2).2,(lx _ g3).1,(lx _ g3).2⟩)
     rw[hs]
     by_cases hlt:(V3 last).1<(V3 first).1
     ·rw[if_neg (fun h=>h.2.2.2 hlt),if_pos (decide_eq_true hlt)]
     ·rw[if_pos ⟨g1,g2,g3,hlt⟩,if_neg (by simpa using hlt)]
    ·generalize hb:true=b
     exact bad b hb.symm (fun h=>by rw[g3] at h;exact absurd h.2.2.1 (by decide))
   ·generalize hb:true=b
    exact bad b hb.symm (fun h=>by rw[g2] at h;exact absurd h.2.1 (by decide))
  ·generalize hb:true=b
   exact bad b hb.symm (fun h=>by rw[g1] at h;exact absurd h.1 (by decide))
 have h12:∀(s:Ln) (ok:Bool),(s,ok)=dm before behind (ls.drop at_)→E3.n12 (E3.X w0 σ.length) w0 σ.length R (σ ++ [zR]) (.ptr id 0) (.ptr σ.length 0) s ok:=by
  intro s ok he
  have e1:(dm before behind (ls.drop at_)).1=s:=by rw[← he]
  have e2:(dm before behind (ls.drop at_)).2=ok:=by rw[← he]
  rw[e1] at hsl
  obtain ⟨c1,c2⟩:=cut1F_len s 44
  refine E3.n12_in ?_
  rw[E3.b12_eq]
  refine Cut1_spec L (by omega) ?_
  repeat ((with_reducible first|apply A0|apply wI|apply wT|apply wP|apply wS|apply wB);exact rfl)
  rw[E9]
  have hsp:bu before behind (ls.drop at_)=(if ok=true∧(V3 (V6 s 44).1).2=true∧(V3 (oa s)).2=true ∧ ¬(V3 (oa s)).1<(V3 (V6 s 44).1).1 then some ⟨(V3 (V6 s 44).1).1,(V3 (oa s)).1-(V3 (V6 s 44).1).1+1,(V6 s 44).2.2⟩ else none):=by
   unfold bu
   rw[e1,e2]
  refine A4 (fun g=>?_) (fun g=>?_)
  ·have e3:oa s=(V6 s 44).2.1:=by rw[oa,if_pos g]
   rw[e3] at hsp
   exact h20 ok _ _ _ (by omega) (by omega) hsp
  ·have e3:oa s=(V6 s 44).1:=by rw[oa,if_neg (by rw[g];decide)]
   rw[e3] at hsp
   exact h20 ok _ _ _ (by omega) (by omega) hsp
 refine E3.calls ?_
 rw[E3.b0_eq]
 refine W3 ho' (by omega) hx ?_
 repeat ((with_reducible first|apply A0|apply wI|apply wT|apply wP|apply wS|apply wB);exact rfl)
 refine fg (by omega) ?_
 repeat ((with_reducible first|apply A0|apply wI|apply wT|apply wP|apply wS|apply wB);exact rfl)
 refine A4 (fun g=>?_) (fun g=>?_)
 ·have h1:=bn (Y5 (ls.drop at_)).1 before
  refine xj L (by omega) ?_
  repeat ((with_reducible first|apply A0|apply wI|apply wT|apply wP|apply wS|apply wB);exact rfl)
  refine h12 _ _ ?_
  rw[dm,if_pos g]
 ·refine h12 _ _ ?_
  rw[dm,if_neg (by rw[g];decide)]
def nmsA(o:Option (Ln×Ln)):AV:=match o with
 | some (p,s)=>.tup [.pv (nmP p s),.pv (.bool true)]
 | none=>.tup [.pv (nmP [] []),.pv (.bool false)]
def nmsCell(o:Option (Ln×Ln)):M1:=match o with
 | some (p,s)=>.cells 28 [.pv (.str p),.pv (.str s)]
 | none=>.cells 28 [.pv (.str []),.pv (.str [])]
def nmsN(o:Option (Ln×Ln))(at_:Nat):Nat:=match o with
 | some _=>at_+1
 | none=>at_
theorem uj(L:Laid w0.w){id:Nat}{ls:List Ln}{at_:Nat}{mark:Ln}(ho:σ[id]? = some (rdC ls at_))(hl:ls.length≤8388607)(hat:at_≤ls.length)(hx:∀l∈ls,l.length≤8388608)
  (hR:R (nmsA (ac mark (ls.drop at_))) (σ.set id (rdC ls (nmsN (ac mark (ls.drop at_)) at_)) ++ [nmsCell (ac mark (ls.drop at_))])):
  A2 (cx w0) I1.id [.ptr id 0,.pv (.str mark)] σ R:=by
 have hid:=(List.getElem?_eq_some_iff.1 ho).1
 have ho':(σ ++ [M1.cells 28 [.pv (.str []),.pv (.str [])]])[id]? = some (rdC ls at_):=get_old _ ho
 have hnl:=qb (r:=ls.drop at_) (T:=8388608) (fun l hl=>hx l (List.mem_of_mem_drop hl))
 have hcl:=bn (Y5 (ls.drop at_)).1 mark
 have bad:ac mark (ls.drop at_)=none→R (.tup [.pv (nmP [] []),.pv (.bool false)]) (σ ++ [.cells 28 [.pv (.str []),.pv (.str [])]]):=by
  intro h
  rw[h] at hR
  unfold nmsN at hR
  simp only[xi ho] at hR
  exact hR
 have h29:∀(path stamp:Ln) (t:Bool),ac mark (ls.drop at_)=(if t=true then none else some (path,stamp))→I1.n29 (I1.X w0 σ.length) w0 σ.length R (σ ++ [.cells 28 [.pv (.str []),.pv (.str [])]]) (.ptr id 0) (.ptr σ.length 0) path stamp t:=by
  intro path stamp t hs
  refine I1.n29_in ?_
  rw[I1.b29_eq]
  refine A4 (fun g=>?_) (fun g=>?_)
  ·rw[if_pos g] at hs
   refine A0 (v:=.pv (nmP [] [])) rfl ?_
   exact A0 (qx rfl rfl rfl) (A0 (qe rfl rfl) (D6 (by simp) (bad hs)))
  ·rw[if_neg (by rw[g];decide)] at hs
   rw[hs] at hR
   refine A0 rfl (A0 rfl (A0 (rd_at ho') (G2 ?_)))
   rw[D8 (n:=(at_:Int)+1) (by omega) (by omega),show (at_:Int)+1=((at_+1:Nat):Int) by omega]
   refine A0 rfl (A0 rfl (A0 (st_rd ho') ?_))
   rw[set_last hid]
   refine A0 (v:=.pv (nmP path stamp)) rfl ?_
   have hlen:σ.length=(σ.set id (rdC ls (at_+1))).length:=by simp
   rw[hlen]
   exact A0 (qx rfl rfl rfl) (A0 (qe rfl rfl) (D6 (by simp) hR))
 have fail:ac mark (ls.drop at_)=none→opt (N3 B3 F1 []) fun t26=>opt (C2 (σ ++ [.cells 28 [.pv (.str []),.pv (.str [])]]) F1 (.ptr (List.length σ) 0) t26) fun σ'=>opt (A6 σ' F1 (.ptr (List.length σ) 0)) fun v=>D9 (cx w0) σ.length (.tup [v,(.pv (.bool false))]) σ' R:=by
  intro h
  refine A0 (v:=.pv (nmP [] [])) rfl ?_
  exact A0 (qx rfl rfl rfl) (A0 (qe rfl rfl) (D6 (by simp) (bad h)))
 refine I1.calls ?_
 rw[I1.b0_eq]
 refine W3 ho' (by omega) hx ?_
 repeat ((with_reducible first|apply A0|apply wI|apply wT|apply wP|apply wS|apply wB);exact rfl)
 refine fg (by omega) ?_
 repeat ((with_reducible first|apply A0|apply wI|apply wT|apply wP|apply wS|apply wB);exact rfl)
 rw[E9]
 refine A4 (fun g=>?_) (fun g=>?_)
 ·refine Unquote_spec L (by omega) ?_
  cases hu:unqF (W1 (Y5 (ls.drop at_)).1 mark).1 with
  | none=>
   unfold unqA
   repeat ((with_reducible first|apply A0|apply wI|apply wT|apply wP|apply wS|apply wB);exact rfl)
   rw[P2]
   refine A0 rfl (A0 (v:=false) rfl (E5 ?_))
   rw[Bool.not_false,D4]
   refine fail ?_
   unfold ac
   rw[if_neg (by rw[g];decide),hu]
  | some q=>
   obtain ⟨p,H8⟩:=q
   have hul:=unqF_out hu
   unfold unqA
   repeat ((with_reducible first|apply A0|apply wI|apply wT|apply wP|apply wS|apply wB);exact rfl)
   rw[P2]
   refine A0 rfl (A0 (v:=true) rfl (E5 ?_))
   rw[Bool.not_true,C3]
   refine fg (by omega) ?_
   repeat ((with_reducible first|apply A0|apply wI|apply wT|apply wP|apply wS|apply wB);exact rfl)
   have hn:ac mark (ls.drop at_)=if H8 ≠ []∧(W1 H8 [9]).2=false then none else some (p,(W1 H8 [9]).1):=by
    unfold ac
    rw[if_neg (by rw[g];decide),hu]
   rw[E9,Q8]
   refine B5 (fun g2=>?_) (fun g2=>?_)
   ·generalize hb:false=b
    refine h29 _ _ b ?_
    rw[hn,if_neg (fun h=>h.1 g2),if_neg (by rw[← hb];decide)]
   ·refine h29 _ _ _ ?_
    rw[hn]
    cases hc:(W1 H8 [9]).2 with
    | true=>rw[if_neg (fun h=>by cases h.2),if_neg (by decide)]
    | false=>rw[if_pos ⟨g2,rfl⟩];rfl
 ·refine fail ?_
  unfold ac
  rw[if_pos g]
end
end Go.Sv.U
end
section
namespace Go.Sv.U
section
open Go Go.RowKit Go.Proofs
variable {w0:B4}{σ:A1}{R:AV→A1→Prop}
abbrev mkP(x:Mkd):PV:=.agg [.int .u8 x.m.toNat,.str x.t]
abbrev K4(l:List Mkd):PV:=.sl (l.map mkP)
theorem vy{a b:UInt8}:((a.toNat:Int)=(b.toNat:Int))↔a=b:=⟨fun h=>UInt8.toNat_inj.1 (by omega),fun h=>by rw[h]⟩
theorem me{l:List Mkd}{i:Nat}{x:Mkd}(h:l[i]? = some x):(l.map mkP)[i]? = some (mkP x):=by rw[List.getElem?_map,h];rfl
theorem ue:∀l:List Mkd,X6 2 (l.map mkP)=true:=by
 intro l
 simp only[X6,List.all_eq_true,List.mem_map]
 rintro x ⟨r,_,rfl⟩
 rfl
theorem cz{l:List Mkd}{k:Nat}(h:k≤l.length):G7 σ B3 R1.td (.pv (K4 l)) (some (.pv (.int .i64 (k:Int)))) none=some (.pv (K4 (l.drop k))):=by
 show (if (0:Int)≤(k:Int)∧(k:Int)≤(((l.map mkP).length:Nat):Int)∧(((l.map mkP).length:Nat):Int)≤(((l.map mkP).length:Nat):Int) then (if X6 2 (l.map mkP)=true then some (AV.pv (.sl (((l.map mkP).take (((l.map mkP).length:Nat):Int).toNat).drop (k:Int).toNat))) else none) else none)=_
 rw[if_pos (by rw[List.length_map];omega),if_pos (ue l)]
 simp[List.take_of_length_le]
theorem slice_mk_hi{l:List Mkd}{k:Nat}(h:k≤l.length):G7 σ B3 R1.td (.pv (K4 l)) none (some (.pv (.int .i64 (k:Int))))=some (.pv (K4 (l.take k))):=by
 show (if (0:Int)≤0∧(0:Int)≤(k:Int)∧(k:Int)≤(((l.map mkP).length:Nat):Int) then (if X6 2 (l.map mkP)=true then some (AV.pv (.sl (((l.map mkP).take (k:Int).toNat).drop (0:Int).toNat))) else none) else none)=_
 rw[if_pos (by rw[List.length_map];omega),if_pos (ue l)]
 simp
abbrev msS(l:List Mkd):A1:=[.arr 2 (l.map mkP) false]
abbrev msA(l:List Mkd):AV:=.arr 0 l.length 0 l.length
theorem ms_seal(l:List Mkd):bp 0 ([]++msS l) (msA l)=some (.pv (K4 l)):=by
 show (if (l.map mkP).length=l.length∧0+l.length≤l.length then some (AV.pv (.sl (((l.map mkP).drop 0).take l.length))) else none)=_
 rw[if_pos ⟨List.length_map _,by omega⟩]
 simp[List.take_of_length_le]
theorem og(l:List Mkd)(hl:l.length≤8388608)(v:AV):∀(r:List Mkd) (k:Nat) (done:List Mkd),l.drop k=r→done.length≤k→v = .pv (K4 (done++ss r)) →
  G0.n8 (G0.X w0 0) w0 0 (fun r' _=>r'=v) (msS done) (msA done) (.pv (K4 l)) l.length k
 | [],k,done,hd,_,hv=>by
  have hk:=X7 hd
  refine G0.n8_in ?_
  rw[G0.b9_eq,B0,if_neg (by omega)]
  refine G0.n25_in ?_
  rw[G0.b25_eq]
  refine N1 (σ:=[]) (L:=msS done) L5 rfl (ms_seal done) ?_
  rw[hv];simp[ss]
 | c::r,k,done,hd,hdk,hv=>by
  obtain ⟨h1,h2,hk⟩:=Q6 hd
  have h24:∀(done':List Mkd),done'.length≤k+1→v = .pv (K4 (done'++ss r))→G0.n24 (G0.X w0 0) w0 0 (fun r' _=>r'=v) [.arr 2 (done'.map mkP) false,.cells 217 [.pv (.int .u8 c.m.toNat),.pv (.str c.t)]] (msA done') (.pv (K4 l)) l.length k:=by
   intro done' hd' hv'
   refine G0.n24_in ?_
   rw[G0.b24_eq,K6 hk (by omega)]
   refine G0.n8_weak (N2.drop (τ:=msS done') L5 (Nat.zero_le _) rfl rfl) ?_
   exact og l hl v r (k+1) done' h2 hd' hv'
  refine G0.n8_in ?_
  rw[G0.b9_eq,B0,if_pos (by omega)]
  refine A0 (T6 jt (me h1) rfl) ?_
  repeat ((with_reducible first|apply A0|apply wI|apply wT|apply wP|apply wS|apply wB);exact rfl)
  rw[G6]
  have hc:((c.m.toNat:Int)=32)↔c.m=32:=vy (b:=32)
  refine B5 (fun g=>?_) (fun g=>?_)
  ·have g':=hc.1 g
   refine A0 (v:=.pv (mkP c)) rfl ?_
   refine J5 (v:=.pv (.sl [mkP c])) rfl ?_
   refine J5 (W9 (id:=0) (es:=2) (ver:=done.length) (xs:=done.map mkP) (ys:=[mkP c]) rfl rfl (List.length_map _).symm rfl rfl ⟨by rw[List.length_map];show done.length+1≤_;omega,by rw[List.length_map];show (done.length+1)*24≤_;omega⟩) ?_
   have e:done.map mkP ++ [mkP c]=(done ++ [c]).map mkP:=by simp
   have e2:(done.map mkP).length + [mkP c].length=(done ++ [c]).length:=by simp
   rw[e,e2]
   refine h24 (done ++ [c]) (by rw[List.length_append,List.length_singleton];omega) ?_
   rw[hv]
   unfold ss
   rw[List.filter_cons_of_pos (by simpa using g'),List.append_assoc];rfl
  ·have g':c.m≠32:=fun e=>g (hc.2 e)
   refine h24 done (by omega) ?_
   rw[hv]
   unfold ss
   rw[List.filter_cons_of_neg (by simpa using g')]
theorem ou(L:Laid w0.w){l:List Mkd}(hl:l.length≤8388608)(hR:R (.pv (K4 (ss l))) σ):A2 (cx w0) G0.id [.pv (K4 l)] σ R:=by
 refine A2.alone L rfl (fun w1 L1=>?_) rfl hR
 refine G0.calls ?_
 rw[G0.b0_eq]
 repeat ((with_reducible first|apply A0|apply wI|apply wT|apply wP|apply wS|apply wB);exact rfl)
 rw[List.length_map]
 refine G0.n8_weak (out':=msA []) (t6':=.pv (K4 l)) (t7':=l.length) (t8':=0) (τ:=msS []) (N2.nil (t:=3) (es:=2) rfl rfl) ?_
 exact og l hl _ l 0 [] rfl (Nat.zero_le _) rfl
theorem taken_loop(l:List Mkd)(hl:l.length≤8388608):∀(r p:List Mkd),l=p++r→p=tkM l∨(∀ x∈p,x.m≠32) →
  (∀ x∈p,x.m≠32)→H1.n6 (H1.X w0 0) w0 0 (fun r' _=>r' = .tup [.pv (K4 (tkM l)),.pv (K4 (tdM l))]) [] (.pv (K4 l)) p.length:=by
 have fin:∀p r:List Mkd,l=p++r→tkM l=p→tdM l=r→H1.n15 (H1.X w0 0) w0 0 (fun r' _=>r' = .tup [.pv (K4 (tkM l)),.pv (K4 (tdM l))]) [] (.pv (K4 l)) p.length:=by
  intro p r hpr h1 h2
  have hle:p.length≤l.length:=by rw[hpr];simp
  refine H1.n15_in ?_
  rw[H1.b15_eq]
  refine A0 (slice_mk_hi hle) (A0 (cz hle) ⟨A0 (cz hle) rfl,?_⟩)
  refine D6 (Nat.zero_le _) ?_
  rw[h1,h2,hpr];simp
 have split:∀p r:List Mkd,(∀ x∈p,x.m≠32)→(∀ x∈r.head?,x.m=32)→tkM (p++r)=p∧tdM (p++r)=r:=by
  intro p r hp hr
  induction p with
  | nil=>
   cases r with
   | nil=>exact ⟨rfl,rfl⟩
   | cons x r=>
    have:x.m=32:=hr x (by simp)
    simp[tkM,tdM,this]
  | cons y p ih=>
   have hy:=hp y (by simp)
   obtain ⟨i1,i2⟩:=ih (fun x hx=>hp x (by simp[hx]))
   unfold tkM tdM at *
   simp only[List.cons_append,List.takeWhile_cons,List.dropWhile_cons]
   have e:(!(y.m==32))=true:=by simp[hy]
   rw[e]
   simp only[if_true]
   exact ⟨by rw[i1],i2⟩
 intro r
 induction r with
 | nil=>
  intro p hpr _ hp
  obtain ⟨s1,s2⟩:=split p [] hp (by simp)
  rw[← hpr] at s1 s2
  refine H1.n6_in ?_
  rw[H1.b7_eq]
  repeat ((with_reducible first|apply A0|apply wI|apply wT|apply wP|apply wS|apply wB);exact rfl)
  rw[B0,if_neg (by rw[List.length_map,hpr];simp)]
  generalize hb:false=b
  refine H1.n10_in ?_
  rw[H1.b10_eq,←hb,C3]
  exact fin p [] hpr s1 s2
 | cons c r ih=>
  intro p hpr _ hp
  have hk:l[p.length]? = some c:=by rw[hpr];simp
  have hlt:p.length<l.length:=by rw[hpr];simp
  refine H1.n6_in ?_
  rw[H1.b7_eq]
  repeat ((with_reducible first|apply A0|apply wI|apply wT|apply wP|apply wS|apply wB);exact rfl)
  rw[B0,if_pos (by rw[List.length_map];omega)]
  refine A0 (T6 jt (me hk) rfl) ?_
  repeat ((with_reducible first|apply A0|apply wI|apply wT|apply wP|apply wS|apply wB);exact rfl)
  have h10:∀t,t = !(c.m==32)→H1.n10 (H1.X w0 0) w0 0 (fun r' _=>r' = .tup [.pv (K4 (tkM l)),.pv (K4 (tdM l))]) [] (.pv (K4 l)) p.length t:=by
   intro t ht
   refine H1.n10_in ?_
   rw[H1.b10_eq]
   refine A4 (fun g=>?_) (fun g=>?_)
   ·have hc:c.m≠32:=by rw[g] at ht;simpa using ht.symm
    rw[K6 hlt (by omega)]
    have h3:∀x∈p ++ [c],x.m≠32:=fun x hx=>by
     rcases List.mem_append.1 hx with hx|hx
     ·exact hp x hx
     ·rw[List.mem_singleton] at hx;rw[hx];exact hc
    have:=ih (p ++ [c]) (by rw[hpr];simp) (.inr h3) h3
    rw[List.length_append] at this
    exact this
   ·have hc:c.m=32:=by rw[g] at ht;simpa using ht.symm
    obtain ⟨s1,s2⟩:=split p (c::r) hp (by simpa using hc)
    rw[← hpr] at s1 s2
    exact fin p (c::r) hpr s1 s2
  refine h10 _ ?_
  have hc:((c.m.toNat:Int)=32)↔c.m=32:=vy (b:=32)
  by_cases h:c.m=32
  ·rw[h];rfl
  ·have h2:¬((c.m.toNat:Int)=32):=fun e=>h (hc.1 e)
   rw[beq_false_of_ne h,Bool.not_false,bne_iff_ne.2 h2]
theorem qa(L:Laid w0.w){l:List Mkd}(hl:l.length≤8388608)(hR:R (.tup [.pv (K4 (tkM l)),.pv (K4 (tdM l))]) σ):A2 (cx w0) H1.id [.pv (K4 l)] σ R:=by
 refine A2.alone L rfl (fun w1 L1=>?_) rfl hR
 refine H1.calls ?_
 rw[H1.b0_eq]
 exact taken_loop l hl l [] rfl (.inr (fun x hx=>by cases hx)) (fun x hx=>by cases hx)
theorem only_loop(l:List Mkd)(hl:l.length≤8388608)(m:UInt8)(v:AV):∀(r:List Mkd) (k:Nat),l.drop k=r→v = .pv (.bool (r.all (fun x=>x.m==m) && !l.isEmpty)) →
  J2.n6 (J2.X w0 0) w0 0 (fun r' _=>r'=v) [] (.pv (K4 l)) (m.toNat:Int) (.pv (K4 l)) l.length k
 | [],k,hd,hv=>by
  have hk:=X7 hd
  refine J2.n6_in ?_
  rw[J2.b7_eq,B0,if_neg (by omega)]
  refine J2.n25_in ?_
  rw[J2.b25_eq]
  repeat ((with_reducible first|apply A0|apply wI|apply wT|apply wP|apply wS|apply wB);exact rfl)
  refine D6 (Nat.zero_le _) ?_
  rw[hv,List.length_map]
  cases l with
  | nil=>rfl
  | cons x l=>simp
 | c::r,k,hd,hv=>by
  obtain ⟨h1,h2,hk⟩:=Q6 hd
  refine J2.n6_in ?_
  rw[J2.b7_eq,B0,if_pos (by omega)]
  refine A0 (T6 jt (me h1) rfl) ?_
  repeat ((with_reducible first|apply A0|apply wI|apply wT|apply wP|apply wS|apply wB);exact rfl)
  rw[T7]
  have hc:((c.m.toNat:Int)=(m.toNat:Int))↔c.m=m:=vy
  refine B5 (fun g=>?_) (fun g=>?_)
  ·rw[K6 hk (by omega)]
   refine J2.n6_weak (N2.drop (τ:=[]) L5 (Nat.zero_le _) rfl rfl) ?_
   refine only_loop l hl m v r (k+1) h2 ?_
   rw[hv,List.all_cons,hc.1 g];simp
  ·refine D6 (Nat.zero_le _) ?_
   have hne:(c.m==m)=false:=beq_false_of_ne (fun e=>g (hc.2 e))
   rw[hv,List.all_cons,hne];rfl
theorem ni(L:Laid w0.w){l:List Mkd}{m:UInt8}(hl:l.length≤8388608)(hR:R (.pv (.bool (ot l m))) σ):A2 (cx w0) J2.id [.pv (K4 l),.pv (.int .u8 m.toNat)] σ R:=by
 refine A2.alone L rfl (fun w1 L1=>?_) rfl hR
 refine J2.calls ?_
 rw[J2.b0_eq]
 repeat ((with_reducible first|apply A0|apply wI|apply wT|apply wP|apply wS|apply wB);exact rfl)
 rw[List.length_map]
 exact only_loop l hl m _ l 0 rfl rfl
end
end Go.Sv.U
end
