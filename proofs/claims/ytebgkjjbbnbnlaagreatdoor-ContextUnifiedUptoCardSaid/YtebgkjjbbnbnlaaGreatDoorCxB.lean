/- What the code of package context answers where it prints: a range, a run, the marks, a part. Package unified: a file's text; the law UnifiedPrints. What the code of package context answers where it prints: a part, a hunk, a file's hunks. -/
import Derived.Test.YtebgkjjbbnbnlaaGreatDoorCxX
import Derived.Test.YtebgkjjbbnbnlaaGreatDoorCxP
import Derived.Test.YtebgkjjbbnbnlaaGreatDoorSvBk
import Derived.Test.YtebgkjjbbnbnlaaGreatDoorUnP
set_option linter.unusedVariables false
set_option linter.unusedSimpArgs false
set_option maxRecDepth 100000
section
namespace Go.Sv
section
open Go Go.RowKit Go.Proofs
variable {w0:B5}{σ:A2}{R:AV→A2→Prop}
def X0(a n:Int):List UInt8:=if n<2 then Lib.itoa a else (Lib.itoa a ++ [44])++Lib.itoa (a+n-1)
theorem qq{a n:Int}(h0:0≤a)(h1:a≤2147483647)(h2:0≤n)(h3:n≤2147483647):(X0 a n).length≤41:=by
 have e1:=fx (n:=a) h0 (by omega)
 unfold X0;split
 ·omega
 ·have e2:=fx (n:=a+n-1) (by omega) (by omega)
  simp only[List.length_append,List.length_singleton];omega
theorem Dy(L:Laid w0.w){a n:Int}(h0:0≤a)(h1:a≤2147483647)(h2:0≤n)(h3:n≤2147483647)(hR:R (.pv (.str (X0 a n))) σ):A1 (cx w0) S7.id [.pv (.int .i64 a),.pv (.int .i64 n)] σ R:=by
 refine A1.alone L rfl (fun w1 L1=>?_) rfl hR
 have e1:=fx (n:=a) h0 (by omega)
 refine S7.calls ?_
 rw[S7.b0_eq,A8]
 refine B6 (fun g=>?_) (fun g=>?_)
 ·refine eh L1 (by omega) (by omega) (K9 (C4 (Nat.zero_le _) ?_))
  rw[X0,if_pos g]
 ·have e2:=fx (n:=a+n-1) (by omega) (by omega)
  refine eh L1 (by omega) (by omega) (K9 ⟨by simp only[List.length_singleton];omega,?_⟩)
  rw[F8 (n:=a+n) (by omega) (by omega),F8 (by omega) (by omega)]
  refine eh L1 (by omega) (by omega) (K9 ⟨by simp only[List.length_append,List.length_singleton];omega,C4 (Nat.zero_le _) ?_⟩)
  rw[X0,if_neg g]
theorem yr:∀l:List Row,Y0 2 (l.map I3)=true:=by
 intro l
 simp only[Y0,List.all_eq_true,List.mem_map]
 rintro x ⟨r,_,rfl⟩
 rfl
theorem Ox{l:List Row}{k:Nat}(h:k≤l.length):K5 σ B2 R7.td (.pv (M8 l)) (some (.pv (.int .i64 (k:Int)))) none=some (.pv (M8 (l.drop k))):=by
 show (if (0:Int)≤(k:Int)∧(k:Int)≤(((l.map I3).length:Nat):Int)∧(((l.map I3).length:Nat):Int)≤(((l.map I3).length:Nat):Int) then (if Y0 2 (l.map I3)=true then some (AV.pv (.sl (((l.map I3).take (((l.map I3).length:Nat):Int).toNat).drop (k:Int).toNat))) else none) else none)=_
 rw[if_pos (by rw[List.length_map];omega),if_pos (yr l)]
 simp[List.take_of_length_le]
theorem Kg{l:List Row}{k m:Nat}(h:k≤m)(hm:m≤l.length):K5 σ B2 R7.td (.pv (M8 l)) (some (.pv (.int .i64 (k:Int)))) (some (.pv (.int .i64 (m:Int))))=some (.pv (M8 ((l.take m).drop k))):=by
 show (if (0:Int)≤(k:Int)∧(k:Int)≤(m:Int)∧(m:Int)≤(((l.map I3).length:Nat):Int) then (if Y0 2 (l.map I3)=true then some (AV.pv (.sl (((l.map I3).take (m:Int).toNat).drop (k:Int).toNat))) else none) else none)=_
 rw[if_pos (by rw[List.length_map];omega),if_pos (yr l)]
 simp
abbrev aJ(n:Nat)(o f:Bool):AV:=.tup [.pv (.int .i64 (n:Int)),.pv (.bool o),.pv (.bool f)]
theorem Vg(l:List Row)(hl:l.length≤1048576)(v:AV):∀(r:List Row) (k:Nat) (o f:Bool),l.drop k=r→v=aJ (k+W3 r) (o||Q5 2 r) (f||Q5 3 r) →
  G3.n4 (G3.X w0 0) w0 0 (fun r' _=>r'=v) [] (.pv (M8 l)) (k:Int) o f:=by
 intro r
 induction r with
 | nil=>
  intro k o f hd hv
  have hk:=N5 hd
  refine G3.n4_in ?_
  rw[G3.b5_eq]
  repeat ((with_reducible first|apply A0|apply wI|apply wT|apply wP|apply wS|apply wB);exact rfl)
  rw[A8,if_neg (by rw[List.length_map];omega)]
  generalize hb:false=b
  refine G3.n8_in ?_
  rw[G3.b8_eq,←hb,I7]
  refine G3.n17_in ?_
  rw[G3.b17_eq]
  refine C4 (Nat.zero_le _) ?_
  rw[hv];simp[W3,Q5]
 | cons c r ih=>
  intro k o f hd hv
  obtain ⟨h1,h2,hk⟩:=G7 hd
  have hg:(l.map I3)[k]? = some (I3 c):=by rw[List.getElem?_map,h1];rfl
  have idx:∀σ,B9 σ B2 R7.td (.pv (M8 l)) (k:Int)=some (.ro (I3 c) 0):=fun σ=>O1 df hg rfl
  refine G3.n4_in ?_
  rw[G3.b5_eq]
  repeat ((with_reducible first|apply A0|apply wI|apply wT|apply wP|apply wS|apply wB);exact rfl)
  rw[A8,if_pos (by rw[List.length_map];omega)]
  refine A0 (idx _) ?_
  repeat ((with_reducible first|apply A0|apply wI|apply wT|apply wP|apply wS|apply wB);exact rfl)
  have key:∀t,t=(c.k != 1)→G3.n8 (G3.X w0 0) w0 0 (fun r' _=>r'=v) [] (.pv (M8 l)) (k:Int) o f t:=by
   intro t ht
   refine G3.n8_in ?_
   rw[G3.b8_eq]
   refine A7 (fun g=>?_) (fun g=>?_)
   ·have h1:c.k≠1:=by rw[g] at ht;simpa using ht.symm
    have h16:∀o' f',o'=(o||(c.k==2))→f'=(f||(c.k==3))→G3.n16 (G3.X w0 0) w0 0 (fun r' _=>r'=v) [] (.pv (M8 l)) (k:Int) o' f':=by
     rintro o' f' rfl rfl
     refine G3.n16_in ?_
     rw[G3.b16_eq,J3 hk (by omega)]
     refine ih (k+1) _ _ h2 ?_
     rw[hv,W3,if_neg h1,Q5,Q5,if_neg h1,if_neg h1,Bool.or_assoc,Bool.or_assoc]
     rw[show k+(W3 r+1)=k+1+W3 r by omega]
    have h14:∀o',o'=(o||(c.k==2))→G3.n14 (G3.X w0 0) w0 0 (fun r' _=>r'=v) [] (.pv (M8 l)) (k:Int) o' f:=by
     intro o' ho
     refine G3.n14_in ?_
     rw[G3.b14_eq]
     refine A7 (fun g2=>?_) (fun g2=>?_)
     ·generalize hb:true=b
      exact h16 _ b ho (by rw[g2,←hb];rfl)
     ·refine A0 (idx _) ?_
      repeat ((with_reducible first|apply A0|apply wI|apply wT|apply wP|apply wS|apply wB);exact rfl)
      exact h16 _ _ ho (by rw[g2];rfl)
    refine A7 (fun g2=>?_) (fun g2=>?_)
    ·generalize hb:true=b
     exact h14 b (by rw[g2,←hb];rfl)
    ·refine A0 (idx _) ?_
     repeat ((with_reducible first|apply A0|apply wI|apply wT|apply wP|apply wS|apply wB);exact rfl)
     exact h14 _ (by rw[g2];rfl)
   ·have h1:c.k=1:=by rw[g] at ht;simpa using ht.symm
    refine G3.n17_in ?_
    rw[G3.b17_eq]
    refine C4 (Nat.zero_le _) ?_
    rw[hv,W3,if_pos h1,Q5,Q5,if_pos h1,if_pos h1]
    simp
  exact key _ rfl
theorem Uo(L:Laid w0.w){l:List Row}(hl:l.length≤1048576)(hR:R (aJ (W3 l) (Q5 2 l) (Q5 3 l)) σ):A1 (cx w0) G3.id [.pv (M8 l)] σ R:=by
 refine A1.alone L rfl (fun w1 L1=>?_) rfl hR
 refine G3.calls ?_
 rw[G3.b0_eq]
 generalize hb:false=b
 have:=Vg (w0:=w1) l hl (aJ (W3 l) (Q5 2 l) (Q5 3 l)) l 0 b b rfl (by rw[← hb];simp)
 exact this
abbrev mkS(acc:List UInt8):A2:=[.arr 1 (I1 acc) false]
abbrev mkA(acc:List UInt8):AV:=.arr 0 acc.length 0 acc.length
theorem Yl(acc:List UInt8):gu 0 ([]++mkS acc) (mkA acc)=some (.pv (.sl (I1 acc))):=by
 show (if (I1 acc).length=acc.length∧0+acc.length≤acc.length then some (AV.pv (.sl (((I1 acc).drop 0).take acc.length))) else none)=_
 rw[if_pos ⟨U0 acc,by omega⟩,List.drop_zero,List.take_of_length_le (by rw[U0];omega)]
theorem xg(l:List Row)(hl:l.length≤1048576)(run:List Row)(hrun:run.length≤1048576)(o f:Bool)(acc0:List UInt8)(ha:acc0.length≤1048576)(v:AV)
  (next:E1.n6 (E1.X w0 0) w0 0 (fun r' _=>r'=v) (mkS (acc0++run.map fun x=>V2 o f x.k)) (.pv (M8 l)) (mkA (acc0++run.map fun x=>V2 o f x.k))):∀(r done:List Row),run=done++r →
  E1.n27 (E1.X w0 0) w0 0 (fun r' _=>r'=v) (mkS (acc0++done.map fun x=>V2 o f x.k)) (.pv (M8 l)) (mkA (acc0++done.map fun x=>V2 o f x.k)) o f (.pv (M8 run)) run.length done.length
 | [],done,h=>by
  rw[List.append_nil] at h
  subst h
  refine E1.n27_in ?_
  rw[E1.b28_eq,A8,if_neg (by omega)]
  exact next
 | c::r,done,h=>by
  have hk:(run.map I3)[done.length]? = some (I3 c):=by rw[h];simp
  have hlen:run.length=done.length+(r.length+1):=by rw[h];simp
  have ih:=xg l hl run hrun o f acc0 ha v next r (done ++ [c]) (by rw[h];simp)
  refine E1.n27_in ?_
  rw[E1.b28_eq,A8,if_pos (by omega)]
  refine A0 (O1 df hk rfl) ?_
  repeat ((with_reducible first|apply A0|apply wI|apply wT|apply wP|apply wS|apply wB);exact rfl)
  have h48:∀m:UInt8,m=V2 o f c.k→E1.n48 (E1.X w0 0) w0 0 (fun r' _=>r'=v) [.arr 1 (I1 ((acc0++done.map fun x=>V2 o f x.k) ++ [m])) false,.cells 51 [.pv (.int .i64 c.k),.pv (.str c.t)]] (.pv (M8 l)) (mkA ((acc0++done.map fun x=>V2 o f x.k) ++ [m])) o f (.pv (M8 run)) run.length done.length:=by
   rintro m rfl
   refine E1.n48_in ?_
   rw[E1.b48_eq,J3 (n:=run.length) (by omega) (by omega)]
   refine E1.n27_weak (M5.drop (τ:=mkS ((acc0++done.map fun x=>V2 o f x.k) ++ [V2 o f c.k])) O3 (Nat.zero_le _) rfl rfl) ?_
   simp only[List.map_append,List.map_cons,List.map_nil,List.length_append,List.length_singleton,←List.append_assoc] at ih
   exact ih
  have hal:(acc0++done.map fun x=>V2 o f x.k).length+1≤140737488355328:=by simp only[List.length_append,List.length_map];omega
  have put:∀m:UInt8,N8 [.arr 1 (I1 (acc0++done.map fun x=>V2 o f x.k)) false,.cells 51 [.pv (.int .i64 c.k),.pv (.str c.t)]] ti5 (mkA (acc0++done.map fun x=>V2 o f x.k)) (.pv (.sl [.int .u8 m.toNat]))=some (mkA ((acc0++done.map fun x=>V2 o f x.k) ++ [m]),[.arr 1 (I1 ((acc0++done.map fun x=>V2 o f x.k) ++ [m])) false,.cells 51 [.pv (.int .i64 c.k),.pv (.str c.t)]]):=fun m=>dp (id:=0) (s:=[m]) rfl rfl hal
  have h41:∀t,t=(o&&f)→E1.n41 (E1.X w0 0) w0 0 (fun r' _=>r'=v) [.arr 1 (I1 (acc0++done.map fun x=>V2 o f x.k)) false,.cells 51 [.pv (.int .i64 c.k),.pv (.str c.t)]] (.pv (M8 l)) (mkA (acc0++done.map fun x=>V2 o f x.k)) o f (.ptr 1 0) (.pv (M8 run)) run.length done.length t:=by
   intro t ht
   refine E1.n41_in ?_
   rw[E1.b41_eq]
   refine A7 (fun g=>?_) (fun g=>?_)
   ·refine J4 (v:=.pv (.sl [.int .u8 (33:UInt8).toNat])) rfl (J4 (put 33) (h48 _ ?_))
    rw[V2,←ht,if_pos g]
   ·repeat ((with_reducible first|apply A0|apply wI|apply wT|apply wP|apply wS|apply wB);exact rfl)
    rw[H6]
    refine B6 (fun g2=>?_) (fun g2=>?_)
    ·refine J4 (v:=.pv (.sl [.int .u8 (45:UInt8).toNat])) rfl (J4 (put 45) (h48 _ ?_))
     rw[V2,←ht,g,if_neg (by decide),if_pos g2]
    ·refine J4 (v:=.pv (.sl [.int .u8 (43:UInt8).toNat])) rfl (J4 (put 43) (h48 _ ?_))
     rw[V2,←ht,g,if_neg (by decide),if_neg g2]
  refine A7 (fun g=>?_) (fun g=>?_)
  ·exact h41 _ (by rw[g];simp)
  ·generalize hb:false=b
   exact h41 b (by rw[g,←hb];simp)
theorem Ok(L:Laid w0.w)(l:List Row)(hl:l.length≤1048576)(v:AV):∀(n:Nat) (acc:List UInt8),(l.drop acc.length).length≤n→acc.length≤l.length→v = .pv (.sl (I1 (acc++O8 n (l.drop acc.length)))) →
  E1.n6 (E1.X w0 0) w0 0 (fun r' _=>r'=v) (mkS acc) (.pv (M8 l)) (mkA acc):=by
 have stop:∀acc:List UInt8,v = .pv (.sl (I1 acc)) → ¬((acc.length:Int)<(l.length:Int))→E1.n6 (E1.X w0 0) w0 0 (fun r' _=>r'=v) (mkS acc) (.pv (M8 l)) (mkA acc):=by
  intro acc hv hlt
  refine E1.n6_in ?_
  rw[E1.b7_eq]
  repeat ((with_reducible first|apply A0|apply wI|apply wT|apply wP|apply wS|apply wB);exact rfl)
  rw[A8,if_neg (by rw[List.length_map];exact hlt)]
  refine E1.n49_in ?_
  rw[E1.b49_eq]
  exact U9 (σ:=[]) (L:=mkS acc) O3 rfl (Yl acc) hv.symm
 intro n
 induction n with
 | zero=>
  intro acc h ha hv
  rw[List.length_drop] at h
  refine stop acc ?_ (by omega)
  rw[hv];simp[O8]
 | succ n ih=>
  intro acc h ha hv
  cases hd:l.drop acc.length with
  | nil=>
   have hk:=N5 hd
   refine stop acc ?_ (by omega)
   rw[hv,hd];simp[O8]
  | cons c r=>
   obtain ⟨h1,h2,hk⟩:=G7 hd
   rw[hd] at hv h
   refine E1.n6_in ?_
   rw[E1.b7_eq]
   repeat ((with_reducible first|apply A0|apply wI|apply wT|apply wP|apply wS|apply wB);exact rfl)
   rw[A8,if_pos (by rw[List.length_map];omega)]
   repeat ((with_reducible first|apply A0|apply wI|apply wT|apply wP|apply wS|apply wB);exact rfl)
   refine A0 (Ox ha) ?_
   rw[hd]
   have hcl:(c::r).length≤1048576:=by
    have:=congrArg List.length hd
    rw[List.length_drop] at this
    omega
   refine Uo L hcl ?_
   have hN:=zu (c::r)
   have hdl:(l.drop acc.length).length=(c::r).length:=by rw[hd]
   rw[List.length_drop] at hdl
   repeat ((with_reducible first|apply A0|apply wI|apply wT|apply wP|apply wS|apply wB);exact rfl)
   rw[H6]
   by_cases g:c.k=1
   ·have e0:W3 (c::r)=0:=by rw[W3,if_pos g]
    rw[if_pos (by rw[e0];rfl)]
    refine J4 (v:=.pv (.sl [.int .u8 (32:UInt8).toNat])) rfl ?_
    refine J4 (dp (id:=0) (acc:=acc) (s:=[32]) rfl rfl (by simp only[List.length_singleton];omega)) ?_
    have e:l.drop (acc ++ [32]).length=r:=by rw[List.length_append];exact h2
    refine ih (acc ++ [32]) (by rw[e];simp only[List.length_cons] at h;omega) (by rw[List.length_append,List.length_singleton];omega) ?_
    rw[e,hv,O8,if_pos g,List.append_assoc];rfl
   ·have hpos:0<W3 (c::r):=by rw[W3,if_neg g];omega
    rw[if_neg (by omega)]
    repeat ((with_reducible first|apply A0|apply wI|apply wT|apply wP|apply wS|apply wB);exact rfl)
    rw[F8 (by omega) (by omega),show (acc.length:Int)+(W3 (c::r):Int)=((acc.length+W3 (c::r):Nat):Int) by omega]
    refine A0 (Kg (by omega) (by omega)) ?_
    have er:(l.take (acc.length+W3 (c::r))).drop acc.length=(c::r).take (W3 (c::r)):=by
     rw[← hd,List.drop_take,show acc.length+W3 (List.drop acc.length l)-acc.length=W3 (List.drop acc.length l) by omega]
    rw[er]
    repeat ((with_reducible first|apply A0|apply wI|apply wT|apply wP|apply wS|apply wB);exact rfl)
    rw[List.length_map]
    have hrl:((c::r).take (W3 (c::r))).length=W3 (c::r):=by rw[List.length_take];omega
    have hal:(acc++((c::r).take (W3 (c::r))).map fun x=>V2 (Q5 2 (c::r)) (Q5 3 (c::r)) x.k).length=acc.length+W3 (c::r):=by rw[List.length_append,List.length_map,hrl]
    have e:l.drop (acc++((c::r).take (W3 (c::r))).map fun x=>V2 (Q5 2 (c::r)) (Q5 3 (c::r)) x.k).length=(c::r).drop (W3 (c::r)):=by rw[hal,←List.drop_drop,hd]
    have nx:=ih (acc++((c::r).take (W3 (c::r))).map fun x=>V2 (Q5 2 (c::r)) (Q5 3 (c::r)) x.k) (by rw[e,List.length_drop];omega) (by omega) (by rw[e,hv,O8,if_neg g,List.append_assoc])
    have:=xg l hl ((c::r).take (W3 (c::r))) (by omega) (Q5 2 (c::r)) (Q5 3 (c::r)) acc (by omega) v nx ((c::r).take (W3 (c::r))) [] rfl
    simp only[List.map_nil,List.append_nil,List.length_nil] at this
    exact this
theorem Qn{σ:A2}{n:Nat}(h:n≤140737488355328):bg σ ti5 0 (n:Int)=some (.arr σ.length 0 0 0,σ ++ [.arr 1 [] false]):=by
 have hr:(0:Int)≤0∧(0:Int)≤(n:Int)∧nn (n:Int).toNat ti5.bytes∧(PV.int .u8 0).cells.length=ti5.size:=⟨by omega,by omega,⟨by rw[Int.toNat_natCast];exact h,by rw[Int.toNat_natCast];show n*1≤_;omega⟩,rfl⟩
 show (if (0:Int)≤0∧(0:Int)≤(n:Int)∧nn (n:Int).toNat ti5.bytes∧(PV.int .u8 0).cells.length=ti5.size then some (AV.arr σ.length (0:Int).toNat 0 (0:Int).toNat,σ ++ [P9.arr ti5.size (List.replicate (0:Int).toNat (PV.int .u8 0)) false]) else none)=_
 rw[if_pos hr]
 rfl
theorem Qj(L:Laid w0.w){l:List Row}(hl:l.length≤1048576)(hR:R (.pv (.sl (I1 (O8 l.length l)))) σ):A1 (cx w0) E1.id [.pv (M8 l)] σ R:=by
 refine A1.alone L rfl (fun w1 L1=>?_) rfl hR
 refine E1.calls ?_
 rw[E1.b0_eq]
 repeat ((with_reducible first|apply A0|apply wI|apply wT|apply wP|apply wS|apply wB);exact rfl)
 exact J4 (Qn (by rw[List.length_map];omega)) (Ok L1 l hl _ l.length [] (Nat.le_refl _) (Nat.zero_le _) rfl)
end
end Go.Sv
end
section
namespace Go.Sv
section
open Go Go.RowKit Go.Proofs
theorem ij:∀l:List Hnk,(∀ h∈l,Z2 h)→l.all J2=true→(l.flatMap kh).length≤150*R3 (l.map K6)
 | [],_,_=>by simp
 | h::l,ok,hv=>by
  rw[List.all_cons,Bool.and_eq_true] at hv
  have ih:=ij l (fun x hx=>ok x (List.mem_cons_of_mem _ hx)) hv.2
  have:=Fr hv.1 (ok h (by simp))
  simp only[List.flatMap_cons,List.length_append,List.map_cons]
  rw[R3]
  omega
variable {w0:B5}{σ:A2}{R:AV→A2→Prop}
abbrev nmS(p s p' s':List UInt8):A2:=[.cells 23 [.pv (.str p),.pv (.str s)],.cells 23 [.pv (.str p'),.pv (.str s')]]
abbrev prS(p s p' s' acc:List UInt8):A2:=[.cells 23 [.pv (.str p),.pv (.str s)],.cells 23 [.pv (.str p'),.pv (.str s')],.bld tyB 5 acc]
def Eo(n:Int):AV:=if n=0 then .pv (.raw .nilIface) else .pv (.iface 63 (.int .i64 n))
def aq(p s p' s':List UInt8)(l:List Hnk):AV:=.tup [.pv (.str (if T9 p s p' s' l=0 then ex p s p' s' l else [])),Eo (T9 p s p' s' l)]
theorem Qz(L:Laid w0.w)(p s p' s' x y:List UInt8)(xs:List PV)(hx:xs.length≤1048576)(v:AV):∀(r:List Hnk) (k:Nat),xs.drop k=r.map K6→(∀ h∈r,Z2 h)→(r.all J2=false→v = .tup [.pv (.str []),Eo 100]) →
  (r.all J2=true→C2.n37 (C2.X w0 0) w0 0 (fun r' _=>r'=v) (nmS p s p' s') (.pv (.sl xs)) x y) →
  C2.n18 (C2.X w0 0) w0 0 (fun r' _=>r'=v) (nmS p s p' s') (.pv (.sl xs)) x y (.pv (.sl xs)) xs.length k
 | [],k,hd,_,_,hn=>by
  have hk:=N5 hd
  refine C2.n18_in ?_
  rw[C2.b19_eq,A8,if_neg (by omega)]
  exact hn rfl
 | h::r,k,hd,ht,hb,hn=>by
  obtain ⟨h1,h2,hk⟩:=G7 hd
  have ok:=ht h (by simp)
  refine C2.n18_in ?_
  rw[C2.b19_eq,A8,if_pos (by omega)]
  refine A0 (O1 ke h1 rfl) ?_
  repeat ((with_reducible first|apply A0|apply wI|apply wT|apply wP|apply wS|apply wB);exact rfl)
  refine iq L (Nat.le_trans ok.rows (by decide)) (fun x hx=>Nat.le_trans (ok.text x hx) (by decide)) (Nat.le_trans ok.head (by decide)) ok.a ok.b ?_
  cases hv:J2 h with
  | false=>
   rw[kx,if_neg (by decide),Q1]
   refine A0 rfl (A0 (v:=false) rfl (F0 ?_))
   refine A7 (fun _=>?_) (fun h=>absurd h (by decide))
   repeat ((with_reducible first|apply A0|apply wI|apply wT|apply wP|apply wS|apply wB);exact rfl)
   refine C4 (Nat.zero_le _) ?_
   rw[hb (by rw[List.all_cons,hv,Bool.false_and])];rfl
  | true=>
   rw[kx,if_pos rfl,Q1]
   refine A0 rfl (A0 (v:=true) rfl (F0 ?_))
   refine A7 (fun h=>absurd h (by decide)) (fun _=>?_)
   rw[J3 hk (by omega)]
   refine C2.n18_weak (M5.drop (τ:=nmS p s p' s') O3 (Nat.zero_le _) rfl rfl) ?_
   exact Qz L p s p' s' x y xs hx v r (k+1) h2 (fun x hx=>ht x (List.mem_cons_of_mem _ hx)) (fun e=>hb (by rw[List.all_cons,hv,Bool.true_and,e])) (fun e=>hn (by rw[List.all_cons,hv,Bool.true_and,e]))
theorem Ry(L:Laid w0.w)(p s p' s' x y:List UInt8)(xs:List PV)(hx:xs.length≤1048576)(v:AV):∀(r:List Hnk) (g:Hnk) (k:Nat),xs.drop k=(g::r).map K6→(ak (g::r)=false→v = .tup [.pv (.str []),Eo 112]) →
  (ak (g::r)=true→C2.n58 (C2.X w0 0) w0 0 (fun r' _=>r'=v) (nmS p s p' s') (.pv (.sl xs)) x y) →
  C2.n41 (C2.X w0 0) w0 0 (fun r' _=>r'=v) (nmS p s p' s') (.pv (.sl xs)) x y ((k+1:Nat):Int)
 | [],g,k,hd,_,hn=>by
  obtain ⟨h1,h2,hk⟩:=G7 hd
  have hk2:=N5 h2
  refine C2.n41_in ?_
  rw[C2.b42_eq]
  repeat ((with_reducible first|apply A0|apply wI|apply wT|apply wP|apply wS|apply wB);exact rfl)
  rw[A8,if_neg (by omega)]
  exact hn rfl
 | h::r,g,k,hd,hb,hn=>by
  obtain ⟨h1,h2,hk⟩:=G7 hd
  obtain ⟨h3,h4,hk2⟩:=G7 h2
  have e:IntKind.wrap .i64 (((k+1:Nat):Int)-1)=(k:Int):=by rw[F8 (by omega) (by omega)];omega
  refine C2.n41_in ?_
  rw[C2.b42_eq]
  repeat ((with_reducible first|apply A0|apply wI|apply wT|apply wP|apply wS|apply wB);exact rfl)
  rw[A8,if_pos (by omega),e]
  refine A0 (O1 ke h1 rfl) ?_
  repeat ((with_reducible first|apply A0|apply wI|apply wT|apply wP|apply wS|apply wB);exact rfl)
  refine A0 (O1 ke h3 rfl) ?_
  repeat ((with_reducible first|apply A0|apply wI|apply wT|apply wP|apply wS|apply wB);exact rfl)
  refine tv L (g:=g) (h:=h) (F0 ?_)
  rw[E3]
  refine A7 (fun gg=>?_) (fun gg=>?_)
  ·rw[J3 hk2 (by omega)]
   exact Ry L p s p' s' x y xs hx v r h (k+1) h2 (fun e=>hb (by rw[ak,gg,e];rfl)) (fun e=>hn (by rw[ak,gg,e];rfl))
  ·repeat ((with_reducible first|apply A0|apply wI|apply wT|apply wP|apply wS|apply wB);exact rfl)
   refine C4 (Nat.zero_le _) ?_
   rw[hb (by rw[ak,gg];rfl)];rfl
theorem Ra(L:Laid w0.w)(p s p' s':List UInt8)(xs:List PV)(hx:xs.length≤1048576)(v:AV):∀(r:List Hnk) (k:Nat) (acc:List UInt8),xs.drop k=r.map K6→(∀ h∈r,Z2 h)→(∀ h∈r,pvB (K6 h)≤8388608)→r.all J2=true →
  acc.length+(r.flatMap kh).length≤140737488355328→v = .tup [.pv (.str (acc++r.flatMap kh)),.pv (.raw .nilIface)] →
  C2.n66 (C2.X w0 0) w0 0 (fun r' _=>r'=v) (prS p s p' s' acc) (.ptr 2 0) (.pv (.sl xs)) xs.length k
 | [],k,acc,hd,_,_,_,_,hv=>by
  have hk:=N5 hd
  refine C2.n66_in ?_
  rw[C2.b67_eq,A8,if_neg (by omega)]
  refine C2.n89_in ?_
  rw[C2.b89_eq]
  refine de rfl (K9 (C4 (Nat.zero_le _) ?_))
  rw[hv];simp
 | h::r,k,acc,hd,ht,hB,ha,hl,hv=>by
  obtain ⟨h1,h2,hk⟩:=G7 hd
  have ok:=ht h (by simp)
  rw[List.all_cons,Bool.and_eq_true] at ha
  simp only[List.flatMap_cons,List.length_append] at hl
  refine C2.n66_in ?_
  rw[C2.b67_eq,A8,if_pos (by omega)]
  refine A0 (O1 ke h1 rfl) ?_
  repeat ((with_reducible first|apply A0|apply wI|apply wT|apply wP|apply wS|apply wB);exact rfl)
  refine Tp L ok (hB h (by simp)) ?_
  unfold jr
  rw[if_pos ha.1,ha.1,kx,if_pos rfl]
  repeat ((with_reducible first|apply A0|apply wI|apply wT|apply wP|apply wS|apply wB);exact rfl)
  rw[Q1]
  refine A0 rfl (A0 (v:=true) rfl (F0 ?_))
  refine A7 (fun h=>absurd h (by decide)) (fun _=>?_)
  refine I6 (id:=2) rfl (by omega) ?_
  rw[J3 hk (by omega)]
  refine C2.n66_weak (M5.drop (τ:=prS p s p' s' (acc++kh h)) O3 (Nat.zero_le _) rfl rfl) ?_
  exact Ra L p s p' s' xs hx v r (k+1) (acc++kh h) h2 (fun x hx=>ht x (List.mem_cons_of_mem _ hx)) (fun x hx=>hB x (List.mem_cons_of_mem _ hx)) ha.2 (by simp only[List.length_append];omega) (by rw[hv,List.flatMap_cons,List.append_assoc])
theorem Dv(p s p' s':List UInt8)(l:List Hnk):AV.under 0 (aq p s p' s' l)=true:=by unfold aq Eo;split<;>rfl
structure rg(p s p' s':List UInt8)(l:List Hnk):Prop where
 p:p.length≤1048576
 s:s.length≤1048576
 p':p'.length≤1048576
 s':s'.length≤1048576
 len:l.length≤1048576
 ok:∀h∈l,Z2 h
 bulk:R3 (l.map K6)≤8388608
theorem rg.one{p s p' s':List UInt8}{l:List Hnk}(o:rg p s p' s' l):∀h∈l,pvB (K6 h)≤8388608:=fun h hh=>Nat.le_trans (Cg _ _ (List.mem_map_of_mem (f:=K6) hh)) o.bulk
theorem Cc(L:Laid w0.w){p s p' s':List UInt8}{l:List Hnk}(o:rg p s p' s' l)(hR:R (aq p s p' s' l) σ):A1 (cx w0) C2.id [.pv (nmP p s),.pv (nmP p' s'),cg l] σ R:=by
 refine A1.alone L rfl (fun w1 L1=>?_) (Dv p s p' s' l) hR
 have q1:=mz (p:=p) (s:=s)
 have q2:=mz (p:=p') (s:=s')
 have o1:=o.p
 have o2:=o.s
 have o3:=o.p'
 have o4:=o.s'
 have hx:(l.map K6).length≤1048576:=by rw[List.length_map];exact o.len
 have fin:∀t,t = !(N2 p s&&N2 p' s')→C2.n9 (C2.X w1 0) w1 0 (fun r' _=>r'=aq p s p' s' l) (nmS p s p' s') (cg l) (if N2 p s=true then N4 p s else []) (if N2 p' s'=true then N4 p' s' else []) t:=by
  rintro t rfl
  refine C2.n9_in ?_
  rw[C2.b9_eq,E3]
  refine A7 (fun g=>?_) (fun g=>?_)
  ·rw[Bool.and_eq_true] at g
   rw[if_pos g.1,if_pos g.2]
   repeat ((with_reducible first|apply A0|apply wI|apply wT|apply wP|apply wS|apply wB);exact rfl)
   refine Qz L1 p s p' s' _ _ (l.map K6) hx _ l 0 rfl o.ok (fun e=>?_) (fun e=>?_)
   ·have:T9 p s p' s' l=100:=by simp[T9,g.1,g.2,e]
    simp[aq,this]
   refine C2.n37_in ?_
   rw[C2.b37_eq]
   have last:ak l=true→C2.n58 (C2.X w1 0) w1 0 (fun r' _=>r'=aq p s p' s' l) (nmS p s p' s') (cg l) (N4 p s) (N4 p' s'):=by
    intro e2
    have hf:T9 p s p' s' l=0:=by simp[T9,g.1,g.2,e,e2]
    have fl:=ij l o.ok e
    have ob:=o.bulk
    refine C2.n58_in ?_
    rw[C2.b58_eq]
    refine ⟨by simp only[List.length_cons,List.length_nil];omega,by simp only[List.length_append,List.length_cons,List.length_nil];omega,by simp only[List.length_append,List.length_cons,List.length_nil];omega,by simp only[List.length_append,List.length_cons,List.length_nil];omega,?_⟩
    refine I6 (id:=2) rfl (by simp only[List.length_append,List.length_cons,List.length_nil];omega) ?_
    repeat ((with_reducible first|apply A0|apply wI|apply wT|apply wP|apply wS|apply wB);exact rfl)
    rw[List.nil_append]
    refine Ra L1 p s p' s' (l.map K6) hx _ l 0 _ rfl o.ok o.one e (by simp only[List.length_append,List.length_cons,List.length_nil];omega) ?_
    unfold aq
    rw[hf,if_pos rfl,Eo,if_pos rfl];rfl
   match l,last with
   | [],last=>
    refine C2.n41_in ?_
    rw[C2.b42_eq]
    repeat ((with_reducible first|apply A0|apply wI|apply wT|apply wP|apply wS|apply wB);exact rfl)
    rw[A8,if_neg (by decide)]
    exact last rfl
   | g0::r,last=>
    have:=Ry L1 p s p' s' (N4 p s) (N4 p' s') ((g0::r).map K6) hx (aq p s p' s' (g0::r)) r g0 0 rfl (fun e2=>by
     have:T9 p s p' s' (g0::r)=112:=by simp[T9,g.1,g.2,e2];simpa using e
     simp[aq,this]) last
    exact this
  ·repeat ((with_reducible first|apply A0|apply wI|apply wT|apply wP|apply wS|apply wB);exact rfl)
   refine C4 (Nat.zero_le _) ?_
   have:T9 p s p' s' l=110:=by simp[T9,g]
   simp[aq,this];rfl
 refine C2.calls ?_
 rw[C2.b0_eq]
 refine ⟨rfl,rfl,?_⟩
 repeat ((with_reducible first|apply A0|apply wI|apply wT|apply wP|apply wS|apply wB);exact rfl)
 refine yy L1 o.p o.s ?_
 repeat ((with_reducible first|apply A0|apply wI|apply wT|apply wP|apply wS|apply wB);exact rfl)
 refine yy L1 o.p' o.s' ?_
 repeat ((with_reducible first|apply A0|apply wI|apply wT|apply wP|apply wS|apply wB);exact rfl)
 rw[E3]
 refine A7 (fun g=>fin _ ?_) (fun g=>fin _ ?_)
 ·rw[g];rfl
 ·rw[g];rfl
end
end Go.Sv
end
section
namespace Go.Sv
section
open Go Go.RowKit Go.Proofs
variable {w0:B5}{σ:A2}{R:AV→A2→Prop}
theorem qg(kd:Int):∀(l:List Row) (m:List UInt8),(jm kd l m).length≤33*R3 (l.map I3)
 | [],m=>by simp[jm]
 | r::l,[]=>by simp[jm]
 | r::l,c::m=>by
  have ih:=qg kd l m
  have ht:(cy r.t).length≤r.t.length+29:=by
   unfold cy;split
   ·omega
   ·simp only[List.length_append,List.length_cons,List.length_nil,nu];omega
  simp only[List.map_cons,R3,pvB,jm,List.length_append]
  split
  ·simp only[List.length_cons];omega
  ·simp only[List.length_nil];omega
theorem wj(kd:Int)(l:List Row)(m:List UInt8):(Bg kd l m).length≤33*R3 (l.map I3):=by
 have:=qg kd l m
 unfold Bg;split
 ·exact this
 ·simp
abbrev ptS(C:Hnk)(acc:List UInt8):A2:=[.cells 39 (jq C),.bld tyB 5 acc]
theorem Md{C:Hnk}{acc m:List UInt8}(l:List Row)(hl:l.length≤1048576)(kd:Int)(next:D4.n19 (D4.X w0 2) w0 2 R (ptS C acc) (.ptr 1 0) (.pv (M8 l)) (.pv (.sl (I1 m))) kd (ee kd l)):∀(r:List Row) (k:Nat) (a:Bool),l.drop k=r→(a||ee kd r)=ee kd l →
  D4.n6 (D4.X w0 2) w0 2 R (ptS C acc) (.ptr 1 0) (.pv (M8 l)) (.pv (.sl (I1 m))) kd a (.pv (M8 l)) l.length k
 | [],k,a,hd,ha=>by
  have hk:=N5 hd
  refine D4.n6_in ?_
  rw[D4.b7_eq,A8,if_neg (by omega)]
  have:a=ee kd l:=by rw[← ha];simp[ee]
  rw[this];exact next
 | c::r,k,a,hd,ha=>by
  obtain ⟨h1,h2,hk⟩:=G7 hd
  have hg:(l.map I3)[k]? = some (I3 c):=by rw[List.getElem?_map,h1];rfl
  have h18:∀a',(a'||ee kd r)=ee kd l→D4.n18 (D4.X w0 2) w0 2 R (ptS C acc ++ [.cells 51 [.pv (.int .i64 c.k),.pv (.str c.t)]]) (.ptr 1 0) (.pv (M8 l)) (.pv (.sl (I1 m))) kd a' (.pv (M8 l)) l.length k:=by
   intro a' ha'
   refine D4.n18_in ?_
   rw[D4.b18_eq,J3 hk (by omega)]
   refine D4.n6_weak (M5.drop (τ:=ptS C acc) O3 (Nat.le_of_ble_eq_true rfl) rfl rfl) ?_
   exact Md l hl kd next r (k+1) a' h2 ha'
  refine D4.n6_in ?_
  rw[D4.b7_eq,A8,if_pos (by omega)]
  refine A0 (O1 df hg rfl) ?_
  repeat ((with_reducible first|apply A0|apply wI|apply wT|apply wP|apply wS|apply wB);exact rfl)
  refine A7 (fun g=>?_) (fun g=>?_)
  ·generalize hb:true=b
   refine h18 b ?_
   rw[← ha,g,←hb];simp
  ·repeat ((with_reducible first|apply A0|apply wI|apply wT|apply wP|apply wS|apply wB);exact rfl)
   refine h18 _ ?_
   rw[← ha,g];simp[ee]
theorem Ly{C:Hnk}(l:List Row)(hl:l.length≤1048576)(ht:∀x∈l,x.t.length≤1048576)(kd:Int)(any:Bool)(m:List UInt8)(hm:m.length=l.length):∀(r:List Row) (k:Nat) (acc:List UInt8),l.drop k=r →
  acc.length+(jm kd r (m.drop k)).length≤140737488355328→R (.tup []) (ptS C (acc++if any=true then jm kd r (m.drop k) else [])) →
  D4.n22 (D4.X w0 2) w0 2 R (ptS C acc) (.ptr 1 0) (.pv (.sl (I1 m))) kd any (.pv (M8 l)) l.length k
 | [],k,acc,hd,_,hR=>by
  have hk:=N5 hd
  refine D4.n22_in ?_
  rw[D4.b23_eq,A8,if_neg (by omega)]
  refine C4 (Nat.le_of_ble_eq_true rfl) ?_
  have e:jm kd [] (m.drop k) = []:=by cases m.drop k<;>rfl
  rw[e] at hR;simpa using hR
 | c::r,k,acc,hd,hB,hR=>by
  obtain ⟨h1,h2,hk⟩:=G7 hd
  have hg:(l.map I3)[k]? = some (I3 c):=by rw[List.getElem?_map,h1];rfl
  have hc:=ht c (List.mem_of_getElem? h1)
  obtain ⟨b,hmb⟩:∃b,m[k]? = some b:=⟨m[k]'(by omega),List.getElem?_eq_getElem (by omega)⟩
  have hmg:(I1 m)[k]? = some (.int .u8 b.toNat):=by unfold I1;rw[List.getElem?_map,hmb];rfl
  have hmd:m.drop k=b::m.drop (k+1):=Qp hmb
  rw[hmd,jm] at hB hR
  have h48:∀acc',acc'.length+(jm kd r (m.drop (k+1))).length≤140737488355328→R (.tup []) (ptS C (acc'++if any=true then jm kd r (m.drop (k+1)) else []))→D4.n48 (D4.X w0 2) w0 2 R (ptS C acc' ++ [.cells 51 [.pv (.int .i64 c.k),.pv (.str c.t)]]) (.ptr 1 0) (.pv (.sl (I1 m))) kd any (.pv (M8 l)) l.length k:=by
   intro acc' hB' hR'
   refine D4.n48_in ?_
   rw[D4.b48_eq,J3 hk (by omega)]
   refine D4.n22_weak (M5.drop (τ:=ptS C acc') O3 (Nat.le_of_ble_eq_true rfl) rfl rfl) ?_
   exact Ly l hl ht kd any m hm r (k+1) acc' h2 hB' hR'
  have h36:∀t,t = !(any&&decide (c.k=1∨c.k=kd))→D4.n36 (D4.X w0 2) w0 2 R (ptS C acc ++ [.cells 51 [.pv (.int .i64 c.k),.pv (.str c.t)]]) (.ptr 1 0) (.pv (.sl (I1 m))) kd any (k:Int) (.ptr 2 0) (.pv (M8 l)) l.length k t:=by
   intro t htt
   refine D4.n36_in ?_
   rw[D4.b36_eq]
   refine A7 (fun g=>?_) (fun g=>?_)
   ·refine h48 acc ?_ ?_
    ·simp only[List.length_append] at hB;omega
    ·rw[g] at htt
     cases ha:any with
     | false=>rw[ha] at hR;exact hR
     | true=>
      rw[ha,Bool.true_and] at htt
      have:¬(c.k=1∨c.k=kd):=by simpa using htt
      rw[ha,if_pos rfl,if_neg this,List.nil_append] at hR
      simpa using hR
   ·rw[g] at htt
    have h3:any=true∧(c.k=1∨c.k=kd):=by
     have h4:(any&&decide (c.k=1∨c.k=kd))=true:=by
      cases hh:(any&&decide (c.k=1∨c.k=kd)) with
      | true=>rfl
      | false=>rw[hh] at htt;cases htt
     rw[Bool.and_eq_true,decide_eq_true_eq] at h4
     exact h4
    rw[if_pos h3.2] at hB hR
    rw[h3.1,if_pos rfl] at hR
    simp only[List.length_append,List.length_cons] at hB
    have hlt:(cy c.t).length=if L6 c.t=true then c.t.length else c.t.length+29:=by
     unfold cy;split
     ·rfl
     ·simp only[List.length_append,List.length_cons,List.length_nil,nu]
    refine A0 (O1 tab5 hmg rfl) ?_
    repeat ((with_reducible first|apply A0|apply wI|apply wT|apply wP|apply wS|apply wB);exact rfl)
    refine Y4 (id:=1) rfl (by omega) ?_
    repeat ((with_reducible first|apply A0|apply wI|apply wT|apply wP|apply wS|apply wB);exact rfl)
    refine ⟨by simp only[List.length_singleton];omega,?_⟩
    refine I6 (id:=1) rfl (by simp only[List.length_append,List.length_singleton];split at hlt<;>omega) ?_
    repeat ((with_reducible first|apply A0|apply wI|apply wT|apply wP|apply wS|apply wB);exact rfl)
    refine ik (by omega) (F0 ?_)
    rw[E3]
    refine A7 (fun g2=>?_) (fun g2=>?_)
    ·rw[if_pos g2] at hlt
     have et:cy c.t=c.t:=by unfold cy;rw[if_pos g2]
     refine h48 ((acc ++ [b])++([32]++c.t)) (by simp only[List.length_append,List.length_singleton];omega) ?_
     rw[h3.1,if_pos rfl]
     rw[et] at hR
     simpa using hR
    ·rw[if_neg (by rw[g2];decide)] at hlt
     have et:cy c.t=(c.t ++ [10])++nu:=by unfold cy;rw[if_neg (by rw[g2];decide)]
     refine I6 (id:=1) rfl (by simp only[List.length_append,List.length_cons,List.length_nil];omega) ?_
     refine h48 (((acc ++ [b])++([32]++c.t))++(10::nu)) (by simp only[List.length_append,List.length_cons,List.length_nil,nu];omega) ?_
     rw[h3.1,if_pos rfl]
     rw[et] at hR
     simpa using hR
  refine D4.n22_in ?_
  rw[D4.b23_eq,A8,if_pos (by omega)]
  refine A0 (O1 df hg rfl) ?_
  repeat ((with_reducible first|apply A0|apply wI|apply wT|apply wP|apply wS|apply wB);exact rfl)
  rw[E3]
  refine A7 (fun g=>?_) (fun g=>?_)
  ·repeat ((with_reducible first|apply A0|apply wI|apply wT|apply wP|apply wS|apply wB);exact rfl)
   rw[Q2]
   refine B6 (fun g2=>?_) (fun g2=>?_)
   ·generalize hb:false=b'
    refine h36 b' ?_
    rw[← hb,g,decide_eq_true (.inl g2)];rfl
   ·repeat ((with_reducible first|apply A0|apply wI|apply wT|apply wP|apply wS|apply wB);exact rfl)
    refine h36 _ ?_
    rw[g,Bool.true_and]
    have:(c.k=1∨c.k=kd)↔c.k=kd:=⟨fun e=>e.resolve_left g2,.inr⟩
    rw[decide_eq_decide.2 this]
    cases he:decide (c.k=kd) with
    | true=>have:=of_decide_eq_true he;simp[this]
    | false=>have:=of_decide_eq_false he;simp[this]
  ·generalize hb:true=b'
   refine h36 b' ?_
   rw[← hb,g];rfl
theorem Gb{C:Hnk}{l:List Row}{kd:Int}{m acc:List UInt8}(hl:l.length≤1048576)(ht:∀x∈l,x.t.length≤1048576)(hm:m.length=l.length)(hB:acc.length+(jm kd l m).length≤140737488355328)(hR:R (.tup []) (ptS C (acc++Bg kd l m))):
  A1 (cx w0) D4.id [.ptr 1 0,.pv (M8 l),.pv (.sl (I1 m)),.pv (.int .i64 kd)] (ptS C acc) R:=by
 refine D4.calls ?_
 rw[D4.b0_eq]
 repeat ((with_reducible first|apply A0|apply wI|apply wT|apply wP|apply wS|apply wB);exact rfl)
 rw[List.length_map]
 generalize hb:false=b
 have h19:D4.n19 (D4.X w0 2) w0 2 R (ptS C acc) (.ptr 1 0) (.pv (M8 l)) (.pv (.sl (I1 m))) kd (ee kd l):=by
  refine D4.n19_in ?_
  rw[D4.b19_eq]
  repeat ((with_reducible first|apply A0|apply wI|apply wT|apply wP|apply wS|apply wB);exact rfl)
  rw[List.length_map]
  exact Ly l hl ht kd (ee kd l) m hm l 0 acc rfl hB hR
 exact Md l hl kd h19 l 0 b rfl (by rw[← hb];simp)
end
end Go.Sv
end
