/- What the code of package context answers where it prints: a hunk, a file's hunks. What is printed is read again: headers and numbers of a context diff, as plain lists. What is printed is read again: the lines of a part, as plain lists. What the code of Go functions comes to over abstract stores, piece by piece; each equation by the kernel. Printed by a program of this session. -/
import Derived.Test.YtebgkjjbbnbnlaaGreatDoorCxB
import Derived.Test.YtebgkjjbbnbnlaaGreatDoorCxX
import Derived.Test.YtebgkjjbbnbnlaaGreatDoorUnL
import Derived.Test.YtebgkjjbbnbnlaaGreatDoorSvT
import Derived.KernelRfl
set_option linter.unusedVariables false
set_option linter.unusedSimpArgs false
set_option maxRecDepth 100000
section
namespace Go.Sv
section
open Go Go.RowKit Go.Proofs
variable {w0:B5}{σ:A2}{R:AV→A2→Prop}
abbrev Cs:List UInt8:=[42,42,42,42,42,42,42,42,42,42,42,42,42,42,42]
def Z0(h:Hnk):List UInt8:=if h.head = [] then Cs else Cs++([32]++h.head)
def jk(h:Hnk):List UInt8:=(((Z0 h++(([10,42,42,42,32]++X0 h.a h.n) ++ [32,42,42,42,42,10]))++Bg 2 h.rows (O8 h.rows.length h.rows))++(([45,45,45,32]++X0 h.b h.m) ++ [32,45,45,45,45,10]))++Bg 3 h.rows (O8 h.rows.length h.rows)
theorem Cz(h:Hnk):(Z0 h).length≤16+h.head.length:=by
 unfold Z0;split
 ·simp;omega
 ·simp only[List.length_append,List.length_cons,List.length_nil];omega
theorem Pv{h:Hnk}(hv:J2 h=true)(ok:Z2 h):(jk h).length≤300*pvB (K6 h):=by
 obtain ⟨v1,v2,v3,v4⟩:=kq hv ok
 have e1:=qq (a:=h.a) (n:=h.n) v1.1 v1.2 v2.1 v2.2
 have e2:=qq (a:=h.b) (n:=h.m) v3.1 v3.2 v4.1 v4.2
 have e3:=wj 2 h.rows (O8 h.rows.length h.rows)
 have e4:=wj 3 h.rows (O8 h.rows.length h.rows)
 have e5:=Cz h
 unfold jk
 simp only[List.length_append,List.length_cons,List.length_nil,pvB,R3]
 omega
def jf(h:Hnk):AV:=.tup [.pv (.str (if J2 h=true then jk h else [])),kx (J2 h)]
theorem Bk(h:Hnk):AV.under 0 (jf h)=true:=by unfold jf kx;split<;>rfl
theorem Oq(L:Laid w0.w){h:Hnk}(ok:Z2 h)(hB:pvB (K6 h)≤8388608)(hR:R (jf h) σ):A1 (cx w0) P5.id [.pv (K6 h)] σ R:=by
 refine A1.alone L rfl (fun w1 L1=>?_) (Bk h) hR
 refine P5.calls ?_
 rw[P5.b0_eq]
 refine ⟨rfl,?_⟩
 repeat ((with_reducible first|apply A0|apply wI|apply wT|apply wP|apply wS|apply wB);exact rfl)
 refine iq L1 (Nat.le_trans ok.rows (by decide)) (fun x hx=>Nat.le_trans (ok.text x hx) (by decide)) (Nat.le_trans ok.head (by decide)) ok.a ok.b ?_
 cases hv:J2 h with
 | false=>
  rw[kx,if_neg (by decide),Q1]
  refine A0 rfl (A0 (v:=false) rfl (F0 ?_))
  rw[Bool.not_false,L4]
  refine C4 (Nat.zero_le _) ?_
  unfold jf
  rw[hv];rfl
 | true=>
  rw[kx,if_pos rfl,Q1]
  refine A0 rfl (A0 (v:=true) rfl (F0 ?_))
  rw[Bool.not_true,I7]
  obtain ⟨v1,v2,v3,v4⟩:=kq hv ok
  have e1:=qq (a:=h.a) (n:=h.n) v1.1 v1.2 v2.1 v2.2
  have e2:=qq (a:=h.b) (n:=h.m) v3.1 v3.2 v4.1 v4.2
  obtain ⟨hm,_⟩:=pu h.rows.length [] h.rows (Nat.le_refl _) (.inl rfl)
  have e3:=qg 2 h.rows (O8 h.rows.length h.rows)
  have e4:=qg 3 h.rows (O8 h.rows.length h.rows)
  have e3':=wj 2 h.rows (O8 h.rows.length h.rows)
  have e5:=Cz h
  have e6:=ok.head
  have hB':R3 (h.rows.map I3)≤8388608:=by simp only[pvB,R3] at hB;omega
  have fin:∀s,s=Z0 h→P5.n22 (P5.X w1 0) w1 0 (fun r' _=>r'=jf h) (ptS h s) (.ptr 0 0) (.ptr 1 0):=by
   rintro s rfl
   refine P5.n22_in ?_
   rw[P5.b22_eq]
   repeat ((with_reducible first|apply A0|apply wI|apply wT|apply wP|apply wS|apply wB);exact rfl)
   refine Qj L1 ok.rows ?_
   repeat ((with_reducible first|apply A0|apply wI|apply wT|apply wP|apply wS|apply wB);exact rfl)
   refine Dy L1 v1.1 v1.2 v2.1 v2.2 (K9 ⟨by simp only[List.length_cons,List.length_nil];omega,by simp only[List.length_append,List.length_cons,List.length_nil];omega,?_⟩)
   refine I6 (id:=1) rfl (by simp only[List.length_append,List.length_cons,List.length_nil];omega) ?_
   repeat ((with_reducible first|apply A0|apply wI|apply wT|apply wP|apply wS|apply wB);exact rfl)
   refine Gb (C:=h) ok.rows ok.text hm (by simp only[List.length_append,List.length_cons,List.length_nil];omega) ?_
   repeat ((with_reducible first|apply A0|apply wI|apply wT|apply wP|apply wS|apply wB);exact rfl)
   refine Dy L1 v3.1 v3.2 v4.1 v4.2 (K9 ⟨by simp only[List.length_cons,List.length_nil];omega,by simp only[List.length_append,List.length_cons,List.length_nil];omega,?_⟩)
   refine I6 (id:=1) rfl (by simp only[List.length_append,List.length_cons,List.length_nil];omega) ?_
   repeat ((with_reducible first|apply A0|apply wI|apply wT|apply wP|apply wS|apply wB);exact rfl)
   refine Gb (C:=h) ok.rows ok.text hm (by simp only[List.length_append,List.length_cons,List.length_nil];omega) ?_
   refine de rfl (K9 (C4 (Nat.zero_le _) ?_))
   unfold jf
   rw[hv];rfl
  refine I6 (id:=1) rfl (by simp only[List.length_cons,List.length_nil];omega) ?_
  repeat ((with_reducible first|apply A0|apply wI|apply wT|apply wP|apply wS|apply wB);exact rfl)
  rw[E3,U5]
  refine B6 (fun g=>fin _ ?_) (fun g=>?_)
  ·rw[Z0,if_pos g];rfl
  ·repeat ((with_reducible first|apply A0|apply wI|apply wT|apply wP|apply wS|apply wB);exact rfl)
   refine ⟨by simp only[List.length_cons,List.length_nil];omega,?_⟩
   refine I6 (id:=1) rfl (by simp only[List.length_append,List.length_cons,List.length_nil];omega) (fin _ ?_)
   rw[Z0,if_neg g];rfl
def zw(p s p' s':List UInt8):List UInt8:=(([42,42,42,32]++(N4 p s ++ [10])) ++ [45,45,45,32])++(N4 p' s' ++ [10])
def fg(p s p' s':List UInt8)(l:List Hnk):List UInt8:=zw p s p' s'++l.flatMap jk
def ie(p s p' s':List UInt8)(l:List Hnk):AV:=.tup [.pv (.str (if T9 p s p' s' l=0 then fg p s p' s' l else [])),Eo (T9 p s p' s' l)]
theorem zp(p s p' s':List UInt8)(l:List Hnk):AV.under 0 (ie p s p' s' l)=true:=by unfold ie Eo;split<;>rfl
theorem nk:∀l:List Hnk,(∀ h∈l,Z2 h)→l.all J2=true→(l.flatMap jk).length≤300*R3 (l.map K6)
 | [],_,_=>by simp
 | h::l,ok,hv=>by
  rw[List.all_cons,Bool.and_eq_true] at hv
  have ih:=nk l (fun x hx=>ok x (List.mem_cons_of_mem _ hx)) hv.2
  have:=Pv hv.1 (ok h (by simp))
  simp only[List.flatMap_cons,List.length_append,List.map_cons]
  rw[R3]
  omega
theorem Py{p s p' s':Ln}{l:List Hnk}(h1:N2 p s=true)(h2:N2 p' s'=true):∃r,M7 (ex p s p' s' l)=([45,45,45,32]++(N4 p s ++ [10]))::([43,43,43,32]++(N4 p' s' ++ [10]))::r:=by
 have e:ex p s p' s' l=([45,45,45,32]++(N4 p s ++ [10]))++(([43,43,43,32]++(N4 p' s' ++ [10]))++l.flatMap kh):=by unfold ex;simp
 have l1:=N9 [45,45,45,32] _ (by decide) (N9 _ [10] (dy h1) rfl)
 have l2:=N9 [43,43,43,32] _ (by decide) (N9 _ [10] (dy h2) rfl)
 have w1:Dw ([45,45,45,32]++(N4 p s ++ [10]))=true:=by unfold Dw;rw[K2 (by simp),K2 (by simp)];rw[Bool.or_eq_true];exact .inr rfl
 have w2:Dw ([43,43,43,32]++(N4 p' s' ++ [10]))=true:=by unfold Dw;rw[K2 (by simp),K2 (by simp)];rw[Bool.or_eq_true];exact .inr rfl
 rw[e,cm _ _ w1,cm _ _ w2,km _ l1,km _ l2]
 exact ⟨_,rfl⟩
theorem Ot{σ:A2}{ls:List Ln}{k:Nat}(h:k≤ls.length):K5 σ B2 X7.td (.pv (re ls)) none (some (.pv (.int .i64 (k:Int))))=some (.pv (re (ls.take k))):=by
 show (if (0:Int)≤0∧(0:Int)≤(k:Int)∧(k:Int)≤(((ls.map PV.str).length:Nat):Int) then (if Y0 1 (ls.map PV.str)=true then some (AV.pv (.sl (((ls.map PV.str).take (k:Int).toNat).drop (0:Int).toNat))) else none) else none)=_
 have e:Y0 1 (ls.map PV.str)=true:=by
  simp only[Y0,List.all_eq_true,List.mem_map]
  rintro x ⟨r,_,rfl⟩
  rfl
 rw[if_pos (by rw[List.length_map];omega),if_pos e]
 simp
abbrev nmB(p s p' s' acc:List UInt8):A2:=nmS p s p' s' ++ [.bld tyB 5 acc]
theorem xw(L:Laid w0.w)(p s p' s':List UInt8)(xs:List PV)(hx:xs.length≤1048576)(v:AV):∀(r:List Hnk) (k:Nat) (acc:List UInt8),xs.drop k=r.map K6→(∀ h∈r,Z2 h∧pvB (K6 h)≤8388608)→r.all J2=true →
  acc.length+(r.flatMap jk).length≤140737488355328→v = .tup [.pv (.str (acc++r.flatMap jk)),.pv (.raw .nilIface)] →
  L5.n22 (L5.X w0 0) w0 0 (fun r' _=>r'=v) (nmB p s p' s' acc) (.ptr 2 0) (.pv (.sl xs)) xs.length k
 | [],k,acc,hd,_,_,_,hv=>by
  have hk:=N5 hd
  refine L5.n22_in ?_
  rw[L5.b23_eq,A8,if_neg (by omega)]
  refine L5.n45_in ?_
  rw[L5.b45_eq]
  refine de rfl (K9 (C4 (Nat.zero_le _) ?_))
  rw[hv];simp
 | h::r,k,acc,hd,ok,hva,hl,hv=>by
  obtain ⟨h1,h2,hk⟩:=G7 hd
  obtain ⟨o1,o2⟩:=ok h (by simp)
  rw[List.all_cons,Bool.and_eq_true] at hva
  simp only[List.flatMap_cons,List.length_append] at hl
  refine L5.n22_in ?_
  rw[L5.b23_eq,A8,if_pos (by omega)]
  refine A0 (O1 ke h1 rfl) ?_
  repeat ((with_reducible first|apply A0|apply wI|apply wT|apply wP|apply wS|apply wB);exact rfl)
  refine Oq L (h:=h) o1 o2 ?_
  unfold jf kx
  rw[hva.1,if_pos rfl,if_pos rfl]
  repeat ((with_reducible first|apply A0|apply wI|apply wT|apply wP|apply wS|apply wB);exact rfl)
  rw[Q1]
  refine A0 rfl (A0 (v:=true) rfl (F0 ?_))
  rw[Bool.not_true,I7]
  refine I6 (id:=2) rfl (by omega) ?_
  rw[J3 hk (by omega)]
  refine L5.n22_weak (M5.drop (τ:=nmB p s p' s' (acc++jk h)) O3 (Nat.zero_le _) rfl rfl) ?_
  exact xw L p s p' s' xs hx v r (k+1) _ h2 (fun x hx=>ok x (List.mem_cons_of_mem _ hx)) hva.2 (by simp only[List.length_append];omega) (by rw[hv,List.flatMap_cons,List.append_assoc])
theorem Mu(L:Laid w0.w){p s p' s':List UInt8}{l:List Hnk}(o:rg p s p' s' l)(hR:R (ie p s p' s' l) σ):A1 (cx w0) L5.id [.pv (nmP p s),.pv (nmP p' s'),cg l] σ R:=by
 refine A1.alone L rfl (fun w1 L1=>?_) (zp p s p' s' l) hR
 have q1:=mz (p:=p) (s:=s)
 have q2:=mz (p:=p') (s:=s')
 have o1:=o.p
 have o2:=o.s
 have o3:=o.p'
 have o4:=o.s'
 have hx:(l.map K6).length≤1048576:=by rw[List.length_map];exact o.len
 refine L5.calls ?_
 rw[L5.b0_eq]
 refine ⟨rfl,rfl,?_⟩
 repeat ((with_reducible first|apply A0|apply wI|apply wT|apply wP|apply wS|apply wB);exact rfl)
 refine Cc L1 o ?_
 unfold aq Eo
 by_cases hf:T9 p s p' s' l=0
 ·rw[if_pos hf,if_pos hf]
  repeat ((with_reducible first|apply A0|apply wI|apply wT|apply wP|apply wS|apply wB);exact rfl)
  rw[Q1]
  refine A0 rfl (A0 (v:=true) rfl (F0 ?_))
  rw[Bool.not_true,I7]
  obtain ⟨g1,g2,g3⟩:(N2 p s=true∧N2 p' s'=true)∧l.all J2=true∧ak l=true:=by
   unfold T9 at hf
   split at hf
   ·cases hf
   ·rename_i g1
    split at hf
    ·cases hf
    ·rename_i g2
     split at hf
     ·cases hf
     ·rename_i g3
      exact ⟨by rw[← Bool.and_eq_true];simpa using g1,by simpa using g2,by simpa using g3⟩
  have ob:=o.bulk
  have fl:=ij l o.ok g2
  have flc:=nk l o.ok g2
  have hpl:(ex p s p' s' l).length≤1099511627776:=by
   unfold ex;simp only[List.length_append,List.length_cons,List.length_nil];omega
  refine Bv L1 hpl ?_
  obtain ⟨r,hr⟩:=Py (l:=l) g1.1 g1.2
  rw[hr]
  refine A0 (Ot (k:=2) (by simp)) ?_
  refine A0 (O1 (k:=0) ny rfl rfl) ?_
  repeat ((with_reducible first|apply A0|apply wI|apply wT|apply wP|apply wS|apply wB);exact rfl)
  refine A0 (K8 (k:=4) (by simp)) (K9 ?_)
  have e1:([45,45,45,32]++(N4 p s ++ [10])).drop 4=N4 p s ++ [10]:=rfl
  rw[e1]
  refine ⟨by simp only[List.length_append,List.length_cons,List.length_nil];omega,by simp only[List.length_append,List.length_cons,List.length_nil];omega,?_⟩
  refine A0 (O1 (k:=1) ny rfl rfl) ?_
  repeat ((with_reducible first|apply A0|apply wI|apply wT|apply wP|apply wS|apply wB);exact rfl)
  refine A0 (K8 (k:=4) (by simp)) (K9 ?_)
  have e2:([43,43,43,32]++(N4 p' s' ++ [10])).drop 4=N4 p' s' ++ [10]:=rfl
  rw[e2]
  refine ⟨by simp only[List.length_append,List.length_cons,List.length_nil];omega,?_⟩
  refine I6 (id:=2) rfl (by simp only[List.length_append,List.length_cons,List.length_nil];omega) ?_
  repeat ((with_reducible first|apply A0|apply wI|apply wT|apply wP|apply wS|apply wB);exact rfl)
  refine xw L1 p s p' s' (l.map K6) hx _ l 0 (zw p s p' s') rfl (fun h hh=>⟨o.ok h hh,o.one h hh⟩) g2 (by unfold zw;simp only[List.length_append,List.length_cons,List.length_nil];omega) ?_
  unfold ie Eo
  rw[if_pos hf,if_pos hf];rfl
 ·rw[if_neg hf,if_neg hf]
  repeat ((with_reducible first|apply A0|apply wI|apply wT|apply wP|apply wS|apply wB);exact rfl)
  rw[Q1]
  refine A0 rfl (A0 (v:=false) rfl (F0 ?_))
  rw[Bool.not_false,L4]
  refine C4 (Nat.zero_le _) ?_
  unfold ie Eo
  rw[if_neg hf,if_neg hf]
end
end Go.Sv
end
section
namespace Go.Sv
theorem Aa{mark p s:Ln}{r:List Ln}(h:N2 p s=true):am mark ((mark++(N4 p s ++ [10]))::r)=some (p,s):=by
 have hb:N7 (mark++(N4 p s ++ [10]))=mark++N4 p s:=by rw[← List.append_assoc,bz]
 have hc:X8 (mark++N4 p s) mark=(N4 p s,true):=by
  unfold X8
  rw[if_pos (by simp[Lib.hasPrefix]),List.drop_left]
 have hu:tc (N4 p s)=some (p,if s = [] then [] else 9::s):=by
  unfold N4
  by_cases e:s = []
  ·rw[if_pos e,if_pos e]
   have:=qm (p:=p) (rest:=[]) (.inl rfl)
   rwa [List.append_nil] at this
  ·rw[if_neg e,if_neg e,List.append_assoc]
   exact qm (p:=p) (.inr ⟨s,rfl⟩)
 unfold am
 have hn:ah ((mark++(N4 p s ++ [10]))::r)=(mark++N4 p s,true):=by
  show (N7 (mark++(N4 p s ++ [10])),true)=_
  rw[hb]
 rw[hn]
 simp only
 rw[hc]
 simp only
 rw[hu]
 by_cases e:s = []
 ·subst e;simp[X8,Lib.hasPrefix]
 ·have h9:X8 (9::s) [9]=(s,true):=by
   unfold X8
   rw[if_pos (by simp[Lib.hasPrefix,List.isPrefixOf])]
   rfl
  simp only[if_neg e,h9]
  simp
theorem zz(d:Nat)(h:d<10):(UInt8.ofNat (48+d)).toNat=48+d:=UInt8.toNat_ofNat_of_lt' (show 48+d<256 by omega)
theorem vw:∀(u:Nat),(Lib.decDigits u).all Z1=true∧Ue (Lib.decDigits u)=u∧(0<u → ∃c r,Lib.decDigits u=c::r∧c≠48) ∧ ∀k,1≤k→u<10 ^ k→(Lib.decDigits u).length≤k:=by
 intro u
 induction u using Nat.strongRecOn with
 | ind u ih=>
  rw[Lib.decDigits]
  split
  ·rename_i h
   refine ⟨?_,?_,fun h0=>⟨_,[],rfl,fun e=>?_⟩,fun k h1 _=>by simpa using h1⟩
   ·simp only[List.all_cons,List.all_nil,Bool.and_true,Z1,zz u h,Bool.and_eq_true,decide_eq_true_eq];omega
   ·simp only[Ue,List.foldl_cons,List.foldl_nil,zz u h];omega
   ·have:=congrArg UInt8.toNat e
    rw[zz u h] at this
    have:48+u=48:=this
    omega
  ·rename_i h
   obtain ⟨i1,i2,i3,i4⟩:=ih (u / 10) (by omega)
   have hd:=zz (u % 10) (by omega)
   refine ⟨?_,?_,fun h0=>?_,fun k h1 h2=>?_⟩
   ·rw[List.all_append,i1]
    simp only[List.all_cons,List.all_nil,Bool.and_true,Z1,hd,Bool.true_and,Bool.and_eq_true,decide_eq_true_eq];omega
   ·unfold Ue at i2 ⊢
    rw[List.foldl_append,i2]
    simp only[List.foldl_cons,List.foldl_nil,hd];omega
   ·obtain ⟨c,r,e,hc⟩:=i3 (by omega)
    exact ⟨c,r ++ [UInt8.ofNat (48+u % 10)],by rw[e];rfl,hc⟩
   ·cases k with
    | zero=>omega
    | succ k=>
     have hk:1≤k:=by
      cases k with
      | zero=>simp at h2;omega
      | succ k=>omega
     have:=i4 k hk (by rw[Nat.pow_succ] at h2;omega)
     rw[List.length_append,List.length_singleton];omega
theorem vf{a:Int}(h0:0≤a)(h1:a≤2147483647):Z4 (Lib.itoa a)=(a,true):=by
 obtain ⟨u,rfl⟩:∃u:Nat,a=u:=⟨a.toNat,by omega⟩
 have e:Lib.itoa (u:Int)=Lib.decDigits u:=by unfold Lib.itoa;rw[if_neg (by omega)];simp
 obtain ⟨d1,d2,d3,d4⟩:=vw u
 have hne:¬(Lib.decDigits u = []∨(Lib.decDigits u).all Z1=false):=by
  rintro (h|h)
  ·have:=Rc u;rw[h] at this;exact absurd this (by decide)
  ·rw[d1] at h;cases h
 rw[e]
 unfold Z4
 rw[if_neg hne]
 rcases Nat.eq_zero_or_pos u with rfl|hu
 ·have:Lib.decDigits 0 = [48]:=by rw[Lib.decDigits];rfl
  rw[this]
  rfl
 ·obtain ⟨c,r,e2,hc⟩:=d3 hu
  have hdw:(Lib.decDigits u).dropWhile (· == 48)=Lib.decDigits u:=by
   rw[e2,List.dropWhile_cons,if_neg (by simpa using hc)]
  have h10:=d4 10 (by omega) (by omega)
  rw[hdw,if_neg (by omega),d2]
  simp only[Prod.mk.injEq,true_and,decide_eq_true_eq]
  exact h1
theorem Vd:∀(l:Ln) (c:UInt8),(∀ x∈l,x≠c)→Lib.indexByte l c = -1
 | [],_,_=>rfl
 | b::l,c,h=>by
  have ih:=Vd l c (fun x hx=>h x (List.mem_cons_of_mem _ hx))
  rw[Lib.indexByte,if_neg (by simpa using h b (by simp)),ih]
  rfl
theorem Ie:∀(l:Ln) (c:UInt8) (r:Ln),(∀ x∈l,x≠c)→Lib.indexByte (l++c::r) c=(l.length:Int)
 | [],c,r,_=>by
  show Lib.indexByte (c::r) c=0
  rw[Lib.indexByte,if_pos (by simp)]
 | b::l,c,r,h=>by
  have ih:=Ie l c r (fun x hx=>h x (List.mem_cons_of_mem _ hx))
  rw[List.cons_append,Lib.indexByte,if_neg (by simpa using h b (by simp)),ih,if_neg (by simp)]
  simp only[List.length_cons];omega
theorem Yf{l:Ln}{c:UInt8}(h:∀x∈l,x≠c):Y7 l c=(l,[],false):=by
 unfold Y7
 rw[Vd l c h,if_neg (by omega)]
theorem Qm{l r:Ln}{c:UInt8}(h:∀x∈l,x≠c):Y7 (l++c::r) c=(l,r,true):=by
 unfold Y7
 rw[Ie l c r h,if_pos (by omega)]
 simp
theorem Gp{a:Int}(h0:0≤a):∀x∈Lib.itoa a,x≠44:=by
 obtain ⟨u,rfl⟩:∃u:Nat,a=u:=⟨a.toNat,by omega⟩
 have e:Lib.itoa (u:Int)=Lib.decDigits u:=by unfold Lib.itoa;rw[if_neg (by omega)];simp
 rw[e]
 intro x hx h
 have:=List.all_eq_true.1 (vw u).1 x hx
 rw[h] at this
 exact absurd this (by decide)
theorem Aq{before behind:Ln}{a n:Int}{r:List Ln}(h0:0≤a)(h1:a≤2147483647)(h2:0≤n)(h3:a+n-1≤2147483647):
  cd before behind ((before++(X0 a n++(behind ++ [10])))::r)=some ⟨a,if n<2 then 1 else n,decide (2≤n)⟩:=by
 have hb:N7 (before++(X0 a n++(behind ++ [10])))=before++(X0 a n++behind):=by
  rw[← List.append_assoc (X0 a n),←List.append_assoc before,bz]
 have hn:ah ((before++(X0 a n++(behind ++ [10])))::r)=(before++(X0 a n++behind),true):=by
  show (N7 (before++(X0 a n++(behind ++ [10]))),true)=_
  rw[hb]
 have hc:X8 (before++(X0 a n++behind)) before=(X0 a n++behind,true):=by
  unfold X8
  rw[if_pos (by simp[Lib.hasPrefix]),List.drop_left]
 have hs:dk (X0 a n++behind) behind=(X0 a n,true):=by
  unfold dk
  rw[if_pos (by simp[Lib.hasSuffix])]
  simp
 have hS:dx before behind ((before++(X0 a n++(behind ++ [10])))::r)=(X0 a n,true):=by
  unfold dx
  rw[hn]
  simp only
  rw[hc,if_pos rfl,hs]
 unfold cd
 rw[hS]
 simp only
 unfold X0 pi
 by_cases g:n<2
 ·rw[if_pos g,Yf (Gp h0)]
  simp only[Bool.false_eq_true,if_false]
  rw[vf h0 h1,if_pos ⟨by trivial,by trivial,by trivial,by simp⟩,if_pos g]
  simp only[Option.some.injEq,Rng.mk.injEq,true_and]
  exact ⟨by omega,(decide_eq_false (by omega)).symm⟩
 ·rw[if_neg g,List.append_assoc,List.singleton_append,Qm (Gp h0)]
  simp only[if_true]
  rw[vf h0 h1,vf (show 0≤a+n-1 by omega) h3]
  simp only
  rw[if_pos ⟨by trivial,by trivial,by trivial,by omega⟩,if_neg g]
  simp only[Option.some.injEq,Rng.mk.injEq,true_and]
  exact ⟨by omega,(decide_eq_true (by omega)).symm⟩
end Go.Sv
end
section
namespace Go.Sv
def Z6(x:Mkd):List Ln:=if L6 x.t=true then [x.m::32::x.t] else [x.m::32::(x.t ++ [10]),nu]
theorem Id{c:UInt8}{t:Ln}(h:L6 t=true):N7 (c::32::t)=c::32::N7 t:=by
 cases t with
 | nil=>cases h
 | cons a r=>
  have e:L6 (c::32::a::r)=true:=by
   unfold L6 at h ⊢
   rw[List.getLast?_cons_cons,List.getLast?_cons_cons]
   exact h
  unfold N7
  rw[if_pos e,if_pos h]
  rfl
theorem Gt{kind c:UInt8}{t:Ln}(hc:c=32∨c=kind∨c=33)(h:L6 t=true):rb kind (c::32::t)=some ⟨c,t⟩:=by
 unfold rb
 rw[Id h]
 simp only
 rw[if_pos ⟨trivial,hc⟩]
 rfl
theorem Re{kind c:UInt8}{t:Ln}(hk:kind≠92)(hc:c=32∨c=kind∨c=33)(h:L6 t=true):¬Lib.hasPrefix (N7 (c::32::t)) [92]=true:=by
 rw[Id h]
 have:c≠92:=by
  rcases hc with rfl|rfl|rfl
  ·decide
  ·exact hk
  ·decide
 simp only[Lib.hasPrefix,List.isPrefixOf,Bool.and_true,beq_iff_eq]
 exact fun e=>this e.symm
theorem Gy(t:Ln):L6 (t ++ [10])=true:=by unfold L6;simp
theorem tb{kind:UInt8}{most:Int}{X:List Ln}(hk:kind≠92)(hX:∀l∈X.head?,¬Lib.hasPrefix (N7 l) [92]=true∧rb kind l=none):∀(l out:List Mkd) (bare:Bool),(∀ x∈l,x.m=32∨x.m=kind∨x.m=33)→(out.length:Int)+l.length≤most →
  V5 kind most (l.flatMap Z6++X) out bare=(out++l,X)
 | [],out,bare,_,_=>by
  rw[List.flatMap_nil,List.nil_append,List.append_nil]
  cases X with
  | nil=>rfl
  | cons x r=>
   obtain ⟨h1,h2⟩:=hX x rfl
   rw[V5,if_neg h1]
   split
   ·rw[h2]
   ·rfl
 | x::l,out,bare,hm,hl=>by
  have hc:=hm x (by simp)
  simp only[List.length_cons] at hl
  have ih:=fun b=>tb (most:=most) hk hX l (out ++ [x]) b (fun y hy=>hm y (List.mem_cons_of_mem _ hy)) (by rw[List.length_append,List.length_singleton];omega)
  have e:out++x::l=(out ++ [x])++l:=by simp
  rw[List.flatMap_cons,e,List.append_assoc]
  unfold Z6
  by_cases hw:L6 x.t=true
  ·rw[if_pos hw,List.singleton_append,V5,if_neg (Re hk hc hw),if_pos (by omega),Gt hc hw]
   exact ih false
  ·rw[if_neg hw,List.cons_append,List.singleton_append,V5,if_neg (Re hk hc (Gy _)),if_pos (by omega),Gt hc (Gy _)]
   simp only
   rw[V5,if_pos (by decide),if_neg (by simp)]
   have hb:bw (out ++ [⟨x.m,x.t ++ [10]⟩])=out ++ [x]:=by
    unfold bw
    simp only[List.getLast?_append,List.getLast?_singleton,Option.some_or,List.dropLast_concat]
    rw[bz]
   rw[hb]
   exact ih true
end Go.Sv
end
section
namespace Go.Sv
open Go Go.Proofs
namespace D7
def lvs:List (List Nat):=[[0,1],[0,1],[0,1],[0,1],[0,1,5],[0,1,5],[0,1,5],[0,1,5,6],[0,1,5,6],[0,1,5,6],[0,1,5,6],[0,1,5,6],[0,1,5,6,10],[0,1,5,6],[5],[0,1,5,6],[0,1,5,6],[0,1,5,6],[0,1,5,6],[0,1,5,6,19],[0,1,5,6],[0,1,5,6],[0,1,5,6],[5],[5],[4]]
def lv:Nat→List Nat:=O9 lvs
noncomputable def code:Code:=F3 Tryz.f48
noncomputable def fe:FE:=⟨Tryz.f48,code,lv⟩
def A5:List Nat:=[9,22,23]
abbrev X(w0:B5)(n:Nat):XT:=xr (cx w0) 28 lv n
theorem ok(w0:B5):FOK (cx w0) D7.id fe:=⟨Tryz.func48,by kernel_rfl,by kernel_rfl⟩
section
variable (Z:XT)(w0:B5)(n:Nat)(R:RT)(σ:A2)(l_:AV)(kind:Int)(out:AV)(i:Int)
def q5:QT:=D6 (fun env σ=>Z (cAt code 23) 23 (prune (lv 23) env) σ (B7 (cx w0) Tryz.f48 n R)) (B7 (cx w0) Tryz.f48 n R)
def q8:QT:=H7 0 (q5 Z w0 n R)
def q9:QT:=D6 (fun env σ=>Z (cAt code 8) 8 (prune (lv 8) env) σ (q8 Z w0 n R)) (q8 Z w0 n R)
def n8:Prop:=
 Z (cAt code 8) 8 [(0,l_),(1,(.pv (.int .i64 kind))),(5,out),(6,(.pv (.int .i64 i)))] σ (q8 Z w0 n R)
def b9:Prop:=
 A6 (cx w0) 28 lv n A5 Z (cAt code 9) 9 [(0,l_),(1,(.pv (.int .i64 kind))),(5,out),(6,(.pv (.int .i64 i)))] σ (q9 Z w0 n R)
def n22:Prop:=
 Z (cAt code 22) 22 [(0,l_),(1,(.pv (.int .i64 kind))),(5,out),(6,(.pv (.int .i64 i)))] σ (q9 Z w0 n R)
def b22:Prop:=
 A6 (cx w0) 28 lv n A5 Z (cAt code 22) 22 [(0,l_),(1,(.pv (.int .i64 kind))),(5,out),(6,(.pv (.int .i64 i)))] σ (q9 Z w0 n R)
def n23:Prop:=
 Z (cAt code 23) 23 [(5,out)] σ (B7 (cx w0) Tryz.f48 n R)
def b23:Prop:=
 A6 (cx w0) 28 lv n A5 Z (cAt code 23) 23 [(5,out)] σ (B7 (cx w0) Tryz.f48 n R)
def b0:Prop:=
 A6 (cx w0) 28 lv n A5 Z code 0 (J6 0 [l_,(.pv (.int .i64 kind))]) σ (B7 (cx w0) Tryz.f48 n R)
end
variable {Z:XT}{w0:B5}{n:Nat}{R:RT}{σ τ:A2}{l_ out l_' out':AV}{kind i kind' i':Int}
theorem n8_in(h:b9 (X w0 n) w0 n R σ l_ kind out i):n8 (X w0 n) w0 n R σ l_ kind out i:=I5 (J9 w0) (S:=A5) (by kernel_rfl:cAt code 8 = .loop (cAt code 9)) h
theorem n8_weak(e:M5 (cx w0) n [(0,l_),(1,(.pv (.int .i64 kind))),(5,out),(6,(.pv (.int .i64 i)))] σ [(0,l_'),(1,(.pv (.int .i64 kind'))),(5,out'),(6,(.pv (.int .i64 i')))] τ)(h:n8 (X w0 n) w0 n R τ l_' kind' out' i'):n8 (X w0 n) w0 n R σ l_ kind out i:=T5 (L:=lv) (k:=8) (by kernel_rfl:cAt code 8 = .loop (cAt code 9)) e h
theorem b9_eq:b9 Z w0 n R σ l_ kind out i=(
 opt (R2 R7.td l_) fun t9=>isI .i64 t9 fun t9_1=>B1 (decide ((i:Int)<t9_1)) (opt (B9 σ B2 R7.td l_ i) fun t15=>opt (A3 B2 L7.td t15 0) fun t16=>opt (A4 σ ti3 t16) fun t17=>isI .i64 t17 fun t17_1=>B1 ((t17_1:Int)==kind) (opt (B9 σ B2 R7.td l_ i) fun t23=>opt (A4 σ L7 t23) fun t24=>opt2 (J1 σ L7 false 1 [(0,t24)]) fun t25 σ'=>opt2 (N8 σ' L7 out t25) fun t26 σ'_1=>n22 Z w0 n R σ'_1 l_ kind t26 i) (n22 Z w0 n R σ l_ kind out i)) (n23 Z w0 n R σ out)):=by kernel_rfl
theorem b22_eq:b22 Z w0 n R σ l_ kind out i=(
 n8 Z w0 n R σ l_ kind out (IntKind.wrap .i64 (i+1))):=by kernel_rfl
theorem n22_in(h:b22 (X w0 n) w0 n R σ l_ kind out i):n22 (X w0 n) w0 n R σ l_ kind out i:=E0 (S:=A5) (by kernel_rfl) h
theorem b23_eq:b23 Z w0 n R σ out=(
 F2 (cx w0) n out σ R):=by kernel_rfl
theorem n23_in(h:b23 (X w0 n) w0 n R σ out):n23 (X w0 n) w0 n R σ out:=E0 (S:=A5) (by kernel_rfl) h
theorem b0_eq:b0 Z w0 n R σ l_ kind=(
 n8 Z w0 n R σ l_ kind .nilsl 0):=by kernel_rfl
theorem calls(h:b0 (X w0 (List.length σ)) w0 (List.length σ) R σ l_ kind):A1 (cx w0) D7.id [l_,(.pv (.int .i64 kind))] σ R:=
 D3 (J9 w0) (x:=fe) (S:=A5) (D7.ok w0) (by kernel_rfl) h
end D7
namespace C6
def lvs:List (List Nat):=[[0],[0],[0],[0],[0,3,4],[0,3,4],[0,3,4],[0,3,4,5],[0,3,4,5],[0,3,4,5],[0,3,4,5],[0,3,4,5],[0,3,4,5,9],[0,3,4,5],[3,4],[0,3,4,5],[0,3,4,5],[0,3,4,5],[0,3,4,5],[0,3,4,5],[0,3,4,5,25],[0,3,4,5],[0,3,4,5],[0,3,4,5],[0,3,4,5],[0,3,4,5],[0,3,4,5],[0,3,4,5],[0,3,4,5],[0,3,5],[0,3,5],[0,3,4,5],[0,3,4,5],[3,4],[3,4],[3,4],[3,4],[2]]
def lv:Nat→List Nat:=O9 lvs
noncomputable def code:Code:=F3 Tryz.f18
noncomputable def fe:FE:=⟨Tryz.f18,code,lv⟩
def A5:List Nat:=[9,20,32,33]
abbrev X(w0:B5)(n:Nat):XT:=xr (cx w0) 56 lv n
theorem ok(w0:B5):FOK (cx w0) C6.id fe:=⟨Tryz.func18,by kernel_rfl,by kernel_rfl⟩
section
variable (Z:XT)(w0:B5)(n:Nat)(R:RT)(σ:A2)(l_ out run:AV)(i:Int)(t25:Bool)
def q5:QT:=D6 (fun env σ=>Z (cAt code 33) 33 (prune (lv 33) env) σ (B7 (cx w0) Tryz.f18 n R)) (B7 (cx w0) Tryz.f18 n R)
def q8:QT:=H7 0 (q5 Z w0 n R)
def q9:QT:=D6 (fun env σ=>Z (cAt code 8) 8 (prune (lv 8) env) σ (q8 Z w0 n R)) (q8 Z w0 n R)
def q16:QT:=D6 (fun env σ=>Z (cAt code 32) 32 (prune (lv 32) env) σ (q9 Z w0 n R)) (q9 Z w0 n R)
def q17:QT:=H7 1 (q16 Z w0 n R)
def q18:QT:=D6 (fun env σ=>A6 (cx w0) 56 lv n A5 Z (cAt code 25) 25 (prune (lv 25) env) σ (q17 Z w0 n R)) (q17 Z w0 n R)
def n8:Prop:=
 Z (cAt code 8) 8 [(0,l_),(3,out),(4,run),(5,(.pv (.int .i64 i)))] σ (q8 Z w0 n R)
def b9:Prop:=
 A6 (cx w0) 56 lv n A5 Z (cAt code 9) 9 [(0,l_),(3,out),(4,run),(5,(.pv (.int .i64 i)))] σ (q9 Z w0 n R)
def n20:Prop:=
 Z (cAt code 20) 20 [(0,l_),(3,out),(4,run),(5,(.pv (.int .i64 i))),(25,(.pv (.bool t25)))] σ (q18 Z w0 n R)
def b20:Prop:=
 A6 (cx w0) 56 lv n A5 Z (cAt code 20) 20 [(0,l_),(3,out),(4,run),(5,(.pv (.int .i64 i))),(25,(.pv (.bool t25)))] σ (q18 Z w0 n R)
def n32:Prop:=
 Z (cAt code 32) 32 [(0,l_),(3,out),(4,run),(5,(.pv (.int .i64 i)))] σ (q9 Z w0 n R)
def b32:Prop:=
 A6 (cx w0) 56 lv n A5 Z (cAt code 32) 32 [(0,l_),(3,out),(4,run),(5,(.pv (.int .i64 i)))] σ (q9 Z w0 n R)
def n33:Prop:=
 Z (cAt code 33) 33 [(3,out),(4,run)] σ (B7 (cx w0) Tryz.f18 n R)
def b33:Prop:=
 A6 (cx w0) 56 lv n A5 Z (cAt code 33) 33 [(3,out),(4,run)] σ (B7 (cx w0) Tryz.f18 n R)
def b0:Prop:=
 A6 (cx w0) 56 lv n A5 Z code 0 (J6 0 [l_]) σ (B7 (cx w0) Tryz.f18 n R)
end
variable {Z:XT}{w0:B5}{n:Nat}{R:RT}{σ τ:A2}{l_ out run l_' out' run':AV}{i i':Int}{t25:Bool}
theorem n8_in(h:b9 (X w0 n) w0 n R σ l_ out run i):n8 (X w0 n) w0 n R σ l_ out run i:=I5 (J9 w0) (S:=A5) (by kernel_rfl:cAt code 8 = .loop (cAt code 9)) h
theorem n8_weak(e:M5 (cx w0) n [(0,l_),(3,out),(4,run),(5,(.pv (.int .i64 i)))] σ [(0,l_'),(3,out'),(4,run'),(5,(.pv (.int .i64 i')))] τ)(h:n8 (X w0 n) w0 n R τ l_' out' run' i'):n8 (X w0 n) w0 n R σ l_ out run i:=T5 (L:=lv) (k:=8) (by kernel_rfl:cAt code 8 = .loop (cAt code 9)) e h
theorem b9_eq:b9 Z w0 n R σ l_ out run i=(
 opt (R2 R7.td l_) fun t8=>isI .i64 t8 fun t8_1=>B1 (decide ((i:Int)<t8_1)) (opt (B9 σ B2 R7.td l_ i) fun t14=>opt (A3 B2 L7.td t14 0) fun t15=>opt (A4 σ ti3 t15) fun t16=>isI .i64 t16 fun t16_1=>B1 ((t16_1:Int)==2) (n20 Z w0 n R σ l_ out run i true) (opt (B9 σ B2 R7.td l_ i) fun t21=>opt (A3 B2 L7.td t21 0) fun t22=>opt (A4 σ ti3 t22) fun t23=>isI .i64 t23 fun t23_1=>n20 Z w0 n R σ l_ out run i ((t23_1:Int)==3))) (n33 Z w0 n R σ out run)):=by kernel_rfl
theorem b20_eq:b20 Z w0 n R σ l_ out run i t25=(
 B1 t25 (opt (B9 σ B2 R7.td l_ i) fun t29=>opt (A4 σ L7 t29) fun t30=>opt2 (J1 σ L7 false 1 [(0,t30)]) fun t31 σ'=>opt2 (N8 σ' L7 run t31) fun t32 σ'_1=>n32 Z w0 n R σ'_1 l_ out t32 i) (A1 (cx w0) D7.id [run,(.pv (.int .i64 2))] σ fun r σ'=>opt2 (N8 σ' L7 out r) fun t36 σ'_1=>A1 (cx w0) D7.id [run,(.pv (.int .i64 3))] σ'_1 fun r_1 σ'_2=>opt2 (N8 σ'_2 L7 t36 r_1) fun t40 σ'_3=>opt (B9 σ'_3 B2 R7.td l_ i) fun t44=>opt (A4 σ'_3 L7 t44) fun t45=>opt2 (J1 σ'_3 L7 false 1 [(0,t45)]) fun t46 σ'_4=>opt2 (N8 σ'_4 L7 t40 t46) fun t47 σ'_5=>n32 Z w0 n R σ'_5 l_ t47 .nilsl i)):=by kernel_rfl
theorem n20_in(h:b20 (X w0 n) w0 n R σ l_ out run i t25):n20 (X w0 n) w0 n R σ l_ out run i t25:=E0 (S:=A5) (by kernel_rfl) h
theorem b32_eq:b32 Z w0 n R σ l_ out run i=(
 n8 Z w0 n R σ l_ out run (IntKind.wrap .i64 (i+1))):=by kernel_rfl
theorem n32_in(h:b32 (X w0 n) w0 n R σ l_ out run i):n32 (X w0 n) w0 n R σ l_ out run i:=E0 (S:=A5) (by kernel_rfl) h
theorem b33_eq:b33 Z w0 n R σ out run=(
 A1 (cx w0) D7.id [run,(.pv (.int .i64 2))] σ fun r σ'=>opt2 (N8 σ' L7 out r) fun t51 σ'_1=>A1 (cx w0) D7.id [run,(.pv (.int .i64 3))] σ'_1 fun r_1 σ'_2=>opt2 (N8 σ'_2 L7 t51 r_1) fun t55 σ'_3=>F2 (cx w0) n t55 σ'_3 R):=by kernel_rfl
theorem n33_in(h:b33 (X w0 n) w0 n R σ out run):n33 (X w0 n) w0 n R σ out run:=E0 (S:=A5) (by kernel_rfl) h
theorem b0_eq:b0 Z w0 n R σ l_=(
 n8 Z w0 n R σ l_ .nilsl .nilsl 0):=by kernel_rfl
theorem calls(h:b0 (X w0 (List.length σ)) w0 (List.length σ) R σ l_):A1 (cx w0) C6.id [l_] σ R:=
 D3 (J9 w0) (x:=fe) (S:=A5) (C6.ok w0) (by kernel_rfl) h
end C6
end Go.Sv
end
