/- A unified diff, read: as plain lists. What is printed is read as it was. What a text is read as: hunks that may be, in order; no greater than the text. What stands behind a diff changes nothing of it. -/
import Derived.Test.YtebgkjjbbnbnlaaGreatDoorSvBk
set_option linter.unusedVariables false
set_option linter.unusedSimpArgs false
set_option maxRecDepth 100000
section
namespace Go.Sv
abbrev Ln:=List UInt8
def jw:Ln→Option Row
 | []=>none
 | c::t=>if c=32 then some ⟨1,t⟩ else if c=10 then some ⟨1,[10]⟩ else if c=45 then some ⟨2,t⟩ else if c=43 then some ⟨3,t⟩ else none
def bh(l:List Row):List Row:=match l.getLast? with
 | none=>l
 | some r=>l.dropLast ++ [⟨r.k,N7 r.t⟩]
def gj(k n:Int):Int:=if k=3 then n else n+1
def jo(k m:Int):Int:=if k=2 then m else m+1
def Z3(N M:Int):List Ln→Int→Int→Bool→List Row→Option (List Row×List Ln)
 | [],n,m,_,acc=>if n=N∧m=M then some (acc,[]) else none
 | l::ls,n,m,fr,acc=>
  if l.head? = some 92 then (if fr=true then Z3 N M ls n m false (bh acc) else none)
  else if n=N∧m=M then some (acc,l::ls)
  else match jw l with
   | none=>none
   | some r=>if N<gj r.k n∨M<jo r.k m then none else Z3 N M ls (gj r.k n) (jo r.k m) true (acc ++ [r])
def Ep(ahead:List Hnk)(h:Hnk):Bool:=match ahead.getLast? with
 | none=>true
 | some g=>mm g h
def jx(ahead:List Hnk):List Ln→Option (Hnk×List Ln)
 | []=>none
 | l::ls=>if (dl (N7 l)).2=true then match Z3 (dl (N7 l)).1.n (dl (N7 l)).1.m ls 0 0 false [] with
   | none=>none
   | some (rows,r)=>if J2 { (dl (N7 l)).1 with rows:=rows }=true then (if Ep ahead { (dl (N7 l)).1 with rows:=rows }=true then some ({ (dl (N7 l)).1 with rows:=rows },r) else none) else none
  else none
def af:Nat→List Hnk→List Ln→Option (List Hnk×List Ln)
 | 0,_,_=>none
 | _+1,acc,[]=>some (acc,[])
 | f+1,acc,l::ls=>if Lib.hasPrefix l [64,64,32,45]=true then match jx acc (l::ls) with
   | none=>none
   | some (h,r)=>af f (acc ++ [h]) r
  else some (acc,l::ls)
def cn(mark l:Ln):Option (Ln×Ln):=if Lib.hasPrefix l mark=true then match tc ((N7 l).drop mark.length) with
  | none=>none
  | some (p,[])=>some (p,[])
  | some (p,c::r)=>if c=9 then some (p,r) else none
 else none
structure Pars where
 a:Ln×Ln
 b:Ln×Ln
 l:List Hnk
 r:List Ln
def nt:List Ln→Option Pars
 | l1::l2::ls=>match cn [45,45,45,32] l1,cn [43,43,43,32] l2 with
  | some a,some b=>match af (ls.length+1) [] ls with
   | some (h::hs,r)=>some ⟨a,b,h::hs,r⟩
   | _=>none
  | _,_=>none
 | _=>none
def ci(s:Ln):Ln:=if s ≠ []∧L6 s=false then s ++ [10] else s
def Sb(s:Ln)(r:List Ln):Nat:=(ci s).length-r.flatten.length
def wv(s:Ln):Option (Pars×Ln):=if 4194304<s.length then none else match nt (M7 (ci s)) with
 | none=>none
 | some x=>some (x,s.drop (min (Sb s x.r) s.length))
def aj(r:Row):List Ln:=if L6 r.t=true then [db r.k++r.t] else [db r.k++(r.t ++ [10]),nu]
def V1(h:Hnk):List Ln:=(gc h ++ [10])::h.rows.flatMap aj
theorem Ew(r:Row):(aj r).flatten=gd r:=by
 unfold aj gd cy
 split<;>simp
theorem Hu:∀l:List Row,(l.flatMap aj).flatten=l.flatMap gd
 | []=>rfl
 | r::l=>by rw[List.flatMap_cons,List.flatten_append,Ew,Hu l,List.flatMap_cons]
theorem Br(h:Hnk):(V1 h).flatten=kh h:=by
 unfold V1 kh
 rw[List.flatten_cons,Hu]
theorem Cq:∀l:List Hnk,(l.flatMap V1).flatten=l.flatMap kh
 | []=>rfl
 | h::l=>by rw[List.flatMap_cons,List.flatten_append,Br,Cq l,List.flatMap_cons]
def wl(l:Ln):Prop:=X1 l=true∧L6 l=true
theorem od:∀L:List Ln,(∀ l∈L,wl l)→M7 L.flatten=L
 | [],_=>rfl
 | l::L,h=>by
  obtain ⟨h1,h2⟩:=h l (by simp)
  rw[List.flatten_cons,cm l _ (by simp[Dw,h2]),km l h1,od L (fun x hx=>h x (List.mem_cons_of_mem _ hx))]
  rfl
theorem N9:∀(s t:Ln),(∀ c∈s,c≠10)→X1 t=true→X1 (s++t)=true
 | [],t,_,h=>h
 | c::s,t,hs,h=>by
  have ih:=N9 s t (fun x hx=>hs x (List.mem_cons_of_mem _ hx)) h
  have hne:s++t ≠ []:=by
   intro e
   rw[e] at ih;simp[X1] at ih
  cases e:s++t with
  | nil=>exact absurd e hne
  | cons d r=>
   rw[List.cons_append,e]
   rw[e] at ih
   simp only[X1,Bool.and_eq_true] at ih ⊢
   refine ⟨by simp,?_⟩
   rw[List.dropLast_cons_cons,List.contains_cons]
   have:((10:UInt8)==c)=false:=beq_false_of_ne (Ne.symm (hs c (by simp)))
   rw[this,Bool.false_or]
   exact ih.2
theorem Hd{t:Ln}(h:X1 t=true)(hw:L6 t=false):∀c∈t,c≠10:=by
 intro c hc e
 subst e
 rcases List.eq_nil_or_concat t with rfl|⟨p,d,rfl⟩
 ·simp at hc
 ·rw[List.concat_eq_append] at *
  simp only[X1,List.dropLast_concat,Bool.and_eq_true,Bool.not_eq_true'] at h
  have hd:(d==10)=false:=by simpa[L6] using hw
  rcases List.mem_append.1 hc with h1|h1
  ·have:p.contains 10=true:=by simpa using h1
   rw[h.2] at this;cases this
  ·simp at h1;subst h1;simp at hd
theorem Hv(k:Int):∀c∈db k,c≠10:=by
 intro c hc
 unfold db at hc
 split at hc
 ·simp at hc;subst hc;decide
 ·split at hc<;>(simp at hc;subst hc;decide)
theorem Lp{r:Row}(h:X1 r.t=true):∀l∈aj r,wl l:=by
 intro l hl
 have hne:r.t ≠ []:=fun e=>by rw[e] at h;simp[X1] at h
 unfold aj at hl
 split at hl
 ·rename_i hw
  simp at hl;subst hl
  exact ⟨N9 _ _ (Hv _) h,by rw[K2 hne];exact hw⟩
 ·rename_i hw
  have hp:=Hd h (by simpa using hw)
  rcases List.mem_cons.1 hl with rfl|hl
  ·exact ⟨N9 _ _ (Hv _) (N9 _ _ hp rfl),by rw[K2 (by simp),K2 (by simp)];rfl⟩
  ·simp at hl;subst hl;exact ⟨rfl,rfl⟩
theorem kb:∀(l:List Row) (e o c:Bool),Y6 l e o c=true → ∀r∈l,X1 r.t=true
 | [],_,_,_,_,r,h=>by simp at h
 | x::l,e,o,c,h,r,hr=>by
  rw[Y6] at h
  have hb:lh x e o=false:=by
   cases hb:lh x e o with
   | false=>rfl
   | true=>rw[hb] at h;cases h
  rw[hb] at h
  rcases List.mem_cons.1 hr with rfl|hr
  ·simp only[lh,Bool.or_eq_false_iff,Bool.not_eq_false'] at hb
   exact hb.1.1.2
  ·exact kb l _ _ _ (by simpa using h) r hr
theorem Ak:∀(u:Nat),∀c∈Lib.decDigits u,c≠10:=by
 intro u
 induction u using Nat.strongRecOn with
 | ind u ih=>
  intro c hc
  have key:∀d:Nat,d<10→UInt8.ofNat (48+d)≠10:=fun d hd e=>by
   have:=congrArg UInt8.toNat e
   rw[UInt8.toNat_ofNat_of_lt' (show 48+d<256 by omega)] at this
   have h10:UInt8.toNat 10=10:=rfl
   omega
  rw[Lib.decDigits] at hc
  split at hc
  ·rename_i h
   rw[List.mem_singleton] at hc;subst hc
   exact key u h
  ·rcases List.mem_append.1 hc with h1|h1
   ·exact ih (u / 10) (by omega) c h1
   ·rw[List.mem_singleton] at h1;subst h1
    exact key (u % 10) (by omega)
theorem Ft{a n:Int}(h0:0≤a)(h2:0≤n):∀c∈gr a n,c≠10:=by
 intro c hc
 unfold gr at hc
 rw[oh h0,oh h2] at hc
 split at hc
 ·exact Ak _ c hc
 ·simp only[List.mem_append,List.mem_singleton] at hc
  rcases hc with (hc|rfl)|hc
  ·exact Ak _ c hc
  ·decide
  ·exact Ak _ c hc
theorem Ud{h:Hnk}(hv:J2 h=true)(ok:Z2 h):∀c∈gc h,c≠10:=by
 obtain ⟨⟨a0,a1⟩,⟨n0,n1⟩,⟨b0,b1⟩,m0,m1⟩:=kq hv ok
 simp only[J2,Bool.and_eq_true,Bool.not_eq_true'] at hv
 have hh:∀c∈h.head,c≠10:=fun c hc e=>by
  subst e
  have:h.head.contains 10=true:=by simpa using hc
  rw[hv.2] at this;cases this
 intro c hc
 unfold gc at hc
 simp only[List.mem_append,List.mem_cons,List.not_mem_nil,or_false] at hc
 rcases hc with ((((hc|hc)|hc)|hc)|hc)|hc
 ·rcases hc with rfl|rfl|rfl|rfl<;>decide
 ·exact Ft a0 n0 c hc
 ·rcases hc with rfl|rfl<;>decide
 ·exact Ft b0 m0 c hc
 ·rcases hc with rfl|rfl|rfl<;>decide
 ·split at hc
  ·simp at hc
  ·simp only[List.mem_append,List.mem_singleton] at hc
   rcases hc with rfl|hc
   ·decide
   ·exact hh c hc
theorem Jh{h:Hnk}(hv:J2 h=true)(ok:Z2 h):∀l∈V1 h,wl l:=by
 intro l hl
 rcases List.mem_cons.1 hl with rfl|hl
 ·exact ⟨N9 _ _ (Ud hv ok) rfl,by rw[K2 (by simp)];rfl⟩
 ·obtain ⟨r,hr,hl⟩:=List.mem_flatMap.1 hl
  obtain ⟨v1,_⟩:=ca hv (Nat.le_trans ok.rows (by decide))
  exact Lp (kb _ _ _ _ v1 r hr) l hl
def Zj(X:List Ln):Prop:=∀x∈X.head?,x.head? ≠ some 92
theorem bz(t:Ln):N7 (t ++ [10])=t:=by
 unfold N7
 rw[K2 (by simp),if_pos (by rfl),List.dropLast_concat]
theorem Gu(N M:Int)(X:List Ln)(hX:Zj X):∀(l:List Row) (n m:Int) (fr:Bool) (acc:List Row),(∀ r∈l,r.k=1∨r.k=2∨r.k=3)→(∀ r∈l,X1 r.t=true)→0≤n→0≤m→n+l.length≤9223372036854775807→m+l.length≤9223372036854775807 →
  Y9 V3 l n=N→Y9 U3 l m=M→Z3 N M (l.flatMap aj++X) n m fr acc=some (acc++l,X)
 | [],n,m,fr,acc,_,_,_,_,_,_,e1,e2=>by
  have h1:n=N:=e1
  have h2:m=M:=e2
  cases X with
  | nil=>simp[Z3,h1,h2]
  | cons x X=>
   have:=hX x (by simp)
   simp[Z3,h1,h2,this]
 | r::l,n,m,fr,acc,hk,ht,hn,hm,bn,bm,e1,e2=>by
  have hkr:=hk r (by simp)
  have htr:=ht r (by simp)
  simp only[List.length_cons] at bn bm
  have wn:IntKind.wrap .i64 (n+1)=n+1:=F8 (by omega) (by omega)
  have wm:IntKind.wrap .i64 (m+1)=m+1:=F8 (by omega) (by omega)
  simp only[Y9,wn,wm] at e1 e2
  have i1:(if V3 r.k=true then n+1 else n)=gj r.k n:=by
   unfold gj V3
   rcases hkr with h|h|h<;>simp[h]
  have i2:(if U3 r.k=true then m+1 else m)=jo r.k m:=by
   unfold jo U3
   rcases hkr with h|h|h<;>simp[h]
  rw[i1] at e1
  rw[i2] at e2
  have b1:n≤gj r.k n∧gj r.k n≤n+1:=by unfold gj;split<;>omega
  have b2:m≤jo r.k m∧jo r.k m≤m+1:=by unfold jo;split<;>omega
  have c1:=fh V3 l (gj r.k n) (by omega) (by omega)
  have c2:=fh U3 l (jo r.k m) (by omega) (by omega)
  rw[e1] at c1
  rw[e2] at c2
  have hnot:¬(n=N∧m=M):=by
   rintro ⟨rfl,rfl⟩
   rcases hkr with h|h|h
   ·have:gj r.k n=n+1:=by simp[gj,h]
    omega
   ·have:gj r.k n=n+1:=by simp[gj,h]
    omega
   ·have:jo r.k m=m+1:=by simp[jo,h]
    omega
  have hin:¬(N<gj r.k n∨M<jo r.k m):=by omega
  have ih:=fun fr acc=>Gu N M X hX l (gj r.k n) (jo r.k m) fr acc (fun x hx=>hk x (List.mem_cons_of_mem _ hx)) (fun x hx=>ht x (List.mem_cons_of_mem _ hx)) (by omega) (by omega) (by omega) (by omega) e1 e2
  have hrow:∀t:Ln,jw (db r.k++t)=some ⟨r.k,t⟩∧(db r.k++t).head? ≠ some 92:=by
   intro t
   rcases hkr with h|h|h<;>rw[h]<;>exact ⟨rfl,by simp[db]⟩
  rw[List.flatMap_cons]
  by_cases hw:L6 r.t=true
  ·have hL:aj r = [db r.k++r.t]:=by unfold aj;rw[if_pos hw]
   rw[hL]
   simp only[List.cons_append,List.nil_append]
   rw[Z3,if_neg (hrow r.t).2,if_neg hnot,(hrow r.t).1]
   simp only
   rw[if_neg hin,ih]
   simp
  ·have hL:aj r = [db r.k++(r.t ++ [10]),nu]:=by unfold aj;rw[if_neg hw]
   rw[hL]
   simp only[List.cons_append,List.nil_append]
   rw[Z3,if_neg (hrow _).2,if_neg hnot,(hrow _).1]
   simp only
   rw[if_neg hin,Z3,if_pos (by rfl),if_pos rfl,ih]
   have:bh (acc ++ [⟨r.k,r.t ++ [10]⟩])=acc ++ [r]:=by
    unfold bh
    rw[List.getLast?_append]
    simp[bz]
   rw[this]
   simp
theorem Tf{h:Hnk}(hv:J2 h=true)(ok:Z2 h)(X:List Ln)(hX:Zj X)(ahead:List Hnk)(ho:Ep ahead h=true):jx ahead (V1 h++X)=some (h,X):=by
 obtain ⟨v1,f1,f2,f3,f4,f5,f6⟩:=ca hv (Nat.le_trans ok.rows (by decide))
 have okr:=ok.rows
 have hv':=hv
 simp only[J2,Bool.and_eq_true,beq_iff_eq] at hv'
 obtain ⟨⟨⟨⟨⟨⟨_,v2⟩,v3⟩,_⟩,_⟩,_⟩,_⟩:=hv'
 unfold V1
 rw[List.cons_append,jx,bz,Pm hv ok,if_pos rfl]
 simp only
 rw[Gu h.n h.m X hX h.rows 0 0 false [] (kn _ _ _ _ v1) (kb _ _ _ _ v1) (by omega) (by omega) (by omega) (by omega) v2.symm v3.symm]
 simp only[List.nil_append]
 rw[if_pos hv,if_pos ho]
theorem Ah:∀(l acc:List Hnk) (f:Nat),(∀ h∈l,J2 h=true∧Z2 h)→ak l=true→(∀ g h,acc.getLast? = some g→l.head? = some h→mm g h=true)→l.length<f→af f acc (l.flatMap V1)=some (acc++l,[])
 | [],acc,f,_,_,_,hf=>by
  cases f with
  | zero=>simp at hf
  | succ f=>simp[af]
 | h::l,acc,f,hok,ho,hg,hf=>by
  cases f with
  | zero=>simp at hf
  | succ f=>
   obtain ⟨hv,ok⟩:=hok h (by simp)
   have hpre:Lib.hasPrefix (gc h ++ [10]) [64,64,32,45]=true:=by
    unfold gc Lib.hasPrefix
    rw[List.isPrefixOf_iff_prefix]
    simp only[List.append_assoc]
    exact List.prefix_append _ _
   have hX:Zj (l.flatMap V1):=by
    intro x hx
    cases l with
    | nil=>simp at hx
    | cons g l=>
     simp only[List.flatMap_cons,V1,List.cons_append,List.head?_cons,Option.mem_some_iff] at hx
     subst hx
     simp[gc]
   have hord:Ep acc h=true:=by
    unfold Ep
    cases e:acc.getLast? with
    | none=>rfl
    | some g=>exact hg g h e rfl
   rw[List.flatMap_cons]
   show af (f+1) acc ((gc h ++ [10])::(h.rows.flatMap aj++l.flatMap V1))=_
   rw[af,if_pos hpre]
   have hb:=Tf hv ok (l.flatMap V1) hX acc hord
   unfold V1 at hb
   rw[List.cons_append] at hb
   unfold V1
   rw[hb]
   simp only
   have ih:=Ah l (acc ++ [h]) f (fun x hx=>hok x (List.mem_cons_of_mem _ hx)) (by
    cases l with
    | nil=>rfl
    | cons g l=>rw[ak,Bool.and_eq_true] at ho;exact ho.2) (fun g h' e1 e2=>by
    rw[List.getLast?_append] at e1
    simp at e1
    subst e1
    cases l with
    | nil=>simp at e2
    | cons g l=>
     simp at e2;subst e2
     rw[ak,Bool.and_eq_true] at ho;exact ho.1) (by simpa using hf)
   unfold V1 at ih
   rw[ih]
   simp
theorem dy{p s:Ln}(h:N2 p s=true):∀c∈N4 p s,c≠10:=by
 simp only[N2,Bool.and_eq_true,Bool.not_eq_true'] at h
 have hs:∀c∈s,c≠10:=fun c hc e=>by
  have:sr s [9,10,0]=true:=by
   unfold sr
   rw[List.any_eq_true]
   exact ⟨c,hc,by subst e;rfl⟩
  rw[h.2] at this;cases this
 intro c hc
 unfold N4 at hc
 split at hc
 ·exact Ad c hc
 ·simp only[List.mem_append,List.mem_singleton] at hc
  rcases hc with (hc|rfl)|hc
  ·exact Ad c hc
  ·decide
  ·exact hs c hc
theorem Fl{mark p s:Ln}(h:N2 p s=true):cn mark (mark++(N4 p s ++ [10]))=some (p,s):=by
 unfold cn
 have hp:Lib.hasPrefix (mark++(N4 p s ++ [10])) mark=true:=by simp[Lib.hasPrefix]
 have hb:N7 (mark++(N4 p s ++ [10]))=mark++N4 p s:=by rw[← List.append_assoc,bz]
 have hu:tc (N4 p s)=some (p,if s = [] then [] else 9::s):=by
  unfold N4
  by_cases e:s = []
  ·rw[if_pos e,if_pos e]
   have:=qm (p:=p) (rest:=[]) (.inl rfl)
   rwa [List.append_nil] at this
  ·rw[if_neg e,if_neg e,List.append_assoc]
   exact qm (p:=p) (.inr ⟨s,rfl⟩)
 rw[if_pos hp,hb,List.drop_left,hu]
 by_cases e:s = []
 ·rw[if_pos e,e]
 ·rw[if_neg e];simp
theorem Mb{p s p' s':Ln}{l:List Hnk}(h1:N2 p s=true)(h2:N2 p' s'=true)(hok:∀h∈l,J2 h=true∧Z2 h)(ho:ak l=true)(hne:l ≠ [])(hl:(ex p s p' s' l).length≤4194304):
  wv (ex p s p' s' l)=some (⟨(p,s),(p',s'),l,[]⟩,[]):=by
 obtain ⟨L,hL⟩:∃L,L=([45,45,45,32]++(N4 p s ++ [10]))::([43,43,43,32]++(N4 p' s' ++ [10]))::l.flatMap V1:=⟨_,rfl⟩
 have e:ex p s p' s' l=L.flatten:=by
  rw[hL,List.flatten_cons,List.flatten_cons,Cq]
  unfold ex
  simp
 have hwl:∀x∈L,wl x:=by
  intro x hx
  rw[hL] at hx
  rcases List.mem_cons.1 hx with rfl|hx
  ·exact ⟨N9 _ _ (by decide) (N9 _ _ (dy h1) rfl),by rw[K2 (by simp),K2 (by simp)];rfl⟩
  rcases List.mem_cons.1 hx with rfl|hx
  ·exact ⟨N9 _ _ (by decide) (N9 _ _ (dy h2) rfl),by rw[K2 (by simp),K2 (by simp)];rfl⟩
  obtain ⟨h,hh,hx⟩:=List.mem_flatMap.1 hx
  exact Jh (hok h hh).1 (hok h hh).2 x hx
 have hsp:=od L hwl
 have hend:L6 L.flatten=true:=by
  have:∀(M:List Ln),M ≠ []→(∀ x∈M,wl x)→L6 M.flatten=true∧M.flatten ≠ []:=by
   intro M
   induction M with
   | nil=>intro h;exact absurd rfl h
   | cons x M ih=>
    intro _ hM
    have hx:=hM x (by simp)
    have hxn:x ≠ []:=fun e=>by rw[e] at hx;simp[wl,X1] at hx
    cases M with
    | nil=>simpa using ⟨hx.2,hxn⟩
    | cons y M=>
     obtain ⟨i1,i2⟩:=ih (by simp) (fun z hz=>hM z (List.mem_cons_of_mem _ hz))
     rw[List.flatten_cons]
     exact ⟨by rw[K2 i2];exact i1,by simp[hxn]⟩
  exact (this L (by rw[hL];simp) hwl).1
 have hwf:ci L.flatten=L.flatten:=by
  unfold ci
  rw[if_neg (by rw[hend];simp)]
 have hread:nt L=some ⟨(p,s),(p',s'),l,[]⟩:=by
  rw[hL,nt,Fl h1,Fl h2]
  simp only
  have hlen:l.length≤(l.flatMap V1).length:=by
   clear hL e hwl hsp hend hwf hok ho hne hl
   induction l with
   | nil=>simp
   | cons h l ih=>simp only[List.flatMap_cons,List.length_append,List.length_cons,V1];omega
  rw[Ah l [] _ hok ho (by simp) (by omega)]
  cases l with
  | nil=>exact absurd rfl hne
  | cons h l=>rfl
 unfold wv
 rw[if_neg (by omega),e,hwf,hsp,hread]
 simp[Sb,hwf]
end Go.Sv
end
section
namespace Go.Sv
theorem bd(t:Ln):(N7 t).length≤t.length:=by
 unfold N7;split
 ·rw[List.length_dropLast];omega
 ·omega
theorem Nc{l:Ln}{r:Row}(h:jw l=some r):r.t.length≤l.length:=by
 cases l with
 | nil=>simp[jw] at h
 | cons c t=>
  simp only[jw] at h
  repeat' split at h
  all_goals first|(cases h;done)|(cases h;simp)
theorem To{l:Ln}{r:Row}(h:jw l=some r):1≤l.length:=by
 cases l with
 | nil=>simp[jw] at h
 | cons c t=>simp
theorem lp(a b:List Row):R3 ((a++b).map I3)=R3 (a.map I3)+R3 (b.map I3):=by rw[List.map_append,po]
theorem Io(l:List Row):(bh l).length=l.length:=by
 unfold bh
 rcases List.eq_nil_or_concat l with rfl|⟨p,r,rfl⟩
 ·rfl
 ·rw[List.concat_eq_append];simp
theorem Eu(l:List Row):R3 ((bh l).map I3)≤R3 (l.map I3):=by
 unfold bh
 rcases List.eq_nil_or_concat l with rfl|⟨p,r,rfl⟩
 ·exact Nat.le_refl _
 ·rw[List.concat_eq_append]
  have:=bd r.t
  simp only[List.getLast?_append,List.getLast?_singleton,Option.some_or,List.dropLast_concat,lp,List.map_cons,List.map_nil,R3,pvB]
  omega
theorem Et{T:Nat}{l:List Row}(h:∀r∈l,r.t.length≤T):∀r∈bh l,r.t.length≤T:=by
 unfold bh
 rcases List.eq_nil_or_concat l with rfl|⟨p,r,rfl⟩
 ·exact h
 ·rw[List.concat_eq_append] at *
  simp only[List.getLast?_append,List.getLast?_singleton,Option.some_or,List.dropLast_concat]
  intro x hx
  rcases List.mem_append.1 hx with hx|hx
  ·exact h x (by simp[hx])
  ·rw[List.mem_singleton] at hx;subst hx
   exact Nat.le_trans (bd r.t) (h r (by simp))
structure Ys(T:Nat)(ls:List Ln)(acc rows:List Row)(r:List Ln):Prop where
 pre:∃p,ls=p++r
 bulk:R3 (rows.map I3)+3*r.flatten.length≤R3 (acc.map I3)+3*ls.flatten.length
 len:rows.length+r.flatten.length≤acc.length+ls.flatten.length
 text:(∀ x∈acc,x.t.length≤T) → ∀x∈rows,x.t.length≤T
theorem qk(N M:Int)(T:Nat):∀(ls:List Ln) (n m:Int) (fr:Bool) (acc rows:List Row) (r:List Ln),(∀ l∈ls,l.length≤T)→Z3 N M ls n m fr acc=some (rows,r)→Ys T ls acc rows r
 | [],n,m,fr,acc,rows,r,hT,h=>by
  unfold Z3 at h
  split at h
  ·cases h;exact ⟨⟨[],rfl⟩,Nat.le_refl _,Nat.le_refl _,fun h=>h⟩
  ·cases h
 | l::ls,n,m,fr,acc,rows,r,hT,h=>by
  have hTs:∀x∈ls,x.length≤T:=fun x hx=>hT x (List.mem_cons_of_mem _ hx)
  have hl:=hT l (by simp)
  unfold Z3 at h
  split at h
  ·split at h
   ·obtain ⟨⟨p,hp⟩,h2,h3,h4⟩:=qk N M T ls _ _ _ _ rows r hTs h
    have b1:=Eu acc
    have b2:=Io acc
    refine ⟨⟨l::p,by rw[hp];rfl⟩,?_,?_,fun ha=>h4 (Et ha)⟩
    ·simp only[List.flatten_cons,List.length_append];omega
    ·simp only[List.flatten_cons,List.length_append];omega
   ·cases h
  ·split at h
   ·cases h;exact ⟨⟨[],rfl⟩,Nat.le_refl _,Nat.le_refl _,fun h=>h⟩
   ·split at h
    ·cases h
    ·rename_i w hw
     split at h
     ·cases h
     ·obtain ⟨⟨p,hp⟩,h2,h3,h4⟩:=qk N M T ls _ _ _ _ rows r hTs h
      have b1:=Nc hw
      have b2:=To hw
      simp only[lp,List.map_cons,List.map_nil,R3,pvB,List.length_append,List.length_singleton] at h2 h3
      refine ⟨⟨l::p,by rw[hp];rfl⟩,?_,?_,fun ha=>h4 fun x hx=>?_⟩
      ·simp only[List.flatten_cons,List.length_append];omega
      ·simp only[List.flatten_cons,List.length_append];omega
      ·rcases List.mem_append.1 hx with hx|hx
       ·exact ha x hx
       ·rw[List.mem_singleton] at hx;subst hx
        omega
theorem Mh:∀(s:Ln) (n:Int),0≤n→n≤2147483648→0≤(lc s n).1∧(lc s n).1≤2147483648∧(lc s n).2.length≤s.length
 | [],n,h0,h1=>⟨h0,h1,Nat.le_refl _⟩
 | c::r,n,h0,h1=>by
  unfold lc
  split
  ·rename_i hc
   have:=Mh r (Is (n*10+((c.toNat:Int)-48))) (by unfold Is;split<;>omega) (by unfold Is;split<;>omega)
   exact ⟨this.1,this.2.1,by simp only[List.length_cons];omega⟩
  ·exact ⟨h0,h1,Nat.le_refl _⟩
theorem Eb(s:Ln):0≤(fy s).1∧(fy s).1≤2147483648∧(fy s).2.1.length≤s.length:=Mh s 0 (by omega) (by omega)
theorem qb(s:Ln):(0≤(ap s).1∧(ap s).1≤2147483648)∧(0≤(ap s).2.1∧(ap s).2.1≤2147483648)∧(ap s).2.2.1.length≤s.length:=by
 have h1:=Eb s
 have h2:=Eb ((fy s).2.1.drop 1)
 rw[List.length_drop] at h2
 unfold ap
 split
 ·refine ⟨⟨h1.1,h1.2.1⟩,⟨h2.1,h2.2.1⟩,?_⟩
  show (fy ((fy s).2.1.drop 1)).2.1.length≤_
  omega
 ·exact ⟨⟨h1.1,h1.2.1⟩,⟨by show (0:Int)≤1;omega,by show (1:Int)≤_;omega⟩,h1.2.2⟩
theorem dg(s p:Ln):(X8 s p).1.length≤s.length:=by
 unfold X8;split
 ·simp
 ·exact Nat.le_refl _
def hSm(k:Nat)(h:Hnk):Prop:=(0≤h.a∧h.a≤2147483648)∧(0≤h.n∧h.n≤2147483648)∧(0≤h.b∧h.b≤2147483648)∧(0≤h.m∧h.m≤2147483648)∧h.head.length≤k∧h.rows = []
theorem Ld{k:Nat}{h:Hnk}{s:Ln}{ok:Bool}(hh:hSm k h)(hs:s.length≤k):hSm k (Ii h s ok).1:=by
 unfold Ii
 split
 ·exact hh
 ·split
  ·exact hh
  ·refine ⟨hh.1,hh.2.1,hh.2.2.1,hh.2.2.2.1,?_,hh.2.2.2.2.2⟩
   show (Lib.trimPrefix s [32]).length≤k
   unfold Lib.trimPrefix
   split
   ·rw[List.length_drop];omega
   ·exact hs
theorem Lt{k:Nat}{h:Hnk}{s:Ln}{ok:Bool}(hh:hSm k h)(hs:s.length≤k):hSm k (Qc h s ok).1:=by
 have:=dg s [32,64,64]
 unfold Qc;split
 ·exact Ld hh (by omega)
 ·exact Ld hh hs
theorem Np{k:Nat}{h:Hnk}{s:Ln}{ok:Bool}(hh:hSm k h)(hs:s.length≤k):hSm k (Pj h s ok).1:=by
 have:=qb s
 unfold Pj;split
 ·exact Lt ⟨hh.1,hh.2.1,this.1,this.2.1,hh.2.2.2.2⟩ (by omega)
 ·exact Lt hh hs
theorem Ni{k:Nat}{h:Hnk}{s:Ln}{ok:Bool}(hh:hSm k h)(hs:s.length≤k):hSm k (Od h s ok).1:=by
 have:=dg s [32,43]
 unfold Od;split
 ·exact Np hh (by omega)
 ·exact Np hh hs
theorem Ru(k:Nat):hSm k ln:=by simp[hSm,ln]
theorem Cf(s:Ln):hSm s.length (dl s).1:=by
 have h1:=dg s [64,64,32,45]
 have h2:=qb (X8 s [64,64,32,45]).1
 unfold dl;split
 ·exact Ni ⟨h2.1,h2.2.1,(Ru _).2.2⟩ (by omega)
 ·exact Ni (Ru _) h1
structure Xr(T:Nat)(ahead:List Hnk)(ls:List Ln)(h:Hnk)(r:List Ln):Prop where
 pre:∃l p,ls=l::(p++r)
 valid:J2 h=true
 ord:Ep ahead h=true
 small:(0≤h.a∧h.a≤2147483648)∧(0≤h.b∧h.b≤2147483648)∧h.head.length≤T∧(∀ x∈h.rows,x.t.length≤T)
 bulk:pvB (K6 h)+7*r.flatten.length≤7*ls.flatten.length
 len:h.rows.length+r.flatten.length≤ls.flatten.length
theorem Sx{T:Nat}{ahead:List Hnk}{ls:List Ln}{h:Hnk}{r:List Ln}(hT:∀l∈ls,l.length≤T)(hne:∀l∈ls,l ≠ [])(e:jx ahead ls=some (h,r)):Xr T ahead ls h r:=by
 cases ls with
 | nil=>simp[jx] at e
 | cons l ls=>
  have f:=Cf (N7 l)
  have hb:=bd l
  have hl:=hT l (by simp)
  have hl1:1≤l.length:=List.length_pos_iff.2 (hne l (by simp))
  simp only[jx] at e
  split at e
  ·split at e
   ·cases e
   ·rename_i rows r' hr
    split at e
    ·rename_i hv
     split at e
     ·rename_i ho
      cases e
      have o:=qk _ _ T ls 0 0 false [] rows r (fun x hx=>hT x (List.mem_cons_of_mem _ hx)) hr
      obtain ⟨p,hp⟩:=o.pre
      have ob:=o.bulk
      have ol:=o.len
      obtain ⟨f1,f2,f3,f4,f5,f6⟩:=f
      simp only[List.map_nil,R3,List.length_nil,Nat.zero_add] at ob ol
      refine ⟨⟨l,p,by rw[hp]⟩,hv,ho,⟨f1,f3,by show (dl (N7 l)).1.head.length≤T;omega,o.text (by simp)⟩,?_,?_⟩
      ·simp only[pvB,R3,List.flatten_cons,List.length_append]
       omega
      ·simp only[List.flatten_cons,List.length_append]
       omega
     ·cases e
    ·cases e
  ·cases e
theorem zx:∀(n:Nat) (s acc p r:Ln),uqL n s acc=some (p,r)→p.length+r.length≤acc.length+s.length
 | 0,s,acc,p,r,h=>by simp[uqL] at h
 | n+1,[],acc,p,r,h=>by simp[uqL] at h
 | n+1,c::s,acc,p,r,h=>by
  rw[uqL.eq_def] at h
  simp only at h
  split at h
  ·cases h;simp only[List.length_cons];omega
  ·split at h
   ·cases h
   ·split at h
    ·have:=zx n s _ p r h
     simp only[List.length_append,List.length_cons,List.length_nil] at this ⊢;omega
    ·split at h
     ·cases h
     ·rename_i d r1
      split at h
      ·have:=zx n r1 _ p r h
       simp only[List.length_append,List.length_cons,List.length_nil] at this ⊢;omega
      ·split at h
       ·rename_i v hv
        have:=zx n _ _ p r h
        simp only[List.length_append,List.length_cons,List.length_nil,List.length_drop] at this ⊢;omega
       ·cases h
theorem Xd{s p r:Ln}(h:tc s=some (p,r)):p.length+r.length≤s.length:=by
 unfold tc at h
 split at h
 ·have:=zx _ _ _ p r h
  simp only[List.length_cons,List.length_nil] at this ⊢;omega
 ·cases h
  rw[List.length_take,List.length_drop]
  have:=sn s
  omega
theorem nl{l:Ln}:∀{L:List Ln},l∈L→l.length≤L.flatten.length
 | x::L,h=>by
  rw[List.flatten_cons,List.length_append]
  rcases List.mem_cons.1 h with rfl|h
  ·omega
  ·have:=nl h;omega
theorem Ow(s:Ln):(ci s).length≤s.length+1:=by
 unfold ci;split
 ·simp
 ·omega
end Go.Sv
end
