/- What is printed is read again: a whole context diff, as plain lists. The document's answer for a file's text; the law UnifiedPrints. What the code of Go functions comes to over abstract stores, piece by piece; each equation by the kernel. Printed by a program of this session. Rows and names that are the same; hunks that are appended to a row. -/
import Derived.Test.YtebgkjjbbnbnlaaGreatDoorCxNa
import Derived.Test.YtebgkjjbbnbnlaaGreatDoorCxB
import Derived.Test.YtebgkjjbbnbnlaaGreatDoorSvT
import Derived.KernelRfl
import Derived.Test.YtebgkjjbbnbnlaaGreatDoorHk
set_option linter.unusedVariables false
set_option linter.unusedSimpArgs false
set_option maxRecDepth 100000
section
namespace Go.Sv
open Go
theorem Nu:∀(l:List Row) (n:Int),(∀ x∈l,x.k=1∨x.k=2∨x.k=3)→0≤n→n+l.length≤4611686018427387904→dh 3 l n=Y9 V3 l n
 | [],n,_,_,_=>rfl
 | r::l,n,hk,h0,h1=>by
  simp only[List.length_cons] at h1
  have e:(if r.k=3 then n else n+1)=(if V3 r.k=true then n+1 else n):=by
   unfold V3
   rcases hk r (by simp) with h|h|h<;>simp[h]
  rw[dh,Y9,F8 (by omega) (by omega),e]
  exact Nu l _ (fun x hx=>hk x (List.mem_cons_of_mem _ hx)) (by split<;>omega) (by split<;>omega)
theorem Lg:∀(l:List Row) (n:Int),(∀ x∈l,x.k=1∨x.k=2∨x.k=3)→0≤n→n+l.length≤4611686018427387904→dh 2 l n=Y9 U3 l n
 | [],n,_,_,_=>rfl
 | r::l,n,hk,h0,h1=>by
  simp only[List.length_cons] at h1
  have e:(if r.k=2 then n else n+1)=(if U3 r.k=true then n+1 else n):=by
   unfold U3
   rcases hk r (by simp) with h|h|h<;>simp[h]
  rw[dh,Y9,F8 (by omega) (by omega),e]
  exact Lg l _ (fun x hx=>hk x (List.mem_cons_of_mem _ hx)) (by split<;>omega) (by split<;>omega)
theorem Ht:∀(l:List Row) (m:List UInt8) (n:Int),l.length=m.length→(∀ x∈l,x.k=1∨x.k=2∨x.k=3)→0≤n→n+l.length≤4611686018427387904→n+(X3 3 l m).length=Y9 U3 l n
 | [],[],n,_,_,_,_=>by simp[X3,Y9]
 | r::l,c::m,n,hl,hk,h0,h1=>by
  simp only[List.length_cons] at h1
  have e:(if U3 r.k=true then n+1 else n)=n+((if r.k=1∨r.k=3 then [(⟨c,r.t⟩:Mkd)] else []).length:Nat):=by
   unfold U3
   rcases hk r (by simp) with h|h|h<;>simp[h]
  rw[X3,Y9,F8 (by omega) (by omega),List.length_append]
  have hle:((if r.k=1∨r.k=3 then [(⟨c,r.t⟩:Mkd)] else []).length:Nat)≤1:=by split<;>simp
  have ih:=Ht l m (n+((if r.k=1∨r.k=3 then [(⟨c,r.t⟩:Mkd)] else []).length:Nat)) (by simpa using hl) (fun x hx=>hk x (List.mem_cons_of_mem _ hx)) (by omega) (by omega)
  rw[e,←ih]
  omega
 | [],_::_,_,h,_,_,_=>by simp at h
 | _::_,[],_,h,_,_,_=>by simp at h
theorem Ww:∀l:List Mkd,l.length≤(l.flatMap Z6).length
 | []=>Nat.le_refl _
 | x::l=>by
  have ih:=Ww l
  have:1≤(Z6 x).length:=by unfold Z6;split<;>simp
  rw[List.flatMap_cons,List.length_append,List.length_cons];omega
theorem Cn{a n:Int}(h:0≤n):av ⟨a,if n<2 then 1 else n,decide (2≤n)⟩ n=true:=by
 unfold av
 by_cases g:n<2
 ·have:n=0∨n=1:=by omega
  rcases this with rfl|rfl<;>rfl
 ·simp[g]
structure HB(h:Hnk):Prop where
 ks:∀x∈h.rows,x.k=1∨x.k=2∨x.k=3
 ts:∀x∈h.rows,X1 x.t=true
 any:ee 2 h.rows=true∨ee 3 h.rows=true
 len:h.rows.length≤1048576
 a0:0≤h.a
 a1:h.a≤2147483647
 b0:0≤h.b
 b1:h.b≤2147483647
 n0:0≤h.n
 m0:0≤h.m
 an:h.a+h.n-1≤2147483647
 bm:h.b+h.m-1≤2147483647
 n:h.n=Y9 V3 h.rows 0
 m:h.m=Y9 U3 h.rows 0
 hd:∀c∈h.head,c≠10
theorem Vr{h:Hnk}(hv:J2 h=true)(ok:Z2 h):HB h:=by
 obtain ⟨v1,f1,f2,f3,f4,f5,f6⟩:=ca hv (Nat.le_trans ok.rows (by decide))
 have okr:=ok.rows
 simp only[J2,Bool.and_eq_true,beq_iff_eq,Bool.not_eq_true'] at hv
 obtain ⟨⟨⟨⟨⟨⟨_,v2⟩,v3⟩,v4⟩,v5⟩,v6⟩,v7⟩:=hv
 have c1:=fh V3 h.rows 0 (by omega) (by omega)
 have c2:=fh U3 h.rows 0 (by omega) (by omega)
 simp only[ez,Bool.and_eq_true,decide_eq_true_eq] at v4 v5
 rw[← v2,F8 (by omega) (by omega)] at v4
 rw[← v3,F8 (by omega) (by omega)] at v5
 refine ⟨kn _ _ _ _ v1,kb _ _ _ _ v1,?_,okr,f5,by omega,f6,by omega,f1,f3,by omega,by omega,v2,v3,fun c hc e=>?_⟩
 ·exact ((Gq _ _ _ _ v1).2).resolve_left (by decide)
 ·subst e
  have:h.head.contains 10=true:=by simpa using hc
  rw[v7] at this;cases this
theorem Fx(h:Hnk)(r:List Ln):(ah ((Z0 h ++ [10])::r)).1=Z0 h:=bz _
theorem Qw(h:Hnk):fo (Z0 h)=true:=by
 unfold fo Z0 X8
 by_cases e:h.head = []
 ·rw[if_pos e];rfl
 ·rw[if_neg e]
  have:Lib.hasPrefix (Cs++([32]++h.head)) Rs=true:=by
   unfold Lib.hasPrefix
   rw[List.isPrefixOf_iff_prefix]
   exact List.prefix_append _ _
  rw[if_pos this]
  rfl
theorem Px(h:Hnk):Lib.trimPrefix ((Z0 h).drop 15) [32]=h.head:=by
 unfold Z0
 by_cases e:h.head = []
 ·rw[if_pos e,e];rfl
 ·rw[if_neg e]
  have:(Cs++([32]++h.head)).drop 15 = [32]++h.head:=rfl
  rw[this]
  simp[Lib.trimPrefix,Lib.hasPrefix]
theorem aR(kind:UInt8)(h:Hnk):¬Lib.hasPrefix (N7 (Z0 h ++ [10])) [92]=true∧rb kind (Z0 h ++ [10])=none:=by
 unfold rb
 rw[bz]
 unfold Z0
 split
 ·exact ⟨by decide,rfl⟩
 ·exact ⟨by simp[Lib.hasPrefix,Cs],rfl⟩
theorem Zb(kind:UInt8)(a n:Int):¬Lib.hasPrefix (N7 ([45,45,45,32]++(X0 a n++([32,45,45,45,45] ++ [10])))) [92]=true∧rb kind ([45,45,45,32]++(X0 a n++([32,45,45,45,45] ++ [10])))=none:=by
 have e:[45,45,45,32]++(X0 a n++([32,45,45,45,45] ++ [10]))=([45,45,45,32]++(X0 a n ++ [32,45,45,45,45])) ++ [10]:=by simp
 unfold rb
 rw[e,bz]
 exact ⟨by simp[Lib.hasPrefix],rfl⟩
theorem wg{ls r:List Ln}{x:Ln}{k:Nat}(h:ls.drop k=x::r):ls.drop (k+1)=r:=by
 have:=List.drop_drop (l:=ls) (i:=1) (j:=k)
 rw[h] at this
 rw[← this];rfl
theorem Kn{h:Hnk}(hv:J2 h=true)(ok:Z2 h){ls X:List Ln}{first:Nat}(hd:ls.drop first=ej h++X)(hX:X = [] ∨ ∃(g:Hnk) (Y:List Ln),X=(Z0 g ++ [10])::Y){line err:Int}{o:Option (Hnk×Nat)}(H:jz ls first line err o):
  line=first∧err=0 ∧ ∃at':Nat,o=some (bc h,at')∧ls.drop at'=X∧at'≤ls.length:=by
 have b:=Vr hv ok
 have okr:=ok.rows
 have hml:=(Kx h.rows).1
 have hm2:=oo (kd:=2) (kind:=45) (.inl ⟨rfl,rfl⟩) h.rows
 have hm3:=oo (kd:=3) (kind:=43) (.inr ⟨rfl,rfl⟩) h.rows
 have htog:=Sw h.rows b.ks b.any
 have h3len:((iv 3 h.rows (O8 h.rows.length h.rows)).length:Int)≤(if h.m<2 then 1 else h.m):=by
  have:=Ht h.rows (O8 h.rows.length h.rows) 0 hml b.ks (by omega) (by omega)
  have hb:=b.m
  have hle:((iv 3 h.rows (O8 h.rows.length h.rows)).length:Int)≤h.m:=by
   unfold iv
   split
   ·omega
   ·have:=b.m0;simpa using this
  split<;>omega
 unfold ej at hd
 generalize iv 2 h.rows (O8 h.rows.length h.rows)=M2 at *
 generalize iv 3 h.rows (O8 h.rows.length h.rows)=M3 at *
 have hnow:(ah (ls.drop first)).1=Z0 h:=by rw[hd];exact Fx h _
 obtain ⟨X2,hX2⟩:∃X2,X2=([45,45,45,32]++(X0 h.b h.m++([32,45,45,45,45] ++ [10])))::(M3.flatMap Z6++X):=⟨_,rfl⟩
 have hd':ls.drop first=(Z0 h ++ [10])::([42,42,42,32]++(X0 h.a h.n++([32,42,42,42,42] ++ [10])))::(M2.flatMap Z6++X2):=by
  rw[hd,hX2]
  simp only[List.cons_append,List.append_assoc]
 have d1:=wg hd'
 have d2:ls.drop (first+2)=_:=wg d1
 have hs1:cd [42,42,42,32] [32,42,42,42,42] (ls.drop (first+1))=some ⟨h.a,if h.n<2 then 1 else h.n,decide (2≤h.n)⟩:=by
  rw[d1];exact Aq b.a0 b.a1 b.n0 b.an
 have hlen2:M2.length≤ls.length:=by
  have:=congrArg List.length d2
  rw[List.length_drop,List.length_append] at this
  have:=Ww M2
  omega
 have hp2:V5 45 ls.length (ls.drop (first+2)) [] false=(M2,X2):=by
  rw[d2]
  have:=tb (kind:=45) (most:=(ls.length:Int)) (X:=X2) (by decide) (by rw[hX2];intro l hl;simp only[List.head?_cons,Option.mem_some_iff] at hl;subst hl;exact Zb 45 h.b h.m) M2 [] false (fun x hx=>(hm2 x hx).1) (by simp only[List.length_nil];omega)
  rw[this,List.nil_append]
 have hs3:cd [45,45,45,32] [32,45,45,45,45] X2=some ⟨h.b,if h.m<2 then 1 else h.m,decide (2≤h.m)⟩:=by
  rw[hX2];exact Aq b.b0 b.b1 b.m0 b.bm
 have hp3:∀at2:Nat,ls.drop at2=X2→V5 43 (if h.m<2 then 1 else h.m) (ls.drop (at2+1)) [] false=(M3,X):=by
  intro at2 e
  rw[hX2] at e
  rw[wg e]
  have:=tb (kind:=43) (most:=if h.m<2 then 1 else h.m) (X:=X) (by decide) (by
   intro l hl
   rcases hX with rfl|⟨g,Y,rfl⟩
   ·simp at hl
   ·simp only[List.head?_cons,Option.mem_some_iff] at hl;subst hl;exact aR 43 g) M3 [] false (fun x hx=>(hm3 x hx).1) (by simp only[List.length_nil];omega)
  rw[this,List.nil_append]
 cases H with
 | noOld h1=>rw[hs1] at h1;cases h1
 | noNew h1 h2 hle h3=>
  rw[hp2] at h2
  simp only at h2
  rw[h2,hs3] at h3;cases h3
 | noTog h1 h2 hle h3 h4=>
  rw[hp2] at h2
  simp only at h2
  rw[h2,hs3] at h3
  injection h3 with h3
  subst h3
  rw[hp2,hp3 _ h2,htog] at h4
  cases h4
 | tog h1 h2 hle h3 h4 h5 hle3 head hh=>
  rw[hp2] at h2
  simp only at h2
  rw[h2,hs3] at h3
  injection h3 with h3
  subst h3
  rw[hs1] at h1
  injection h1 with h1
  subst h1
  rw[hp3 _ h2] at h4 h5
  rw[hp2,htog] at h4
  injection h4 with h4
  subst h4
  rw[hnow,Px] at hh
  subst hh
  simp only at h5
  have hp:=tu h.rows
  have hk':∀x∈S0 h.rows [] [],x.k=1∨x.k=2∨x.k=3:=fun x hx=>b.ks x (hp.mem_iff.1 hx)
  have c3:dh 3 (S0 h.rows [] []) 0=h.n:=by
   rw[Nu _ _ hk' (by omega) (by rw[hp.length_eq];omega),qo hp,b.n]
  have c2:dh 2 (S0 h.rows [] []) 0=h.m:=by
   rw[Lg _ _ hk' (by omega) (by rw[hp.length_eq];omega),qo hp,b.m]
  have hE:∀(x y:Rng),x.at_=h.a→y.at_=h.b→Gj h.head x y (S0 h.rows [] [])=bc h:=by
   intro x y e1 e2
   unfold Gj bc
   rw[c3,c2,e1,e2]
  rw[hE _ _ rfl rfl,c3,c2,Cn b.n0,Cn b.m0,Sn,hv]
  exact ⟨rfl,rfl,_,rfl,h5,hle3⟩
theorem Pn{g h:Hnk}(h1:0≤g.n)(h2:0≤g.m)(h3:0≤h.n)(h4:0≤h.m):cr g h=mm g h:=by
 have e:∀a n:Int,0≤n→pg a n=kw a n:=by
  intro a n hn
  unfold pg kw
  by_cases g:n=0
  ·rw[if_pos g,if_neg (by omega)]
  ·rw[if_neg g,if_pos (by omega)]
 unfold cr mm
 rw[e _ _ h1,e _ _ h2,e _ _ h3,e _ _ h4]
theorem Fy{ls:List Ln}:∀(l acc:List Hnk) (at_:Nat),(∀ h∈l,J2 h=true∧Z2 h)→ak l=true→(∀ g,acc.getLast? = some g→0≤g.n∧0≤g.m ∧ ∀h,l.head? = some h→mm g h=true)→ls.drop at_=l.flatMap ej→acc++l ≠ [] → ∀{line err:Int} {o:Option (List Hnk×Nat)},nq ls at_ acc line err o →
  line=0∧err=0 ∧ ∃at':Nat,o=some (acc++l.map bc,at')∧ls.length≤at'
 | [],acc,at_,_,_,_,hd,hne,line,err,o,H=>by
  rw[List.flatMap_nil] at hd
  have hlen:ls.length≤at_:=by
   have:=congrArg List.length hd
   rw[List.length_drop,List.length_nil] at this
   omega
  have hh:fo (ah (ls.drop at_)).1=false:=by rw[hd];rfl
  cases H with
  | stop h hn=>exact ⟨rfl,rfl,at_,by simp,hlen⟩
  | none h=>exact absurd rfl hne
  | bad h=>rw[hh] at h;cases h
  | order h=>rw[hh] at h;cases h
  | step h=>rw[hh] at h;cases h
 | h::l,acc,at_,hok,ho,hg,hd,hne,line,err,o,H=>by
  obtain ⟨hv,ok⟩:=hok h (by simp)
  have b:=Vr hv ok
  rw[List.flatMap_cons] at hd
  have hh:fo (ah (ls.drop at_)).1=true:=by
   rw[hd]
   unfold ej
   rw[List.cons_append,Fx]
   exact Qw h
  have hX:l.flatMap ej = [] ∨ ∃(g:Hnk) (Y:List Ln),l.flatMap ej=(Z0 g ++ [10])::Y:=by
   cases l with
   | nil=>exact .inl rfl
   | cons g l=>exact .inr ⟨g,_,by rw[List.flatMap_cons];unfold ej;rw[List.cons_append]⟩
  have hbk:=fun {line err:Int} {o:Option (Hnk×Nat)} (G:jz ls at_ line err o)=>Kn hv ok hd hX G
  cases H with
  | stop h hn=>rw[hh] at h;cases h
  | none h=>rw[hh] at h;cases h
  | bad _ G=>
   obtain ⟨_,_,_,e,_⟩:=hbk G
   cases e
  | order _ G hl hb=>
   obtain ⟨_,_,at',e,_⟩:=hbk G
   injection e with e
   injection e with e1 e2
   subst e1
   obtain ⟨g1,g2,g3⟩:=hg _ hl
   have:cr _ (bc h)=mm _ h:=Pn g1 g2 (h:=bc h) b.n0 b.m0
   rw[this,g3 h rfl] at hb
   cases hb
  | step _ G hl hr=>
   obtain ⟨_,_,at2,e,e4,e5⟩:=hbk G
   injection e with e
   injection e with e1 e2
   subst e1
   subst e2
   have hin:ak l=true ∧ ∀h',l.head? = some h'→mm h h'=true:=by
    cases l with
    | nil=>exact ⟨rfl,fun h' e=>by simp at e⟩
    | cons g l=>
     rw[ak,Bool.and_eq_true] at ho
     exact ⟨ho.2,fun h' e=>by simp at e;subst e;exact ho.1⟩
   obtain ⟨i1,i2,at',i3,i4⟩:=Fy l (acc ++ [bc h]) _ (fun x hx=>hok x (List.mem_cons_of_mem _ hx)) hin.1 (fun g eg=>by
    rw[List.getLast?_append] at eg
    simp at eg
    subst eg
    exact ⟨b.n0,b.m0,fun h' e=>hin.2 h' e⟩) e4 (by simp) hr
   exact ⟨i1,i2,at',by rw[i3];simp,i4⟩
abbrev Zf(p s p' s':Ln)(hs:List Hnk):AV:=.tup [.pv (nmP p s),.pv (nmP p' s'),.pv (.sl (hs.map K6)),.pv (.str []),.pv (.int .i64 0),.pv (.raw .nilIface)]
theorem yw:∀l:List Hnk,(l.flatMap ej).flatten=l.flatMap jk
 | []=>rfl
 | h::l=>by rw[List.flatMap_cons,List.flatten_append,Mo,yw l,List.flatMap_cons]
theorem Vy{p s p' s':Ln}{l:List Hnk}(h1:N2 p s=true)(h2:N2 p' s'=true)(hok:∀h∈l,J2 h=true∧Z2 h)(ho:ak l=true)(hne:l ≠ [])(hl:(fg p s p' s' l).length≤4194304){w:AV}(H:na (fg p s p' s' l) w):w=Zf p s p' s' (l.map bc):=by
 obtain ⟨L,hL⟩:∃L,L=([42,42,42,32]++(N4 p s ++ [10]))::([45,45,45,32]++(N4 p' s' ++ [10]))::l.flatMap ej:=⟨_,rfl⟩
 have e:fg p s p' s' l=L.flatten:=by
  rw[hL,List.flatten_cons,List.flatten_cons,yw]
  unfold fg zw
  simp
 have hwl:∀x∈L,wl x:=by
  intro x hx
  rw[hL] at hx
  rcases List.mem_cons.1 hx with rfl|hx
  ·exact ⟨N9 _ _ (by decide) (N9 _ _ (dy h1) rfl),by rw[K2 (by simp),K2 (by simp)];rfl⟩
  rcases List.mem_cons.1 hx with rfl|hx
  ·exact ⟨N9 _ _ (by decide) (N9 _ _ (dy h2) rfl),by rw[K2 (by simp),K2 (by simp)];rfl⟩
  obtain ⟨h,hh,hx⟩:=List.mem_flatMap.1 hx
  have b:=Vr (hok h hh).1 (hok h hh).2
  exact Sp b.hd b.a0 b.n0 b.b0 b.m0 b.ts x hx
 have hlin:W6 (fg p s p' s' l)=L:=by
  unfold W6
  rw[e,od L hwl]
  unfold Dl
  cases hg:L.getLast? with
  | none=>rfl
  | some x=>simp only;rw[if_pos (hwl x (List.mem_of_getLast? hg)).2]
 have n1:am [42,42,42,32] L=some (p,s):=by rw[hL];exact Aa h1
 have n2:am [45,45,45,32] (L.drop 1)=some (p',s'):=by rw[hL];exact Aa h2
 have hr:=fun {line err:Int} {o:Option (List Hnk×Nat)} (G:nq L 2 [] line err o)=>Fy l [] 2 hok ho (by simp) (by rw[hL];rfl) (by simpa using hne) G
 generalize htx:fg p s p' s' l=text at *
 cases H with
 | big h=>omega
 | name1 h g1=>rw[hlin,n1] at g1;cases g1
 | name2 h g1 g2=>rw[hlin,n2] at g2;cases g2
 | bad h g1 g2 G=>
  rw[hlin] at G
  obtain ⟨_,_,_,e,_⟩:=hr G
  cases e
 | good h g1 g2 G=>
  rw[hlin] at G g1 g2
  obtain ⟨_,_,at',e2,e3⟩:=hr G
  injection e2 with e2
  injection e2 with e4 e5
  subst e5
  rw[n1] at g1
  injection g1 with g1
  rw[n2] at g2
  injection g2 with g2
  subst g1
  subst g2
  subst e4
  rw[hlin,List.take_of_length_le e3,←e]
  simp[Hz,Zf]
end Go.Sv
end
section
namespace Go.Sv
section
open Go Go.RowKit Go.Proofs
variable {w0:B5}{σ:A2}{R:AV→A2→Prop}
theorem Rl(L:Laid w0.w)(S:A2)(xs:List PV)(hx:xs.length≤1048576)(v:AV):∀(r:List Hnk) (k:Nat),xs.drop k=r.map K6→(∀ h∈r,Z2 h)→(r.all J2=false→v = .pv (.int .i64 100)) →
  (r.all J2=true→C0.n31 (C0.X w0 0) w0 0 (fun r' _=>r'=v) S (.pv (.sl xs))) →
  C0.n14 (C0.X w0 0) w0 0 (fun r' _=>r'=v) S (.pv (.sl xs)) k
 | [],k,hd,_,_,hn=>by
  have hk:=N5 hd
  refine C0.n14_in ?_
  rw[C0.b15_eq]
  repeat ((with_reducible first|apply A0|apply wI|apply wT|apply wP|apply wS|apply wB);exact rfl)
  rw[A8,if_neg (by omega)]
  exact hn rfl
 | h::r,k,hd,ht,hb,hn=>by
  obtain ⟨h1,h2,hk⟩:=G7 hd
  have ok:=ht h (by simp)
  refine C0.n14_in ?_
  rw[C0.b15_eq]
  repeat ((with_reducible first|apply A0|apply wI|apply wT|apply wP|apply wS|apply wB);exact rfl)
  rw[A8,if_pos (by omega)]
  refine A0 (O1 ke h1 rfl) ?_
  repeat ((with_reducible first|apply A0|apply wI|apply wT|apply wP|apply wS|apply wB);exact rfl)
  refine Lx L (Nat.le_trans ok.rows (by decide)) (fun x hx=>Nat.le_trans (ok.text x hx) (by decide)) (Nat.le_trans ok.head (by decide)) ?_
  refine L3 ?_
  rw[Q2]
  cases hv:J2 h with
  | false=>
   rw[if_neg (by decide)]
   refine C4 (Nat.zero_le _) ?_
   rw[hb (by rw[List.all_cons,hv,Bool.false_and])]
  | true=>
   rw[if_pos rfl,if_pos rfl,J3 hk (by omega)]
   exact Rl L S xs hx v r (k+1) h2 (fun x hx=>ht x (List.mem_cons_of_mem _ hx)) (fun e=>hb (by rw[List.all_cons,hv,Bool.true_and,e])) (fun e=>hn (by rw[List.all_cons,hv,Bool.true_and,e]))
theorem Rr(L:Laid w0.w)(S:A2)(xs:List PV)(hx:xs.length≤1048576)(v:AV):∀(r:List Hnk) (g:Hnk) (k:Nat),xs.drop k=(g::r).map K6→(ak (g::r)=false→v = .pv (.int .i64 112))→(ak (g::r)=true→v = .pv (.int .i64 0)) →
  C0.n35 (C0.X w0 0) w0 0 (fun r' _=>r'=v) S (.pv (.sl xs)) ((k+1:Nat):Int)
 | [],g,k,hd,_,hn=>by
  obtain ⟨h1,h2,hk⟩:=G7 hd
  have hk2:=N5 h2
  refine C0.n35_in ?_
  rw[C0.b36_eq]
  repeat ((with_reducible first|apply A0|apply wI|apply wT|apply wP|apply wS|apply wB);exact rfl)
  rw[A8,if_neg (by omega)]
  refine C0.n52_in ?_
  rw[C0.b52_eq]
  exact C4 (Nat.zero_le _) (hn rfl).symm
 | h::r,g,k,hd,hb,hn=>by
  obtain ⟨h1,h2,hk⟩:=G7 hd
  obtain ⟨h3,h4,hk2⟩:=G7 h2
  have e:IntKind.wrap .i64 (((k+1:Nat):Int)-1)=(k:Int):=by rw[F8 (by omega) (by omega)];omega
  refine C0.n35_in ?_
  rw[C0.b36_eq]
  repeat ((with_reducible first|apply A0|apply wI|apply wT|apply wP|apply wS|apply wB);exact rfl)
  rw[A8,if_pos (by omega),e]
  refine A0 (O1 ke h1 rfl) ?_
  repeat ((with_reducible first|apply A0|apply wI|apply wT|apply wP|apply wS|apply wB);exact rfl)
  refine A0 (O1 ke h3 rfl) ?_
  repeat ((with_reducible first|apply A0|apply wI|apply wT|apply wP|apply wS|apply wB);exact rfl)
  refine Ig L (g:=g) (h:=h) (F0 ?_)
  rw[E3]
  refine A7 (fun gg=>?_) (fun gg=>?_)
  ·rw[J3 hk2 (by omega)]
   exact Rr L S xs hx v r h (k+1) h2 (fun e=>hb (by rw[ak,gg,e];rfl)) (fun e=>hn (by rw[ak,gg,e];rfl))
  ·refine C4 (Nat.zero_le _) ?_
   rw[hb (by rw[ak,gg];rfl)]
theorem Mn(L:Laid w0.w){p s p' s':List UInt8}{l:List Hnk}(o:rg p s p' s' l)(hR:R (.pv (.int .i64 (T9 p s p' s' l))) σ):A1 (cx w0) C0.id [.pv (nmP p s),.pv (nmP p' s'),cg l] σ R:=by
 refine A1.alone L rfl (fun w1 L1=>?_) rfl hR
 have hx:(l.map K6).length≤1048576:=by rw[List.length_map];exact o.len
 have fin:∀t,t = !(N2 p s&&N2 p' s')→C0.n5 (C0.X w1 0) w1 0 (fun r' _=>r' = .pv (.int .i64 (T9 p s p' s' l))) (nmS p s p' s') (cg l) t:=by
  rintro t rfl
  refine C0.n5_in ?_
  rw[C0.b5_eq,E3]
  refine A7 (fun g=>?_) (fun g=>?_)
  ·rw[Bool.and_eq_true] at g
   refine Rl L1 _ (l.map K6) hx _ l 0 rfl o.ok (fun e=>?_) (fun e=>?_)
   ·have:T9 p s p' s' l=100:=by simp[T9,g.1,g.2,e]
    rw[this]
   refine C0.n31_in ?_
   rw[C0.b31_eq]
   match l,e with
   | [],e=>
    refine C0.n35_in ?_
    rw[C0.b36_eq]
    repeat ((with_reducible first|apply A0|apply wI|apply wT|apply wP|apply wS|apply wB);exact rfl)
    rw[A8,if_neg (by decide)]
    refine C0.n52_in ?_
    rw[C0.b52_eq]
    refine C4 (Nat.zero_le _) ?_
    have:T9 p s p' s' []=0:=by simp[T9,g.1,g.2,ak]
    rw[this]
   | g0::r,e=>
    have:=Rr L1 (nmS p s p' s') ((g0::r).map K6) hx (.pv (.int .i64 (T9 p s p' s' (g0::r)))) r g0 0 rfl (fun e2=>by
     have:T9 p s p' s' (g0::r)=112:=by simp[T9,g.1,g.2,e2];simpa using e
     rw[this]) (fun e2=>by
     have:T9 p s p' s' (g0::r)=0:=by simp[T9,g.1,g.2,e2];simpa using e
     rw[this])
    exact this
  ·refine C4 (Nat.zero_le _) ?_
   have:T9 p s p' s' l=110:=by simp[T9,g]
   rw[this]
 refine C0.calls ?_
 rw[C0.b0_eq]
 refine ⟨rfl,rfl,?_⟩
 repeat ((with_reducible first|apply A0|apply wI|apply wT|apply wP|apply wS|apply wB);exact rfl)
 refine yn L1 o.p o.s (F0 ?_)
 rw[E3]
 refine A7 (fun g=>?_) (fun g=>fin _ ?_)
 ·repeat ((with_reducible first|apply A0|apply wI|apply wT|apply wP|apply wS|apply wB);exact rfl)
  refine yn L1 o.p' o.s' (F0 (fin _ ?_))
  rw[g];rfl
 ·rw[g];rfl
open Go.Proofs.YtebgkjjbbnbnlaaGreatDoor in
theorem Ib{d:Nat}{q:PV}(h:jp B2 (d+2) 23 q):∃p s,q=nmP p s:=by
 obtain ⟨qs,rfl,g⟩:=kj tab23 Xu h
 obtain ⟨_,qs,rfl,h1,h⟩:=V0 g
 obtain ⟨_,qs,rfl,h2,h⟩:=V0 h
 obtain rfl:=mi h
 obtain ⟨p,rfl,_⟩:=ur ny Im h1
 obtain ⟨s,rfl,_⟩:=ur ny Im h2
 exact ⟨p,s,rfl⟩
end
end Go.Sv
end
section
namespace Go.Sv
open Go Go.Proofs
namespace Y3
def lvs:List (List Nat):=[[0],[0],[0],[0],[0],[0,5],[],[],[2],[0],[0],[0],[0,3],[0,3],[0,3],[3,9],[],[],[2],[3],[3],[3],[2]]
def lv:Nat→List Nat:=O9 lvs
noncomputable def code:Code:=F3 Tryz.f11
noncomputable def fe:FE:=⟨Tryz.f11,code,lv⟩
theorem ok(w0:B5):FOK (cx w0) Y3.id fe:=⟨Tryz.func11,by kernel_rfl,by kernel_rfl⟩
variable {Z:XT}{w0:B5}{n:Nat}{R:RT}{σ τ:A2}{e_:AV}
end Y3
namespace F6
def lvs:List (List Nat):=[[0,1],[0,1],[2,3],[2,3],[2,3],[2,3,47],[],[],[4],[2,3],[2,3],[2,3],[2,3],[2,3,5],[2,3,5],[2,3,5],[2,3,5],[2,3,5],[2,3,5,52],[2,3,5],[],[2,3,5],[2,3,5],[2,3,5],[2,3,5],[2,3,5,65],[],[],[4],[2,3,5],[2,3,5],[],[],[4]]
def lv:Nat→List Nat:=O9 lvs
noncomputable def code:Code:=F3 Tryz.f19
noncomputable def fe:FE:=⟨Tryz.f19,code,lv⟩
def A5:List Nat:=[5,15,31]
abbrev X(w0:B5)(n:Nat):XT:=xr (cx w0) 66 lv n
theorem ok(w0:B5):FOK (cx w0) F6.id fe:=⟨Tryz.func19,by kernel_rfl,by kernel_rfl⟩
section
variable (Z:XT)(w0:B5)(n:Nat)(R:RT)(σ:A2)(a b:AV)(t47:Bool)(i:Int)
def q3:QT:=D6 (fun env σ=>A6 (cx w0) 66 lv n A5 Z (cAt code 10) 10 (prune (lv 10) env) σ (B7 (cx w0) Tryz.f19 n R)) (B7 (cx w0) Tryz.f19 n R)
def q11:QT:=D6 (fun env σ=>Z (cAt code 31) 31 (prune (lv 31) env) σ (B7 (cx w0) Tryz.f19 n R)) (B7 (cx w0) Tryz.f19 n R)
def q14:QT:=H7 0 (q11 Z w0 n R)
def q15:QT:=D6 (fun env σ=>Z (cAt code 14) 14 (prune (lv 14) env) σ (q14 Z w0 n R)) (q14 Z w0 n R)
def n5:Prop:=
 Z (cAt code 5) 5 [(2,a),(3,b),(47,(.pv (.bool t47)))] σ (q3 Z w0 n R)
def b5:Prop:=
 A6 (cx w0) 66 lv n A5 Z (cAt code 5) 5 [(2,a),(3,b),(47,(.pv (.bool t47)))] σ (q3 Z w0 n R)
def n14:Prop:=
 Z (cAt code 14) 14 [(2,a),(3,b),(5,(.pv (.int .i64 i)))] σ (q14 Z w0 n R)
def b15:Prop:=
 A6 (cx w0) 66 lv n A5 Z (cAt code 15) 15 [(2,a),(3,b),(5,(.pv (.int .i64 i)))] σ (q15 Z w0 n R)
def n31:Prop:=
 Z (cAt code 31) 31 [] σ (B7 (cx w0) Tryz.f19 n R)
def b31:Prop:=
 A6 (cx w0) 66 lv n A5 Z (cAt code 31) 31 [] σ (B7 (cx w0) Tryz.f19 n R)
def b0:Prop:=
 A6 (cx w0) 66 lv n A5 Z code 0 (J6 0 [a,b]) σ (B7 (cx w0) Tryz.f19 n R)
end
variable {Z:XT}{w0:B5}{n:Nat}{R:RT}{σ τ:A2}{a b a' b':AV}{t47:Bool}{i i':Int}
theorem b5_eq:b5 Z w0 n R σ a b t47=(
 B1 t47 (F2 (cx w0) n (.pv (.bool false)) σ R) (n14 Z w0 n R σ a b 0)):=by kernel_rfl
theorem n5_in(h:b5 (X w0 n) w0 n R σ a b t47):n5 (X w0 n) w0 n R σ a b t47:=E0 (S:=A5) (by kernel_rfl) h
theorem n14_in(h:b15 (X w0 n) w0 n R σ a b i):n14 (X w0 n) w0 n R σ a b i:=I5 (J9 w0) (S:=A5) (by kernel_rfl:cAt code 14 = .loop (cAt code 15)) h
theorem b15_eq:b15 Z w0 n R σ a b i=(
 opt (A3 B2 E4.td a 5) fun t49=>opt (A4 σ R7 t49) fun t50=>opt (R2 R7.td t50) fun t51=>isI .i64 t51 fun t51_1=>B1 (decide ((i:Int)<t51_1)) (opt (A3 B2 E4.td a 5) fun t55=>opt (A4 σ R7 t55) fun t56=>opt (B9 σ B2 R7.td t56 i) fun t58=>opt (A4 σ L7 t58) fun t59=>opt (A3 B2 E4.td b 5) fun t60=>opt (A4 σ R7 t60) fun t61=>opt (B9 σ B2 R7.td t61 i) fun t63=>opt (A4 σ L7 t63) fun t64=>T0 B2 51 false .neq t59 t64 fun v=>isB v fun b_1=>B1 b_1 (F2 (cx w0) n (.pv (.bool false)) σ R) (n14 Z w0 n R σ a b (IntKind.wrap .i64 (i+1)))) (n31 Z w0 n R σ)):=by kernel_rfl
theorem b31_eq:b31 Z w0 n R σ=(
 F2 (cx w0) n (.pv (.bool true)) σ R):=by kernel_rfl
theorem n31_in(h:b31 (X w0 n) w0 n R σ):n31 (X w0 n) w0 n R σ:=E0 (S:=A5) (by kernel_rfl) h
theorem b0_eq:b0 Z w0 n R σ a b=(
 ((AV.cells a).all AV.one=true∧(((AV.cells b).all AV.one=true∧(opt (A3 B2 E4.td (.ptr (List.length σ) 0) 0) fun t6=>opt (A4 ((σ ++ [.cells 39 (AV.cells a)]) ++ [.cells 39 (AV.cells b)]) ti3 t6) fun t7=>isI .i64 t7 fun t7_1=>opt (A3 B2 E4.td (.ptr (List.length (σ ++ [.cells 39 (AV.cells a)])) 0) 0) fun t8=>opt (A4 ((σ ++ [.cells 39 (AV.cells a)]) ++ [.cells 39 (AV.cells b)]) ti3 t8) fun t9=>isI .i64 t9 fun t9_1=>B1 ((t7_1:Int) != t9_1) (n5 Z w0 n R ((σ ++ [.cells 39 (AV.cells a)]) ++ [.cells 39 (AV.cells b)]) (.ptr (List.length σ) 0) (.ptr (List.length (σ ++ [.cells 39 (AV.cells a)])) 0) true) (opt (A3 B2 E4.td (.ptr (List.length σ) 0) 1) fun t12=>opt (A4 ((σ ++ [.cells 39 (AV.cells a)]) ++ [.cells 39 (AV.cells b)]) ti3 t12) fun t13=>isI .i64 t13 fun t13_1=>opt (A3 B2 E4.td (.ptr (List.length (σ ++ [.cells 39 (AV.cells a)])) 0) 1) fun t14=>opt (A4 ((σ ++ [.cells 39 (AV.cells a)]) ++ [.cells 39 (AV.cells b)]) ti3 t14) fun t15=>isI .i64 t15 fun t15_1=>B1 ((t13_1:Int) != t15_1) (n5 Z w0 n R ((σ ++ [.cells 39 (AV.cells a)]) ++ [.cells 39 (AV.cells b)]) (.ptr (List.length σ) 0) (.ptr (List.length (σ ++ [.cells 39 (AV.cells a)])) 0) true) (opt (A3 B2 E4.td (.ptr (List.length σ) 0) 2) fun t19=>opt (A4 ((σ ++ [.cells 39 (AV.cells a)]) ++ [.cells 39 (AV.cells b)]) ti3 t19) fun t20=>isI .i64 t20 fun t20_1=>opt (A3 B2 E4.td (.ptr (List.length (σ ++ [.cells 39 (AV.cells a)])) 0) 2) fun t21=>opt (A4 ((σ ++ [.cells 39 (AV.cells a)]) ++ [.cells 39 (AV.cells b)]) ti3 t21) fun t22=>isI .i64 t22 fun t22_1=>B1 ((t20_1:Int) != t22_1) (n5 Z w0 n R ((σ ++ [.cells 39 (AV.cells a)]) ++ [.cells 39 (AV.cells b)]) (.ptr (List.length σ) 0) (.ptr (List.length (σ ++ [.cells 39 (AV.cells a)])) 0) true) (opt (A3 B2 E4.td (.ptr (List.length σ) 0) 3) fun t26=>opt (A4 ((σ ++ [.cells 39 (AV.cells a)]) ++ [.cells 39 (AV.cells b)]) ti3 t26) fun t27=>isI .i64 t27 fun t27_1=>opt (A3 B2 E4.td (.ptr (List.length (σ ++ [.cells 39 (AV.cells a)])) 0) 3) fun t28=>opt (A4 ((σ ++ [.cells 39 (AV.cells a)]) ++ [.cells 39 (AV.cells b)]) ti3 t28) fun t29=>isI .i64 t29 fun t29_1=>B1 ((t27_1:Int) != t29_1) (n5 Z w0 n R ((σ ++ [.cells 39 (AV.cells a)]) ++ [.cells 39 (AV.cells b)]) (.ptr (List.length σ) 0) (.ptr (List.length (σ ++ [.cells 39 (AV.cells a)])) 0) true) (opt (A3 B2 E4.td (.ptr (List.length σ) 0) 4) fun t33=>opt (A4 ((σ ++ [.cells 39 (AV.cells a)]) ++ [.cells 39 (AV.cells b)]) ti9 t33) fun t34=>isS t34 fun t34_1=>opt (A3 B2 E4.td (.ptr (List.length (σ ++ [.cells 39 (AV.cells a)])) 0) 4) fun t35=>opt (A4 ((σ ++ [.cells 39 (AV.cells a)]) ++ [.cells 39 (AV.cells b)]) ti9 t35) fun t36=>isS t36 fun t36_1=>B1 (!((t34_1:List UInt8)==t36_1)) (n5 Z w0 n R ((σ ++ [.cells 39 (AV.cells a)]) ++ [.cells 39 (AV.cells b)]) (.ptr (List.length σ) 0) (.ptr (List.length (σ ++ [.cells 39 (AV.cells a)])) 0) true) (opt (A3 B2 E4.td (.ptr (List.length σ) 0) 5) fun t40=>opt (A4 ((σ ++ [.cells 39 (AV.cells a)]) ++ [.cells 39 (AV.cells b)]) R7 t40) fun t41=>opt (R2 R7.td t41) fun t42=>isI .i64 t42 fun t42_1=>opt (A3 B2 E4.td (.ptr (List.length (σ ++ [.cells 39 (AV.cells a)])) 0) 5) fun t43=>opt (A4 ((σ ++ [.cells 39 (AV.cells a)]) ++ [.cells 39 (AV.cells b)]) R7 t43) fun t44=>opt (R2 R7.td t44) fun t45=>isI .i64 t45 fun t45_1=>n5 Z w0 n R ((σ ++ [.cells 39 (AV.cells a)]) ++ [.cells 39 (AV.cells b)]) (.ptr (List.length σ) 0) (.ptr (List.length (σ ++ [.cells 39 (AV.cells a)])) 0) ((t42_1:Int) != t45_1))))))))))):=by kernel_rfl
theorem calls(h:b0 (X w0 (List.length σ)) w0 (List.length σ) R σ a b):A1 (cx w0) F6.id [a,b] σ R:=
 D3 (J9 w0) (x:=fe) (S:=A5) (F6.ok w0) (by kernel_rfl) h
end F6
namespace F5
def lvs:List (List Nat):=[[0,1],[0,1],[0,1],[0,1],[0,1],[0,1,10],[],[],[4],[0,1],[0,1],[0,1],[0,1],[0,1,5],[0,1,5],[0,1,5],[0,1,5],[0,1,5],[0,1,5,14],[0,1,5],[],[0,1,5],[0,1,5],[0,1,5],[0,1,5],[0,1,5,26],[],[],[4],[0,1,5],[0,1,5],[],[],[4]]
def lv:Nat→List Nat:=O9 lvs
noncomputable def code:Code:=F3 Tryz.f12
noncomputable def fe:FE:=⟨Tryz.f12,code,lv⟩
def A5:List Nat:=[15,31]
abbrev X(w0:B5)(n:Nat):XT:=xr (cx w0) 27 lv n
theorem ok(w0:B5):FOK (cx w0) F5.id fe:=⟨Tryz.func12,by kernel_rfl,by kernel_rfl⟩
section
variable (Z:XT)(w0:B5)(n:Nat)(R:RT)(σ:A2)(a b:AV)(i:Int)
def q11:QT:=D6 (fun env σ=>Z (cAt code 31) 31 (prune (lv 31) env) σ (B7 (cx w0) Tryz.f12 n R)) (B7 (cx w0) Tryz.f12 n R)
def q14:QT:=H7 0 (q11 Z w0 n R)
def q15:QT:=D6 (fun env σ=>Z (cAt code 14) 14 (prune (lv 14) env) σ (q14 Z w0 n R)) (q14 Z w0 n R)
def n14:Prop:=
 Z (cAt code 14) 14 [(0,a),(1,b),(5,(.pv (.int .i64 i)))] σ (q14 Z w0 n R)
def b15:Prop:=
 A6 (cx w0) 27 lv n A5 Z (cAt code 15) 15 [(0,a),(1,b),(5,(.pv (.int .i64 i)))] σ (q15 Z w0 n R)
def n31:Prop:=
 Z (cAt code 31) 31 [] σ (B7 (cx w0) Tryz.f12 n R)
def b31:Prop:=
 A6 (cx w0) 27 lv n A5 Z (cAt code 31) 31 [] σ (B7 (cx w0) Tryz.f12 n R)
def b0:Prop:=
 A6 (cx w0) 27 lv n A5 Z code 0 (J6 0 [a,b]) σ (B7 (cx w0) Tryz.f12 n R)
end
variable {Z:XT}{w0:B5}{n:Nat}{R:RT}{σ τ:A2}{a b a' b':AV}{i i':Int}
theorem n14_in(h:b15 (X w0 n) w0 n R σ a b i):n14 (X w0 n) w0 n R σ a b i:=I5 (J9 w0) (S:=A5) (by kernel_rfl:cAt code 14 = .loop (cAt code 15)) h
theorem b15_eq:b15 Z w0 n R σ a b i=(
 opt (R2 ax.td a) fun t13=>isI .i64 t13 fun t13_1=>B1 (decide ((i:Int)<t13_1)) (opt (B9 σ B2 ax.td a i) fun t19=>opt (A4 σ E4 t19) fun t20=>opt (B9 σ B2 ax.td b i) fun t23=>opt (A4 σ E4 t23) fun t24=>A1 (cx w0) F6.id [t20,t24] σ fun r σ'=>isB r fun t25=>B1 (!t25) (F2 (cx w0) n (.pv (.bool false)) σ' R) (n14 Z w0 n R σ' a b (IntKind.wrap .i64 (i+1)))) (n31 Z w0 n R σ)):=by kernel_rfl
theorem b31_eq:b31 Z w0 n R σ=(
 F2 (cx w0) n (.pv (.bool true)) σ R):=by kernel_rfl
theorem n31_in(h:b31 (X w0 n) w0 n R σ):n31 (X w0 n) w0 n R σ:=E0 (S:=A5) (by kernel_rfl) h
theorem b0_eq:b0 Z w0 n R σ a b=(
 opt (R2 ax.td a) fun t7=>isI .i64 t7 fun t7_1=>opt (R2 ax.td b) fun t9=>isI .i64 t9 fun t9_1=>B1 ((t7_1:Int) != t9_1) (F2 (cx w0) n (.pv (.bool false)) σ R) (n14 Z w0 n R σ a b 0)):=by kernel_rfl
theorem calls(h:b0 (X w0 (List.length σ)) w0 (List.length σ) R σ a b):A1 (cx w0) F5.id [a,b] σ R:=
 D3 (J9 w0) (x:=fe) (S:=A5) (F5.ok w0) (by kernel_rfl) h
end F5
namespace G2
def lvs:List (List Nat):=[[0],[0],[0],[0],[0,3],[0,3],[0,3],[0,3,4],[0,3,4],[0,3,4],[0,3,4],[0,3,4],[0,3,4,10],[0,3,4],[3],[0,3,4],[0,3,4],[0,3,4],[0,3,4],[0,3,4,5],[0,3,4,5],[0,3,4,5,6],[0,3,4,5,6],[0,3,4,5],[0,3,4],[3],[3],[2]]
def lv:Nat→List Nat:=O9 lvs
noncomputable def code:Code:=F3 Tryz.f8
noncomputable def fe:FE:=⟨Tryz.f8,code,lv⟩
def A5:List Nat:=[9,25]
abbrev X(w0:B5)(n:Nat):XT:=xr (cx w0) 27 lv n
theorem ok(w0:B5):FOK (cx w0) G2.id fe:=⟨Tryz.func8,by kernel_rfl,by kernel_rfl⟩
section
variable (Z:XT)(w0:B5)(n:Nat)(R:RT)(σ:A2)(l_ out:AV)(i:Int)
def q5:QT:=D6 (fun env σ=>Z (cAt code 25) 25 (prune (lv 25) env) σ (B7 (cx w0) Tryz.f8 n R)) (B7 (cx w0) Tryz.f8 n R)
def q8:QT:=H7 0 (q5 Z w0 n R)
def q9:QT:=D6 (fun env σ=>Z (cAt code 8) 8 (prune (lv 8) env) σ (q8 Z w0 n R)) (q8 Z w0 n R)
def n8:Prop:=
 Z (cAt code 8) 8 [(0,l_),(3,out),(4,(.pv (.int .i64 i)))] σ (q8 Z w0 n R)
def b9:Prop:=
 A6 (cx w0) 27 lv n A5 Z (cAt code 9) 9 [(0,l_),(3,out),(4,(.pv (.int .i64 i)))] σ (q9 Z w0 n R)
def n25:Prop:=
 Z (cAt code 25) 25 [(3,out)] σ (B7 (cx w0) Tryz.f8 n R)
def b25:Prop:=
 A6 (cx w0) 27 lv n A5 Z (cAt code 25) 25 [(3,out)] σ (B7 (cx w0) Tryz.f8 n R)
def b0:Prop:=
 A6 (cx w0) 27 lv n A5 Z code 0 (J6 0 [l_]) σ (B7 (cx w0) Tryz.f8 n R)
end
variable {Z:XT}{w0:B5}{n:Nat}{R:RT}{σ τ:A2}{l_ out l_' out':AV}{i i':Int}
theorem n8_in(h:b9 (X w0 n) w0 n R σ l_ out i):n8 (X w0 n) w0 n R σ l_ out i:=I5 (J9 w0) (S:=A5) (by kernel_rfl:cAt code 8 = .loop (cAt code 9)) h
theorem n8_weak(e:M5 (cx w0) n [(0,l_),(3,out),(4,(.pv (.int .i64 i)))] σ [(0,l_'),(3,out'),(4,(.pv (.int .i64 i')))] τ)(h:n8 (X w0 n) w0 n R τ l_' out' i'):n8 (X w0 n) w0 n R σ l_ out i:=T5 (L:=lv) (k:=8) (by kernel_rfl:cAt code 8 = .loop (cAt code 9)) e h
theorem b9_eq:b9 Z w0 n R σ l_ out i=(
 opt (R2 ax.td l_) fun t9=>isI .i64 t9 fun t9_1=>B1 (decide ((i:Int)<t9_1)) (opt (B9 σ B2 ax.td l_ i) fun t15=>opt (A4 σ E4 t15) fun t16=>opt (C3 (σ ++ [.cells 39 (AV.ofValue E4.zero).cells]) E4 (.ptr (List.length σ) 0) t16) fun σ'=>opt (A3 B2 E4.td (.ptr (List.length σ) 0) 5) fun t18=>opt (A4 σ' R7 t18) fun t19=>opt2 (fu true σ' L7 .nilsl t19) fun t20 σ'_1=>opt (A3 B2 E4.td (.ptr (List.length σ) 0) 5) fun t21=>opt (C3 σ'_1 R7 t21 t20) fun σ'_2=>opt (A4 σ'_2 E4 (.ptr (List.length σ) 0)) fun t23=>opt2 (J1 σ'_2 E4 false 1 [(0,t23)]) fun t24 σ'_3=>opt2 (N8 σ'_3 E4 out t24) fun t25 σ'_4=>n8 Z w0 n R σ'_4 l_ t25 (IntKind.wrap .i64 (i+1))) (n25 Z w0 n R σ out)):=by kernel_rfl
theorem b25_eq:b25 Z w0 n R σ out=(
 F2 (cx w0) n out σ R):=by kernel_rfl
theorem n25_in(h:b25 (X w0 n) w0 n R σ out):n25 (X w0 n) w0 n R σ out:=E0 (S:=A5) (by kernel_rfl) h
theorem b0_eq:b0 Z w0 n R σ l_=(
 n8 Z w0 n R σ l_ .nilsl 0):=by kernel_rfl
theorem calls(h:b0 (X w0 (List.length σ)) w0 (List.length σ) R σ l_):A1 (cx w0) G2.id [l_] σ R:=
 D3 (J9 w0) (x:=fe) (S:=A5) (G2.ok w0) (by kernel_rfl) h
end G2
namespace ix
variable {Z:XT}{w0:B5}{n:Nat}{R:RT}{σ τ:A2}{j mine j' mine':AV}{t50 t82:Bool}{i i':Int}
end ix
end Go.Sv
end
section
namespace Go.Sv
section
open Go Go.RowKit Go.Proofs
variable {w0:B5}{σ:A2}{R:AV→A2→Prop}
theorem aG{t:TypeId}{ti:TI}{cs:List PV}(ht:B2 t=some ti)(e:zl B2 ti false (.pv (.agg cs)) (.pv (.agg cs))=some true){k:AV→Prop}(hk:k (.pv (.bool false))):T0 B2 t false .neq (.pv (.agg cs)) (.pv (.agg cs)) k:=by
 unfold T0
 exact A0 ht (A0 e hk)
theorem aI(r:Row):gw B2 0 [(0,3),(1,9)] [.int .i64 r.k,.str r.t] [.int .i64 r.k,.str r.t]=some true:=by
 have h:gw B2 0 [(0,3),(1,9)] [.int .i64 r.k,.str r.t] [.int .i64 r.k,.str r.t]=some ((r.k==r.k)&&((r.t==r.t)&&true)):=rfl
 rw[h];simp
abbrev hkS(hs:List Hnk):A2:=[.arr 6 (hs.map K6) false]
abbrev hkA(hs:List Hnk):AV:=.arr 0 hs.length 0 hs.length
theorem Yq(hs:List Hnk):gu 0 ([]++hkS hs) (hkA hs)=some (.pv (.sl (hs.map K6))):=by
 show (if (hs.map K6).length=hs.length∧0+hs.length≤hs.length then some (AV.pv (.sl (((hs.map K6).drop 0).take hs.length))) else none)=_
 rw[if_pos ⟨List.length_map _,by omega⟩]
 simp[List.take_of_length_le]
theorem Pb:∀l:List Row,Y0 2 (l.map I3)=true:=by
 intro l
 simp only[Y0,List.all_eq_true,List.mem_map]
 rintro x ⟨r,_,rfl⟩
 rfl
theorem Vn{l:List Row}(hl:l.length≤1048576):fu true σ L7 .nilsl (.pv (M8 l))=some (.pv (M8 l),σ):=by
 show (if Y0 2 (l.map I3)=true∧nn (l.map I3).length L7.bytes then _ else _)=_
 rw[if_pos ⟨Pb l,by rw[List.length_map];exact ⟨by omega,by show l.length*24≤_;omega⟩⟩]
end
end Go.Sv
end
