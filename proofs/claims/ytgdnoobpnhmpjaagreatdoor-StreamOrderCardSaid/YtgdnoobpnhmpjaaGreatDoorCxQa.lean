/- What the code of package context answers where it reads: a hunk. What the code of package context answers where it reads: a whole diff's pieces. -/
import Derived.Test.YtgdnoobpnhmpjaaGreatDoorCxM
import Derived.Test.YtgdnoobpnhmpjaaGreatDoorHk
import Derived.Test.YtgdnoobpnhmpjaaGreatDoorSvBk
set_option linter.unusedVariables false
set_option linter.unusedSimpArgs false
set_option maxRecDepth 100000
section
namespace Go.Sv.U
def ez(k:Int):List Row→Int→Int
 | [],n=>n
 | r::l,n=>ez k l (if r.k=k then n else n+1)
def hunkE(head:Ln)(old fresh:Rng)(rows:List Row):Hnk:=⟨old.at_,ez 3 rows 0,fresh.at_,ez 2 rows 0,head,rows⟩
inductive jh(ls:List Ln)(first:Nat):Int→Int→Option (Hnk×Nat)→Prop
 | noOld (h:bu [42,42,42,32] [32,42,42,42,42] (ls.drop (first+1))=none):jh ls first ((first+1:Nat):Int) 100 none
 | noNew {old:Rng} {at2:Nat} (h:bu [42,42,42,32] [32,42,42,42,42] (ls.drop (first+1))=some old) (h2:ls.drop at2=(T9 45 ls.length (ls.drop (first+2)) [] false).2) (hle:at2≤ls.length) (h3:bu [45,45,45,32] [32,45,45,45,45] (ls.drop at2)=none):jh ls first (at2:Int) 100 none
 | noTog {old fresh:Rng} {at2:Nat} (h:bu [42,42,42,32] [32,42,42,42,42] (ls.drop (first+1))=some old) (h2:ls.drop at2=(T9 45 ls.length (ls.drop (first+2)) [] false).2) (hle:at2≤ls.length) (h3:bu [45,45,45,32] [32,45,45,45,45] (ls.drop at2)=some fresh)
   (h4:qm (T9 45 ls.length (ls.drop (first+2)) [] false).1 (T9 43 fresh.count (ls.drop (at2+1)) [] false).1=none):jh ls first (first:Int) 100 none
 | tog {old fresh:Rng} {at2 at3:Nat} {rows:List Row} (h:bu [42,42,42,32] [32,42,42,42,42] (ls.drop (first+1))=some old) (h2:ls.drop at2=(T9 45 ls.length (ls.drop (first+2)) [] false).2) (hle:at2≤ls.length) (h3:bu [45,45,45,32] [32,45,45,45,45] (ls.drop at2)=some fresh)
   (h4:qm (T9 45 ls.length (ls.drop (first+2)) [] false).1 (T9 43 fresh.count (ls.drop (at2+1)) [] false).1=some rows) (h5:ls.drop at3=(T9 43 fresh.count (ls.drop (at2+1)) [] false).2) (hle3:at3≤ls.length) (head:Ln) (hh:head=Lib.trimPrefix ((Y5 (ls.drop first)).1.drop 15) [32]):
   jh ls first (first:Int) (if (Z7 old (ez 3 rows 0)&&Z7 fresh (ez 2 rows 0))=true then (if T1 (hunkE head old fresh rows)=true then 0 else 100) else 111) (if (Z7 old (ez 3 rows 0)&&Z7 fresh (ez 2 rows 0))=true∧T1 (hunkE head old fresh rows)=true then some (hunkE head old fresh rows,at3) else none)
section
open Go Go.RowKit Go.Proofs
variable {w0:B4}{σ:A1}{R:AV→A1→Prop}
abbrev nmX(p s:Ln):M1:=.cells 28 [.pv (.str p),.pv (.str s)]
abbrev cS(ls:List Ln)(at_:Nat)(p s p' s':Ln)(hs:List Hnk):A1:=[nmX [] [],nmX [] [],.arr 1 (ls.map PV.str) true,rdC ls at_,nmX p s,nmX p s,nmX p' s',nmX p' s',.arr 6 (hs.map O2) false]
abbrev hC1(a n b m:Int)(head:Ln)(rows:List Row):M1:=.cells 46 [.pv (.int .i64 a),.pv (.int .i64 n),.pv (.int .i64 b),.pv (.int .i64 m),.pv (.str head),.pv (iz rows)]
abbrev zHn:M1:=.cells 46 [.pv (.int .i64 0),.pv (.int .i64 0),.pv (.int .i64 0),.pv (.int .i64 0),.pv (.str []),.nilsl]
abbrev sj(g:Rng):M1:=.cells 156 [.pv (.int .i64 g.at_),.pv (.int .i64 g.count),.pv (.bool g.two)]
abbrev ctS(ls:List Ln)(at_:Nat)(p s p' s':Ln)(hs:List Hnk)(n m:Int)(head:Ln)(old fresh:Rng)(rows:List Row):A1:=cS ls at_ p s p' s' hs ++ [zHn,hC1 0 n 0 m head rows,sj old,sj old,sj fresh,sj fresh]
variable {ls:List Ln}{at_ first:Nat}{p s p' s' head:Ln}{hs:List Hnk}{old fresh:Rng}
theorem cnt_loop{rows:List Row}(hl:rows.length≤16777216)
  (next:C1.n71 (C1.X w0 9) w0 9 R (ctS ls at_ p s p' s' hs (ez 3 rows 0) (ez 2 rows 0) head old fresh rows) (.ptr 9 0) (first:Int) (.ptr 10 0) (.ptr 12 0) (.ptr 14 0)):∀(r:List Row) (k:Nat) (n m:Int),rows.drop k=r→0≤n→n≤k→0≤m→m≤k→ez 3 r n=ez 3 rows 0→ez 2 r m=ez 2 rows 0 →
  C1.n48 (C1.X w0 9) w0 9 R (ctS ls at_ p s p' s' hs n m head old fresh rows) (.ptr 9 0) (first:Int) (.ptr 10 0) (.ptr 12 0) (.ptr 14 0) (.pv (iz rows)) rows.length k
 | [],k,n,m,hd,_,_,_,_,e1,e2=>by
  have hk:=X7 hd
  refine C1.n48_in ?_
  rw[C1.b49_eq,B0,if_neg (by omega)]
  simp only[ez] at e1 e2
  rw[e1,e2]
  exact next
 | c::r,k,n,m,hd,n0,n1,m0,m1,e1,e2=>by
  obtain ⟨h1,h2,hk⟩:=Q6 hd
  have hg:(rows.map P0)[k]? = some (P0 c):=by rw[List.getElem?_map,h1];rfl
  rw[ez] at e1 e2
  have h70:∀n' m',n'=(if c.k=3 then n else n+1)→m'=(if c.k=2 then m else m+1)→C1.n70 (C1.X w0 9) w0 9 R (ctS ls at_ p s p' s' hs n' m' head old fresh rows ++ [.cells 79 [.pv (.int .i64 c.k),.pv (.str c.t)]]) (.ptr 9 0) (first:Int) (.ptr 10 0) (.ptr 12 0) (.ptr 14 0) (.pv (iz rows)) rows.length k:=by
   rintro n' m' rfl rfl
   refine C1.n70_in ?_
   rw[C1.b70_eq,K6 hk (by omega)]
   refine C1.n48_weak (N2.drop (τ:=ctS ls at_ p s p' s' hs (if c.k=3 then n else n+1) (if c.k=2 then m else m+1) head old fresh rows) L5 (Nat.le_of_ble_eq_true rfl) rfl rfl) ?_
   exact cnt_loop hl next r (k+1) _ _ h2 (by split<;>omega) (by split<;>omega) (by split<;>omega) (by split<;>omega) e1 e2
  have h65:∀n',n'=(if c.k=3 then n else n+1)→C1.n65 (C1.X w0 9) w0 9 R (ctS ls at_ p s p' s' hs n' m head old fresh rows ++ [.cells 79 [.pv (.int .i64 c.k),.pv (.str c.t)]]) (.ptr 9 0) (first:Int) (.ptr 10 0) (.ptr 12 0) (.ptr 14 0) (.ptr 15 0) (.pv (iz rows)) rows.length k:=by
   intro n' hn'
   refine C1.n65_in ?_
   rw[C1.b65_eq]
   repeat ((with_reducible first|apply A0|apply wI|apply wT|apply wP|apply wS|apply wB);exact rfl)
   rw[T7]
   refine B5 (fun g=>h70 _ _ hn' (by rw[if_pos g])) (fun g=>?_)
   repeat ((with_reducible first|apply A0|apply wI|apply wT|apply wP|apply wS|apply wB);exact rfl)
   rw[D8 (by omega) (by omega)]
   refine A0 rfl ?_
   exact h70 n' (m+1) hn' (by rw[if_neg g])
  refine C1.n48_in ?_
  rw[C1.b49_eq,B0,if_pos (by omega)]
  refine A0 (T6 tab79 hg rfl) ?_
  repeat ((with_reducible first|apply A0|apply wI|apply wT|apply wP|apply wS|apply wB);exact rfl)
  rw[T7]
  refine B5 (fun g=>h65 _ (by rw[if_pos g])) (fun g=>?_)
  repeat ((with_reducible first|apply A0|apply wI|apply wT|apply wP|apply wS|apply wB);exact rfl)
  rw[D8 (by omega) (by omega)]
  refine A0 rfl ?_
  exact h65 (n+1) (by rw[if_neg g])
abbrev ceA(h:Hnk)(line err:Int):AV:=.tup [.pv (O2 h),.pv (.int .i64 line),.pv (.iface 61 (.int .i64 err))]
abbrev cgA(h:Hnk)(line:Int):AV:=.tup [.pv (O2 h),.pv (.int .i64 line),.pv (.raw .nilIface)]
theorem hunk74(L:Laid w0.w){rows:List Row}{n m:Int}(hl:rows.length≤16777216)(ht:∀x∈rows,x.t.length≤140737488355328)(hh:head.length≤140737488355328)(ho:-9223372036854775808≤old.at_∧old.at_≤9223372036854775807)(hf:-9223372036854775808≤fresh.at_∧fresh.at_≤9223372036854775807)
  (t:Bool) (hbad:t=true → ∀h,R (ceA h first 111) (cS ls at_ p s p' s' hs))
  (hgood:t=false→R (.tup [.pv (O2 ⟨old.at_,n,fresh.at_,m,head,rows⟩),.pv (.int .i64 first),vErr (T1 ⟨old.at_,n,fresh.at_,m,head,rows⟩)]) (cS ls at_ p s p' s' hs)):
  C1.n74 (C1.X w0 9) w0 9 R (ctS ls at_ p s p' s' hs n m head old fresh rows) (.ptr 9 0) (first:Int) (.ptr 10 0) (.ptr 12 0) (.ptr 14 0) t:=by
 refine C1.n74_in ?_
 rw[C1.b74_eq]
 refine A4 (fun g=>?_) (fun g=>?_)
 ·repeat ((with_reducible first|apply A0|apply wI|apply wT|apply wP|apply wS|apply wB);exact rfl)
  exact nd (σ:=cS ls at_ p s p' s' hs) L5 rfl rfl (hbad g ⟨0,n,0,m,head,rows⟩)
 ·repeat ((with_reducible first|apply A0|apply wI|apply wT|apply wP|apply wS|apply wB);exact rfl)
  refine ⟨rfl,?_⟩
  repeat ((with_reducible first|apply A0|apply wI|apply wT|apply wP|apply wS|apply wB);exact rfl)
  refine pf L (h:=⟨old.at_,n,fresh.at_,m,head,rows⟩) (by show rows.length≤_;omega) ht hh ho hf ⟨rfl,?_⟩
  repeat ((with_reducible first|apply A0|apply wI|apply wT|apply wP|apply wS|apply wB);exact rfl)
  refine nd (σ:=cS ls at_ p s p' s' hs) L5 rfl ?_ (hgood g)
  unfold vErr;split<;>rfl
theorem hunk71(L:Laid w0.w){rows:List Row}{n m:Int}(hl:rows.length≤16777216)(ht:∀x∈rows,x.t.length≤140737488355328)(hh:head.length≤140737488355328)(ho:-9223372036854775808≤old.at_∧old.at_≤9223372036854775807)(hf:-9223372036854775808≤fresh.at_∧fresh.at_≤9223372036854775807)
  (hbad:(Z7 old n&&Z7 fresh m)=false → ∀h,R (ceA h first 111) (cS ls at_ p s p' s' hs))
  (hgood:(Z7 old n&&Z7 fresh m)=true→R (.tup [.pv (O2 ⟨old.at_,n,fresh.at_,m,head,rows⟩),.pv (.int .i64 first),vErr (T1 ⟨old.at_,n,fresh.at_,m,head,rows⟩)]) (cS ls at_ p s p' s' hs)):
  C1.n71 (C1.X w0 9) w0 9 R (ctS ls at_ p s p' s' hs n m head old fresh rows) (.ptr 9 0) (first:Int) (.ptr 10 0) (.ptr 12 0) (.ptr 14 0):=by
 refine C1.n71_in ?_
 rw[C1.b71_eq]
 repeat ((with_reducible first|apply A0|apply wI|apply wT|apply wP|apply wS|apply wB);exact rfl)
 refine takes_spec L (g:=old) (E5 ?_)
 rw[E9]
 refine A4 (fun g=>?_) (fun g=>?_)
 ·repeat ((with_reducible first|apply A0|apply wI|apply wT|apply wP|apply wS|apply wB);exact rfl)
  refine takes_spec L (g:=fresh) (E5 ?_)
  refine hunk74 L hl ht hh ho hf _ (fun e=>hbad ?_) (fun e=>hgood ?_)
  ·have:Z7 fresh m=false:=by simpa using e
   rw[this,Bool.and_false]
  ·have:Z7 fresh m=true:=by simpa using e
   rw[g,this];rfl
 ·generalize hb:true=b
  refine hunk74 L hl ht hh ho hf b (fun e=>hbad (by rw[g];rfl)) (fun e=>by rw[← hb] at e;cases e)
theorem cntK_le(k:Int):∀(l:List Row) (n:Int),n≤ez k l n∧ez k l n≤n+l.length
 | [],n=>by simp[ez]
 | r::l,n=>by
  rw[ez]
  have:=cntK_le k l (if r.k=k then n else n+1)
  simp only[List.length_cons]
  split at this<;>rename_i h
  ·rw[if_pos h];omega
  ·rw[if_neg h];omega
theorem ej{kind:UInt8}{most:Int}{T:Nat}:∀(r:List Ln) (out:List Mkd) (bare:Bool),(∀ l∈r,l.length≤T)→(∀ x∈out,x.t.length≤T)→(T9 kind most r out bare).1.length≤out.length+r.length∧(∀ x∈(T9 kind most r out bare).1,x.t.length≤T) ∧ ∃q,r=q++(T9 kind most r out bare).2
 | [],out,bare,_,ho=>⟨by simp[T9],by simpa[T9] using ho,[],rfl⟩
 | l::r,out,bare,hT,ho=>by
  have hTr:∀x∈r,x.length≤T:=fun x hx=>hT x (List.mem_cons_of_mem _ hx)
  have hl:=hT l (by simp)
  have triv:(out,l::r).1.length≤out.length+(l::r).length∧(∀ x∈(out,l::r).1,x.t.length≤T) ∧ ∃q,l::r=q++(out,l::r).2:=⟨by simp,ho,[],rfl⟩
  rw[T9]
  split
  ·split
   ·exact triv
   ·have hb:∀x∈cj out,x.t.length≤T:=by
     unfold cj
     rcases List.eq_nil_or_concat out with e|⟨q,w,e⟩
     ·rw[e];simp
     ·rw[e,List.concat_eq_append]
      simp only[List.getLast?_append,List.getLast?_singleton,Option.some_or,List.dropLast_concat]
      intro x hx
      rcases List.mem_append.1 hx with hx|hx
      ·exact ho x (by rw[e,List.concat_eq_append];simp[hx])
      ·rw[List.mem_singleton] at hx
       rw[hx]
       exact Nat.le_trans (Y7 w.t) (ho w (by rw[e,List.concat_eq_append];simp))
    have hbl:(cj out).length=out.length:=by
     unfold cj
     rcases List.eq_nil_or_concat out with e|⟨q,w,e⟩
     ·rw[e];rfl
     ·rw[e,List.concat_eq_append];simp
    obtain ⟨i1,i2,q,i3⟩:=ej (kind:=kind) (most:=most) r (cj out) true hTr hb
    refine ⟨by simp only[List.length_cons];omega,i2,l::q,by rw[List.cons_append,←i3]⟩
  ·split
   ·split
    ·rename_i x hx
     obtain ⟨a,r',_,_,rfl⟩:=rowC_some hx
     obtain ⟨i1,i2,q,i3⟩:=ej (kind:=kind) (most:=most) r (out ++ [⟨a,l.drop 2⟩]) false hTr (fun y hy=>by
      rcases List.mem_append.1 hy with hy|hy
      ·exact ho y hy
      ·rw[List.mem_singleton] at hy
       rw[hy]
       show (l.drop 2).length≤T
       rw[List.length_drop];omega)
     rw[List.length_append,List.length_singleton] at i1
     refine ⟨by simp only[List.length_cons];omega,i2,l::q,by rw[List.cons_append,←i3]⟩
    ·exact triv
   ·exact triv
theorem qi{T:Nat}:∀(n:Nat) (old fresh:List Mkd) (out rows:List Row),vh n old fresh out=some rows→(∀ x∈old,x.t.length≤T)→(∀ x∈fresh,x.t.length≤T)→(∀ x∈out,x.t.length≤T)→rows.length≤out.length+old.length+fresh.length ∧ ∀x∈rows,x.t.length≤T
 | 0,_,_,_,_,h,_,_,_=>by cases h
 | n+1,old,fresh,out,rows,h,ho,hf,hu=>by
  have so:=List.takeWhile_append_dropWhile (p:=fun x:Mkd=>!(x.m==32)) (l:=old)
  have sf:=List.takeWhile_append_dropWhile (p:=fun x:Mkd=>!(x.m==32)) (l:=fresh)
  have lo:=congrArg List.length so
  have lf:=congrArg List.length sf
  rw[List.length_append] at lo lf
  have hru:∀x∈out++bm (tkM old) (tkM fresh),x.t.length≤T:=by
   intro x hx
   rcases List.mem_append.1 hx with hx|hx
   ·exact hu x hx
   ·rcases List.mem_append.1 hx with hx|hx
    ·obtain ⟨y,hy,rfl⟩:=List.mem_map.1 hx
     exact ho y (by rw[← so];exact List.mem_append_left _ hy)
    ·obtain ⟨y,hy,rfl⟩:=List.mem_map.1 hx
     exact hf y (by rw[← sf];exact List.mem_append_left _ hy)
  have hrl:(out++bm (tkM old) (tkM fresh)).length=out.length+(tkM old).length+(tkM fresh).length:=by
   simp only[bm,List.length_append,List.length_map];omega
  change (tkM old).length+(tdM old).length=_ at lo
  change (tkM fresh).length+(tdM fresh).length=_ at lf
  change tkM old++tdM old=_ at so
  change tkM fresh++tdM fresh=_ at sf
  rw[vh] at h
  split at h
  ·split at h
   ·injection h with h
    rw[← h]
    exact ⟨by omega,hru⟩
   ·rename_i a o b f e1 e2
    split at h
    ·rw[e1] at lo so
     rw[e2] at lf sf
     obtain ⟨i1,i2⟩:=qi n o f _ rows h (fun x hx=>ho x (by rw[← so];simp[hx])) (fun x hx=>hf x (by rw[← sf];simp[hx])) (fun x hx=>by
      rcases List.mem_append.1 hx with hx|hx
      ·exact hru x hx
      ·rw[List.mem_singleton] at hx
       rw[hx]
       exact ho a (by rw[← so];simp))
     rw[List.length_append,hrl] at i1
     simp only[List.length_cons,List.length_nil] at lo lf i1
     exact ⟨by omega,i2⟩
    ·cases h
   ·cases h
  ·cases h
theorem togF_len{T:Nat}{o f:List Mkd}{rows:List Row}(h:qm o f=some rows)(ho:∀x∈o,x.t.length≤T)(hf:∀x∈f,x.t.length≤T){N:Nat}(h1:o.length≤N)(h2:f.length≤N):rows.length≤2*N ∧ ∀x∈rows,x.t.length≤T:=by
 have cf:∀l:List Mkd,(ss l).length≤l.length ∧ ∀x∈ss l,x∈l:=fun l=>⟨List.length_filter_le _ _,fun x hx=>(List.mem_filter.1 hx).1⟩
 unfold qm at h
 split at h
 ·cases h
 ·split at h
  ·obtain ⟨i1,i2⟩:=qi (T:=T) _ _ _ _ _ h (fun x hx=>hf x ((cf f).2 x hx)) hf (by simp)
   have:=(cf f).1
   simp only[List.length_nil] at i1
   exact ⟨by omega,i2⟩
  ·split at h
   ·obtain ⟨i1,i2⟩:=qi (T:=T) _ _ _ _ _ h ho (fun x hx=>ho x ((cf o).2 x hx)) (by simp)
    have:=(cf o).1
    simp only[List.length_nil] at i1
    exact ⟨by omega,i2⟩
   ·obtain ⟨i1,i2⟩:=qi (T:=T) _ _ _ _ _ h ho hf (by simp)
    simp only[List.length_nil] at i1
    exact ⟨by omega,i2⟩
theorem spanR_out{b1 b2:Ln}{r:List Ln}{g:Rng}(h:bu b1 b2 r=some g):0≤g.at_∧g.at_≤2147483647:=by
 unfold bu at h
 split at h
 ·rename_i hc
  injection h with h
  rw[← h]
  exact lx _ hc.2.1
 ·cases h
theorem span_two(o:Option Rng):∃(g:Rng) (b:Bool),spanA o = .tup [.pv (.agg (rngC g)),.pv (.bool b)]∧rngCell o=sj g∧(b=true→o=some g)∧(b=false→o=none):=by
 cases o with
 | none=>exact ⟨⟨0,0,false⟩,false,rfl,rfl,fun h=>(by cases h),fun _=>rfl⟩
 | some g=>exact ⟨g,true,rfl,rfl,fun _=>rfl,fun h=>(by cases h)⟩
theorem tog_two{o:Option (List Row)}{w:AV}(h:dr o w):∃(rows:List Row) (b:Bool),w = .tup [.pv (iz rows),.pv (.bool b)]∧(b=true→o=some rows)∧(b=false→o=none):=by
 cases o with
 | none=>obtain ⟨rows,rfl⟩:=h;exact ⟨rows,false,rfl,fun h=>(by cases h),fun _=>rfl⟩
 | some rows=>exact ⟨rows,true,h,fun _=>rfl,fun h=>(by cases h)⟩
theorem trimPrefix_le(s t:Ln):(Lib.trimPrefix s t).length≤s.length:=by
 unfold Lib.trimPrefix
 split<;>simp
abbrev hC0k(head:Ln):M1:=.cells 46 [.pv (.int .i64 0),.pv (.int .i64 0),.pv (.int .i64 0),.pv (.int .i64 0),.pv (.str head),.nilsl]
set_option maxHeartbeats 1000000 in
theorem hunk_spec12(L:Laid w0.w)(hl:ls.length≤8388606)(hat:first<ls.length)(hx:∀l∈ls,l.length≤8388608)(h15:15≤(Y5 (ls.drop first)).1.length)
  (hbad:∀line err h at',jh ls first line err none→R (ceA h line err) (cS ls at' p s p' s' hs))
  (hgood:∀line h at',jh ls first line 0 (some (h,at'))→R (cgA h line) (cS ls at' p s p' s' hs)):
  A2 (cx w0) C1.id [.ptr 3 0] (cS ls first p s p' s' hs) R:=by
 have hdl:∀n,∀l∈ls.drop n,l.length≤8388608:=fun n l h=>hx l (List.mem_of_mem_drop h)
 have hnl:(Y5 (ls.drop first)).1.length≤8388608:=qb (hdl first)
 refine C1.calls ?_
 show C1.b0 (C1.X w0 9) w0 9 R (cS ls first p s p' s' hs) (.ptr 3 0)
 rw[C1.b0_eq]
 repeat ((with_reducible first|apply A0|apply wI|apply wT|apply wP|apply wS|apply wB);exact rfl)
 refine W3 (id:=3) (at_:=first) rfl (by omega) hx ?_
 repeat ((with_reducible first|apply A0|apply wI|apply wT|apply wP|apply wS|apply wB);exact rfl)
 refine A0 (F5 h15) (F4 ?_)
 refine ae (F4 ?_)
 generalize hh:Lib.trimPrefix ((Y5 (ls.drop first)).1.drop 15) [32]=head
 repeat ((with_reducible first|apply A0|apply wI|apply wT|apply wP|apply wS|apply wB);exact rfl)
 rw[D8 (by omega) (by omega),show (first:Int)+1=((first+1:Nat):Int) by omega]
 refine ux L (σ:=cS ls (first+1) p s p' s' hs ++ [zHn,hC0k head]) (id:=3) (at_:=first+1) rfl (by omega) (by omega) hx ?_
 generalize ho:bu [42,42,42,32] [32,42,42,42,42] (ls.drop (first+1))=o
 obtain ⟨g,b,e1,e2,hb1,hb2⟩:=span_two o
 rw[e1,e2]
 repeat ((with_reducible first|apply A0|apply wI|apply wT|apply wP|apply wS|apply wB);exact rfl)
 rw[E9]
 refine A4 (fun gb=>?_) (fun gb=>?_)
 rotate_left
 ·have hn:=hb2 gb
  rw[hn,spanN]
  repeat ((with_reducible first|apply A0|apply wI|apply wT|apply wP|apply wS|apply wB);exact rfl)
  refine ⟨rfl,?_⟩
  repeat ((with_reducible first|apply A0|apply wI|apply wT|apply wP|apply wS|apply wB);exact rfl)
  exact N1 (σ:=cS ls (first+1) p s p' s' hs) (r':=ceA ⟨0,0,0,0,head,[]⟩ ((first+1:Nat):Int) 100) L5 rfl rfl (hbad _ 100 ⟨0,0,0,0,head,[]⟩ _ (.noOld (by rw[ho,hn])))
 have hs1:=hb1 gb
 rw[hs1] at ho
 have hf1:first+2≤ls.length:=by
  by_cases hc:first+2≤ls.length
  ·exact hc
  ·rw[List.drop_eq_nil_of_le (by omega)] at ho;cases ho
 rw[hs1,spanN]
 repeat ((with_reducible first|apply A0|apply wI|apply wT|apply wP|apply wS|apply wB);exact rfl)
 rw[List.length_map]
 refine un L (σ:=cS ls (first+2) p s p' s' hs ++ [zHn,hC0k head,sj g,sj g]) (id:=3) (at_:=first+2) (kind:=45) (most:=ls.length) rfl (fun n=>rfl) hl hf1 hx (fun at2 h2 hle2=>?_)
 refine ux L (σ:=cS ls at2 p s p' s' hs ++ [zHn,hC0k head,sj g,sj g]) (id:=3) (at_:=at2) rfl (by omega) hle2 hx ?_
 generalize h3:bu [45,45,45,32] [32,45,45,45,45] (ls.drop at2)=o2
 obtain ⟨g2,b2,e3,e4,hc1,hc2⟩:=span_two o2
 rw[e3,e4]
 repeat ((with_reducible first|apply A0|apply wI|apply wT|apply wP|apply wS|apply wB);exact rfl)
 rw[E9]
 refine A4 (fun gb2=>?_) (fun gb2=>?_)
 rotate_left
 ·have hn:=hc2 gb2
  rw[hn,spanN]
  repeat ((with_reducible first|apply A0|apply wI|apply wT|apply wP|apply wS|apply wB);exact rfl)
  refine ⟨rfl,?_⟩
  repeat ((with_reducible first|apply A0|apply wI|apply wT|apply wP|apply wS|apply wB);exact rfl)
  exact N1 (σ:=cS ls at2 p s p' s' hs) (r':=ceA ⟨0,0,0,0,head,[]⟩ (at2:Int) 100) L5 rfl rfl (hbad _ 100 ⟨0,0,0,0,head,[]⟩ _ (.noNew ho h2 hle2 (by rw[h3,hn])))
 have hs2:=hc1 gb2
 rw[hs2] at h3
 have hf2:at2+1≤ls.length:=by
  by_cases hc:at2+1≤ls.length
  ·exact hc
  ·rw[List.drop_eq_nil_of_le (by omega)] at h3;cases h3
 rw[hs2,spanN]
 repeat ((with_reducible first|apply A0|apply wI|apply wT|apply wP|apply wS|apply wB);exact rfl)
 refine un L (σ:=cS ls (at2+1) p s p' s' hs ++ [zHn,hC0k head,sj g,sj g,sj g2,sj g2]) (id:=3) (at_:=at2+1) (kind:=43) (most:=g2.count) rfl (fun n=>rfl) hl hf2 hx (fun at3 h5 hle3=>?_)
 obtain ⟨p1,p2,_⟩:=ej (kind:=45) (most:=(ls.length:Int)) (T:=8388608) (ls.drop (first+2)) [] false (hdl _) (by simp)
 obtain ⟨q1,q2,_⟩:=ej (kind:=43) (most:=g2.count) (T:=8388608) (ls.drop (at2+1)) [] false (hdl _) (by simp)
 simp only[List.length_nil,List.length_drop] at p1 q1
 have p3:(T9 45 (ls.length:Int) (ls.drop (first+2)) [] false).1.length≤8388606:=by omega
 have q3:(T9 43 g2.count (ls.drop (at2+1)) [] false).1.length≤8388606:=by omega
 refine together_spec L (by omega) (by omega) (fun w hw=>?_)
 obtain ⟨rows,b3,rfl,hd1,hd2⟩:=tog_two hw
 repeat ((with_reducible first|apply A0|apply wI|apply wT|apply wP|apply wS|apply wB);exact rfl)
 rw[E9]
 refine A4 (fun gb3=>?_) (fun gb3=>?_)
 rotate_left
 ·repeat ((with_reducible first|apply A0|apply wI|apply wT|apply wP|apply wS|apply wB);exact rfl)
  exact N1 (σ:=cS ls at3 p s p' s' hs) (r':=ceA ⟨0,0,0,0,head,rows⟩ (first:Int) 100) L5 rfl rfl (hbad _ 100 ⟨0,0,0,0,head,rows⟩ _ (.noTog ho h2 hle2 h3 (hd2 gb3)))
 have h4:=hd1 gb3
 obtain ⟨l1,l2⟩:=togF_len h4 p2 q2 p3 q3
 have hC:=jh.tog ho h2 hle2 h3 h4 h5 hle3 head hh.symm
 have o1:=spanR_out ho
 have o2:=spanR_out h3
 repeat ((with_reducible first|apply A0|apply wI|apply wT|apply wP|apply wS|apply wB);exact rfl)
 rw[List.length_map]
 have c3:=cntK_le 3 rows 0
 have c2:=cntK_le 2 rows 0
 have hhl:head.length≤8388608:=by
  rw[← hh]
  exact Nat.le_trans (trimPrefix_le _ _) (by rw[List.length_drop];omega)
 refine cnt_loop (by omega) (hunk71 L (by omega) (fun x hx=>Nat.le_trans (l2 x hx) (by omega)) (by omega) (by omega) (by omega) (fun e h=>?_) (fun e=>?_)) rows 0 0 0 rfl (by omega) (by omega) (by omega) (by omega) rfl rfl
 ·rw[e,if_neg (by simp),if_neg (by simp)] at hC
  exact hbad _ _ _ _ hC
 ·rw[if_pos e] at hC
  unfold vErr
  by_cases hv:T1 (hunkE head g g2 rows)=true
  ·rw[if_pos hv,if_pos ⟨e,hv⟩] at hC
   rw[if_pos (show T1 ⟨g.at_,ez 3 rows 0,g2.at_,ez 2 rows 0,head,rows⟩=true from hv)]
   exact hgood _ _ _ hC
  ·rw[if_neg hv,if_neg (fun h=>hv h.2)] at hC
   rw[if_neg (show ¬T1 ⟨g.at_,ez 3 rows 0,g2.at_,ez 2 rows 0,head,rows⟩=true from hv)]
   exact hbad _ _ _ _ hC
end
end Go.Sv.U
end
section
namespace Go.Sv.U
section
open Go Go.RowKit Go.Proofs
variable {w0:B4}{σ:A1}{R:AV→A1→Prop}
def su(a n:Int):Int:=if n>0 then IntKind.wrap .i64 (a-1) else a
theorem kj{a n:Int}(hR:R (.pv (.int .i64 (su a n))) σ):A2 (cx w0) O6.id [.pv (.int .i64 a),.pv (.int .i64 n)] σ R:=by
 refine O6.calls ?_
 rw[O6.b0_eq,B0]
 unfold su at hR
 refine B5 (fun g=>?_) (fun g=>?_)
 ·rw[if_pos g] at hR;exact D5 hR
 ·rw[if_neg g] at hR;exact D5 hR
def dx(g h:Hnk):Bool:=decide (su h.a h.n≥IntKind.wrap .i64 (su g.a g.n+g.n))&&decide (su h.b h.m≥IntKind.wrap .i64 (su g.b g.m+g.m))
theorem behind_spec(L:Laid w0.w){g h:Hnk}(hR:R (.pv (.bool (dx g h))) σ):A2 (cx w0) M2.id [.pv (O2 g),.pv (O2 h)] σ R:=by
 refine A2.alone L rfl (fun w1 L1=>?_) rfl hR
 have fin:∀t,t=dx g h→M2.n4 (M2.X w1 0) w1 0 (fun r' _=>r' = .pv (.bool (dx g h))) [.cells 46 (hnkC g),.cells 46 (hnkC h)] t:=by
  rintro t rfl
  refine M2.n4_in ?_
  rw[M2.b4_eq]
  exact D6 (Nat.zero_le _) rfl
 refine M2.calls ?_
 rw[M2.b0_eq]
 refine ⟨rfl,rfl,?_⟩
 repeat ((with_reducible first|apply A0|apply wI|apply wT|apply wP|apply wS|apply wB);exact rfl)
 refine kj (G2 ⟨rfl,rfl,rfl,?_⟩)
 refine kj (G2 ⟨rfl,?_⟩)
 refine A4 (fun g1=>?_) (fun g1=>fin _ ?_)
 ·repeat ((with_reducible first|apply A0|apply wI|apply wT|apply wP|apply wS|apply wB);exact rfl)
  refine kj (G2 ⟨rfl,rfl,rfl,?_⟩)
  refine kj (G2 ⟨rfl,fin _ ?_⟩)
  rw[dx,g1];rfl
 ·rw[dx,g1];rfl
noncomputable def feP1:List (FuncId×FE):=[(O9.id,O9.fe)]
theorem feP1_ok(w0:B4):oc (cx w0) feP1:=⟨O9.ok w0,trivial⟩
abbrev badN(line e:Int):AV:=.tup [.pv (.agg [.str [],.str []]),.pv (.agg [.str [],.str []]),.nilsl,.pv (.str []),.pv (.int .i64 line),.pv (.iface 61 (.int .i64 e))]
abbrev uz(line e:Int):AV:=.tup [.pv (.agg [.str [],.str []]),.pv (.agg [.str [],.str []]),.pv (.sl []),.pv (.str []),.pv (.int .i64 line),.pv (.iface 61 (.int .i64 e))]
theorem bad_run(w0:B4)(line e:Int):ey (cx w0) (jl feP1) (au lu) 1000 40 O9.id [.pv (.int .i64 line),.pv (.iface 61 (.int .i64 e))] []=some (badN line e,[]):=by kernel_rfl
theorem bad_spec(L:Laid w0.w){line e:Int}(hR:R (badN line e) σ):A2 (cx w0) O9.id [.pv (.int .i64 line),.pv (.iface 61 (.int .i64 e))] σ R:=
 A2.alone L rfl (fun w1 L1=>er L1 (feP1_ok w1) (bad_run w1 line e) rfl) rfl hR
theorem jg(L:Laid w0.w){line e:Int}{q:FuncId×List AV}(hq:q=(O9.id,[.pv (.int .i64 line),.pv (.iface 61 (.int .i64 e))]))(hR:R (badN line e) σ):A2 (cx w0) q.1 q.2 σ R:=by
 subst hq
 exact bad_spec L hR
abbrev z2:A1:=[nmX [] [],nmX [] []]
theorem tn:∀(f:Nat) (s:Ln) (done:List Ln),s.length<f→s.length≤1099511627776→done.length+s.length≤1099511627776→R (.arr 2 (done++E4 s).length 0 (done++E4 s).length) (z2++lnS (done++E4 s)) →
  C9.n6 (C9.X w0 2) w0 2 R (z2++lnS done) s (.arr 2 done.length 0 done.length)
 | 0,s,done,h,_,_,_=>absurd h (Nat.not_lt_zero _)
 | f+1,s,done,hf,hs,hd,hR=>by
  refine C9.n6_in ?_
  rw[C9.b7_eq,E9,Q8]
  refine B5 (fun g=>?_) (fun g=>?_)
  ·refine C9.n25_in ?_
   rw[C9.b25_eq]
   subst g
   have e:done++E4 []=done:=by simp[E4]
   rw[e] at hR
   exact D6 (Nat.le_of_ble_eq_true rfl) hR
  ·obtain ⟨k,k1,k2,k3,k4⟩:=Z0 s g
   have hge:=Lib.indexByte_ge s 10
   have fin:∀at_:Int,at_=(k:Int)→C9.n22 (C9.X w0 2) w0 2 R (z2++lnS done) s (.arr 2 done.length 0 done.length) at_:=by
    rintro at_ rfl
    have hl1:(s.take k).length=k:=by rw[List.length_take];omega
    rw[k4,show done++s.take k::E4 (s.drop k)=(done ++ [s.take k])++E4 (s.drop k) by simp] at hR
    have ih:=tn f (s.drop k) (done ++ [s.take k]) (by rw[List.length_drop];omega) (by rw[List.length_drop];omega) (by rw[List.length_drop,List.length_append,List.length_singleton];omega) hR
    simp only[List.length_append,List.length_singleton] at ih
    have e:done.map PV.str ++ [PV.str (s.take k)]=(done ++ [s.take k]).map PV.str:=by simp
    refine C9.n22_in ?_
    rw[C9.b22_eq]
    refine A0 (Q5 k2) (F4 ?_)
    refine J5 mn ?_
    refine J5 (W9 (id:=2) (es:=1) (ver:=done.length) (xs:=done.map PV.str) (ys:=[.str (s.take k)]) rfl rfl (List.length_map _).symm rfl rfl ⟨by rw[List.length_map];show done.length+1≤_;omega,by rw[List.length_map];show (done.length+1)*16≤_;omega⟩) ?_
    refine A0 (F5 k2) (F4 ?_)
    rw[List.length_map,e]
    exact ih
   refine ax (c:=10) (G2 ?_)
   have hle:Lib.indexByte s 10+1≤1099511627776:=by
    by_cases hm:Lib.indexByte s 10 = -1
    ·omega
    ·rw[if_neg hm] at k3;omega
   rw[D8 (by omega) (by omega),G6]
   refine B5 (fun g2=>fin _ ?_) (fun g2=>fin _ ?_)
   ·rw[if_pos (by omega)] at k3;exact k3
   ·rw[if_neg (by omega)] at k3;exact k3
theorem gh{s:Ln}(hs:s.length≤1099511627776)(hR:R (.arr 2 (E4 s).length 0 (E4 s).length) (z2++lnS (E4 s))):A2 (cx w0) C9.id [.pv (.str s)] z2 R:=by
 refine C9.calls ?_
 show C9.b0 (C9.X w0 2) w0 2 R z2 s
 rw[C9.b0_eq]
 refine C9.n6_weak (s':=s) (out':=.arr 2 0 0 0) (τ:=z2++lnS []) (N2.nil (t:=3) (es:=1) rfl rfl) ?_
 exact tn (s.length+1) s [] (by omega) hs (by simpa using hs) (by simpa using hR)
end
end Go.Sv.U
end
