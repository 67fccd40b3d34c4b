/- What the code of package context answers where it reads: both parts of a hunk put together, whole. What the code of package context answers where it reads: the lines of a part. -/
import Derived.Test.YtgdnoobpnhmpjaaGreatDoorCxJ
set_option linter.unusedVariables false
set_option linter.unusedSimpArgs false
set_option maxRecDepth 100000
section
namespace Go.Sv.U
section
open Go Go.RowKit Go.Proofs
variable {w0:B4}{σ:A1}{R:AV→A1→Prop}
abbrev dk(l:List Row):A1:=[.arr 2 (l.map P0) false]
abbrev dw(l:List Row):AV:=.arr 0 l.length 0 l.length
theorem rws_seal(l:List Row)(b:Bool):bp 0 ([]++dk l) (.tup [dw l,.pv (.bool b)])=some (.tup [.pv (iz l),.pv (.bool b)]):=by
 have e:gd 0 ([]++dk l) (dw l)=some (.pv (iz l)):=by
  show (if (l.map P0).length=l.length∧0+l.length≤l.length then some (AV.pv (.sl (((l.map P0).drop 0).take l.length))) else none)=_
  rw[if_pos ⟨List.length_map _,by omega⟩]
  simp[List.take_of_length_le]
 have e2:kq 0 ([]++dk l) (dw l)=some (.pv (iz l)):=e
 simp only[bp,ii,e2]
 rfl
def dr(o:Option (List Row))(w:AV):Prop:=match o with
 | some rows=>w = .tup [.pv (iz rows),.pv (.bool true)]
 | none=>∃rows,w = .tup [.pv (iz rows),.pv (.bool false)]
theorem togP_under{o:Option (List Row)}{w:AV}(h:dr o w):AV.under 0 w=true:=by
 unfold dr at h
 split at h
 ·rw[h];rfl
 ·obtain ⟨rows,rfl⟩:=h;rfl
section
variable {P:AV→Prop}
theorem put_row{out:List Row}{c:Mkd}{k:Int}(hl:out.length+1≤16777216):L0 [.arr 2 (out.map P0) false,.cells 217 [.pv (.int .u8 c.m.toNat),.pv (.str c.t)]] T8 (dw out) (.pv (.sl [P0 ⟨k,c.t⟩]))=some (dw (out ++ [⟨k,c.t⟩]),[.arr 2 ((out ++ [(⟨k,c.t⟩:Row)]).map P0) false,.cells 217 [.pv (.int .u8 c.m.toNat),.pv (.str c.t)]]):=by
 have:=W9 (σ:=[.arr 2 (out.map P0) false,.cells 217 [.pv (.int .u8 c.m.toNat),.pv (.str c.t)]]) (id:=0) (es:=2) (ver:=out.length) (xs:=out.map P0) (ys:=[P0 ⟨k,c.t⟩]) (fz:=false) (ei:=T8) (x:=.pv (.sl [P0 ⟨k,c.t⟩])) rfl rfl (List.length_map _).symm rfl rfl ⟨by rw[List.length_map];show out.length+1≤_;omega,by rw[List.length_map];show (out.length+1)*24≤_;omega⟩
 have e:out.map P0 ++ [P0 ⟨k,c.t⟩]=(out ++ [(⟨k,c.t⟩:Row)]).map P0:=by simp
 have e2:(out.map P0).length + [P0 (⟨k,c.t⟩:Row)].length=(out ++ [(⟨k,c.t⟩:Row)]).length:=by simp
 rw[this,e,e2]
 rfl
theorem come_loop{old fresh come:List Mkd}{out0:List Row}(hl:out0.length+come.length≤16777216)(hc:come.length≤8388608)
  (next:A8.n85 (A8.X w0 0) w0 0 (fun r _=>P r) (dk (out0++come.map fun x=>⟨3,x.t⟩)) (.pv (K4 old)) (.pv (K4 fresh)) (dw (out0++come.map fun x=>⟨3,x.t⟩))):∀(r done:List Mkd),come=done++r →
  A8.n72 (A8.X w0 0) w0 0 (fun r _=>P r) (dk (out0++done.map fun x=>⟨3,x.t⟩)) (.pv (K4 old)) (.pv (K4 fresh)) (dw (out0++done.map fun x=>⟨3,x.t⟩)) (.pv (K4 come)) come.length done.length
 | [],done,h=>by
  rw[List.append_nil] at h
  subst h
  refine A8.n72_in ?_
  rw[A8.b73_eq,B0,if_neg (by omega)]
  exact next
 | c::r,done,h=>by
  have hk:come[done.length]? = some c:=by rw[h];simp
  have hlen:come.length=done.length+(r.length+1):=by rw[h];simp
  have ih:=come_loop hl hc next r (done ++ [c]) (by rw[h];simp)
  refine A8.n72_in ?_
  rw[A8.b73_eq,B0,if_pos (by omega)]
  refine A0 (T6 jt (me hk) rfl) ?_
  repeat ((with_reducible first|apply A0|apply wI|apply wT|apply wP|apply wS|apply wB);exact rfl)
  refine J5 (v:=.pv (.sl [P0 ⟨3,c.t⟩])) rfl ?_
  refine J5 (put_row (c:=c) (by simp only[List.length_append,List.length_map];omega)) ?_
  rw[K6 (n:=come.length) (by omega) (by omega)]
  refine A8.n72_weak (N2.drop (τ:=dk ((out0++done.map fun x=>⟨3,x.t⟩) ++ [⟨3,c.t⟩])) L5 (Nat.zero_le _) rfl rfl) ?_
  simp only[List.map_append,List.map_cons,List.map_nil,List.length_append,List.length_singleton,←List.append_assoc] at ih
  exact ih
theorem gone_loop{old fresh gone come:List Mkd}{out0:List Row}(hl:out0.length+gone.length≤16777216)(hc:gone.length≤8388608)
  (next:A8.n68 (A8.X w0 0) w0 0 (fun r _=>P r) (dk (out0++gone.map fun x=>⟨2,x.t⟩)) (.pv (K4 old)) (.pv (K4 fresh)) (dw (out0++gone.map fun x=>⟨2,x.t⟩)) (.pv (K4 come))):∀(r done:List Mkd),gone=done++r →
  A8.n55 (A8.X w0 0) w0 0 (fun r _=>P r) (dk (out0++done.map fun x=>⟨2,x.t⟩)) (.pv (K4 old)) (.pv (K4 fresh)) (dw (out0++done.map fun x=>⟨2,x.t⟩)) (.pv (K4 come)) (.pv (K4 gone)) gone.length done.length
 | [],done,h=>by
  rw[List.append_nil] at h
  subst h
  refine A8.n55_in ?_
  rw[A8.b56_eq,B0,if_neg (by omega)]
  exact next
 | c::r,done,h=>by
  have hk:gone[done.length]? = some c:=by rw[h];simp
  have hlen:gone.length=done.length+(r.length+1):=by rw[h];simp
  have ih:=gone_loop hl hc next r (done ++ [c]) (by rw[h];simp)
  refine A8.n55_in ?_
  rw[A8.b56_eq,B0,if_pos (by omega)]
  refine A0 (T6 jt (me hk) rfl) ?_
  repeat ((with_reducible first|apply A0|apply wI|apply wT|apply wP|apply wS|apply wB);exact rfl)
  refine J5 (v:=.pv (.sl [P0 ⟨2,c.t⟩])) rfl ?_
  refine J5 (put_row (c:=c) (by simp only[List.length_append,List.length_map];omega)) ?_
  rw[K6 (n:=gone.length) (by omega) (by omega)]
  refine A8.n55_weak (N2.drop (τ:=dk ((out0++done.map fun x=>⟨2,x.t⟩) ++ [⟨2,c.t⟩])) L5 (Nat.zero_le _) rfl rfl) ?_
  simp only[List.map_append,List.map_cons,List.map_nil,List.length_append,List.length_singleton,←List.append_assoc] at ih
  exact ih
end
theorem tk_len(l:List Mkd):(tkM l).length+(tdM l).length=l.length:=by
 have:=congrArg List.length (List.takeWhile_append_dropWhile (p:=fun x:Mkd=>!(x.m==32)) (l:=l))
 rw[List.length_append] at this
 exact this
theorem U0(l:List Mkd):l.isEmpty=((l.length:Int)==0):=by
 cases l with
 | nil=>rfl
 | cons x l=>
  have:¬(((x::l).length:Int)=0):=by simp only[List.length_cons];omega
  rw[beq_false_of_ne this];rfl
theorem tog_bad{v:Option (List Row)}(h:v=none)(S:A1):D9 (cx w0) 0 (.tup [.nilsl,.pv (.bool false)]) S (fun r _=>dr v r):=by
 refine N1 (σ:=[]) (L:=S) L5 rfl (r':=.tup [.pv (iz []),.pv (.bool false)]) rfl ?_
 rw[h];exact ⟨[],rfl⟩
theorem tog88{v:Option (List Row)}{o1 f1:List Mkd}{out:List Row}(hl:out.length+1≤16777216)
  (h1:o1 = []→f1 = []→v=some out) (h2:(o1 = []∧f1 ≠ [])∨(o1 ≠ []∧f1 = [])→v=none)
  (h3:∀a o b f,o1=a::o→f1=b::f→(a.t≠b.t→v=none)∧(a.t=b.t→A8.n22 (A8.X w0 0) w0 0 (fun r _=>dr v r) (dk (out ++ [⟨1,a.t⟩])) (.pv (K4 o)) (.pv (K4 f)) (dw (out ++ [⟨1,a.t⟩]))))
  (t:Bool) (ht:t=(o1.isEmpty||f1.isEmpty)):A8.n88 (A8.X w0 0) w0 0 (fun r _=>dr v r) (dk out) (.pv (K4 o1)) (.pv (K4 f1)) (dw out) t:=by
 refine A8.n88_in ?_
 rw[A8.b88_eq]
 refine A4 (fun g=>?_) (fun g=>?_)
 ·rw[g] at ht
  repeat ((with_reducible first|apply A0|apply wI|apply wT|apply wP|apply wS|apply wB);exact rfl)
  rw[List.length_map,List.length_map]
  refine N1 (σ:=[]) (L:=dk out) L5 rfl (rws_seal _ _) ?_
  cases o1 with
  | nil=>
   cases f1 with
   | nil=>rw[h1 rfl rfl];rfl
   | cons b f=>
    have hb:(((([]:List Mkd).length:Nat):Int)==(((b::f).length:Nat):Int))=false:=beq_false_of_ne (by simp only[List.length_cons,List.length_nil];omega)
    rw[hb,h2 (.inl ⟨rfl,by simp⟩)]
    exact ⟨_,rfl⟩
  | cons a o=>
   cases f1 with
   | nil=>
    have hb:((((a::o).length:Nat):Int)==((([]:List Mkd).length:Nat):Int))=false:=beq_false_of_ne (by simp only[List.length_cons,List.length_nil];omega)
    rw[hb,h2 (.inr ⟨by simp,rfl⟩)]
    exact ⟨_,rfl⟩
   | cons b f=>exact absurd ht (by simp)
 ·rw[g] at ht
  cases o1 with
  | nil=>exact absurd ht (by simp)
  | cons a o=>
   cases f1 with
   | nil=>exact absurd ht (by simp)
   | cons b f=>
    obtain ⟨h4,h5⟩:=h3 a o b f rfl rfl
    refine A0 (T6 (k:=0) jt (me (l:=a::o) (i:=0) rfl) rfl) ?_
    repeat ((with_reducible first|apply A0|apply wI|apply wT|apply wP|apply wS|apply wB);exact rfl)
    refine A0 (T6 (k:=0) jt (me (l:=b::f) (i:=0) rfl) rfl) ?_
    repeat ((with_reducible first|apply A0|apply wI|apply wT|apply wP|apply wS|apply wB);exact rfl)
    rw[E9,Q8]
    refine B5 (fun g2=>?_) (fun g2=>tog_bad (h4 g2) _)
    refine A0 (T6 (k:=0) jt (me (l:=a::o) (i:=0) rfl) rfl) ?_
    repeat ((with_reducible first|apply A0|apply wI|apply wT|apply wP|apply wS|apply wB);exact rfl)
    refine J5 (v:=.pv (.sl [P0 ⟨1,a.t⟩])) rfl ?_
    refine J5 (W9 (id:=0) (es:=2) (ver:=out.length) (xs:=out.map P0) (ys:=[P0 ⟨1,a.t⟩]) rfl rfl (List.length_map _).symm rfl rfl ⟨by rw[List.length_map];show out.length+1≤_;omega,by rw[List.length_map];show (out.length+1)*24≤_;omega⟩) ?_
    refine A0 (cz (k:=1) (by simp)) (A0 (cz (k:=1) (by simp)) ⟨A0 (cz (k:=1) (by simp)) rfl,?_⟩)
    have e:out.map P0 ++ [P0 ⟨1,a.t⟩]=(out ++ [(⟨1,a.t⟩:Row)]).map P0:=by simp
    have e3:(out.map P0).length + [P0 (⟨1,a.t⟩:Row)].length=(out ++ [(⟨1,a.t⟩:Row)]).length:=by simp
    rw[e,e3]
    exact h5 g2
theorem tog85{v:Option (List Row)}{o1 f1:List Mkd}{out:List Row}(h88:∀t,t=(o1.isEmpty||f1.isEmpty)→A8.n88 (A8.X w0 0) w0 0 (fun r _=>dr v r) (dk out) (.pv (K4 o1)) (.pv (K4 f1)) (dw out) t):
  A8.n85 (A8.X w0 0) w0 0 (fun r _=>dr v r) (dk out) (.pv (K4 o1)) (.pv (K4 f1)) (dw out):=by
 refine A8.n85_in ?_
 rw[A8.b85_eq]
 repeat ((with_reducible first|apply A0|apply wI|apply wT|apply wP|apply wS|apply wB);exact rfl)
 rw[List.length_map,G6]
 refine B5 (fun g=>?_) (fun g=>?_)
 ·generalize hb:true=b
  refine h88 b ?_
  rw[← hb,U0,beq_iff_eq.2 g];rfl
 ·repeat ((with_reducible first|apply A0|apply wI|apply wT|apply wP|apply wS|apply wB);exact rfl)
  rw[List.length_map]
  refine h88 _ ?_
  rw[U0,U0,beq_false_of_ne g,Bool.false_or]
theorem tog51{v:Option (List Row)}{o1 f1 g1 c1:List Mkd}{out:List Row}(hl:out.length+g1.length+c1.length≤16777216)(hg:g1.length≤8388608)(hc:c1.length≤8388608)
  (h85:A8.n85 (A8.X w0 0) w0 0 (fun r _=>dr v r) (dk (out++bm g1 c1)) (.pv (K4 o1)) (.pv (K4 f1)) (dw (out++bm g1 c1))):
  A8.n51 (A8.X w0 0) w0 0 (fun r _=>dr v r) (dk out) (.pv (K4 o1)) (.pv (K4 f1)) (dw out) (.pv (K4 g1)) (.pv (K4 c1)):=by
 have eo:(out++g1.map fun x=>(⟨2,x.t⟩:Row))++c1.map (fun x=>(⟨3,x.t⟩:Row))=out++bm g1 c1:=by
  unfold bm;rw[List.append_assoc]
 have h68:A8.n68 (A8.X w0 0) w0 0 (fun r _=>dr v r) (dk (out++g1.map fun x=>⟨2,x.t⟩)) (.pv (K4 o1)) (.pv (K4 f1)) (dw (out++g1.map fun x=>⟨2,x.t⟩)) (.pv (K4 c1)):=by
  refine A8.n68_in ?_
  rw[A8.b68_eq]
  repeat ((with_reducible first|apply A0|apply wI|apply wT|apply wP|apply wS|apply wB);exact rfl)
  rw[List.length_map]
  rw[← eo] at h85
  have hA:(out++g1.map fun x=>(⟨2,x.t⟩:Row)).length+c1.length≤16777216:=by rw[List.length_append,List.length_map];omega
  have:=come_loop (P:=dr v) (old:=o1) (fresh:=f1) (come:=c1) (out0:=out++g1.map fun x=>(⟨2,x.t⟩:Row)) hA hc h85 c1 [] rfl
  simp only[List.map_nil,List.append_nil,List.length_nil] at this
  exact this
 refine A8.n51_in ?_
 rw[A8.b51_eq]
 repeat ((with_reducible first|apply A0|apply wI|apply wT|apply wP|apply wS|apply wB);exact rfl)
 rw[List.length_map]
 have hB:out.length+g1.length≤16777216:=by omega
 have:=gone_loop (P:=dr v) (old:=o1) (fresh:=f1) (gone:=g1) (come:=c1) (out0:=out) hB hg h68 g1 [] rfl
 simp only[List.map_nil,List.append_nil,List.length_nil] at this
 exact this
theorem tog34(L:Laid w0.w){v:Option (List Row)}{o1 f1 g1 c1:List Mkd}{out:List Row}(hg:g1.length≤8388608)(hc:c1.length≤8388608)
  (hok:runOK g1 c1=true→A8.n51 (A8.X w0 0) w0 0 (fun r _=>dr v r) (dk out) (.pv (K4 o1)) (.pv (K4 f1)) (dw out) (.pv (K4 g1)) (.pv (K4 c1)))
  (hbad:runOK g1 c1=false→v=none) (t:Bool) (ht:t=(g1.isEmpty&&c1.isEmpty)):
  A8.n34 (A8.X w0 0) w0 0 (fun r _=>dr v r) (dk out) (.pv (K4 o1)) (.pv (K4 f1)) (dw out) (.pv (K4 g1)) (.pv (K4 c1)) t:=by
 have h46:∀t,t=runOK g1 c1→A8.n46 (A8.X w0 0) w0 0 (fun r _=>dr v r) (dk out) (.pv (K4 o1)) (.pv (K4 f1)) (dw out) (.pv (K4 g1)) (.pv (K4 c1)) t:=by
  intro t ht
  refine A8.n46_in ?_
  rw[A8.b46_eq]
  refine A4 (fun g=>hok (by rw[← ht,g])) (fun g=>tog_bad (hbad (by rw[← ht,g])) _)
 have h43:∀t,t=((g1.isEmpty&&c1.isEmpty)||(c1.isEmpty&&ot g1 45)||(g1.isEmpty&&ot c1 43))→A8.n43 (A8.X w0 0) w0 0 (fun r _=>dr v r) (dk out) (.pv (K4 o1)) (.pv (K4 f1)) (dw out) (.pv (K4 g1)) (.pv (K4 c1)) t:=by
  intro t ht
  have hr:runOK g1 c1=(t||(ot g1 33&&ot c1 33)):=by rw[ht];rfl
  refine A8.n43_in ?_
  rw[A8.b43_eq]
  refine A4 (fun g=>h46 t (by rw[hr,g];rfl)) (fun g=>?_)
  refine ni L (m:=33) hg (E5 ?_)
  rw[g,Bool.false_or] at hr
  refine A4 (fun g2=>?_) (fun g2=>?_)
  ·refine ni L (m:=33) hc (E5 (h46 _ ?_))
   rw[hr,g2,Bool.true_and]
  ·generalize hb:false=b
   refine h46 b ?_
   rw[hr,g2,←hb];rfl
 have h39:∀t,t=((g1.isEmpty&&c1.isEmpty)||(c1.isEmpty&&ot g1 45))→A8.n39 (A8.X w0 0) w0 0 (fun r _=>dr v r) (dk out) (.pv (K4 o1)) (.pv (K4 f1)) (dw out) (.pv (K4 g1)) (.pv (K4 c1)) t:=by
  intro t ht
  refine A8.n39_in ?_
  rw[A8.b39_eq]
  refine A4 (fun g=>h46 t ?_) (fun g=>?_)
  ·rw[runOK,←ht,g];rfl
  ·rw[g] at ht
   repeat ((with_reducible first|apply A0|apply wI|apply wT|apply wP|apply wS|apply wB);exact rfl)
   rw[List.length_map,G6]
   refine B5 (fun g2=>?_) (fun g2=>?_)
   ·refine ni L (m:=43) hc (E5 (h43 _ ?_))
    rw[← ht,U0 g1,beq_iff_eq.2 g2];rfl
   ·generalize hb:false=b
    refine h43 b ?_
    rw[← ht,U0 g1,beq_false_of_ne g2,←hb];rfl
 refine A8.n34_in ?_
 rw[A8.b34_eq]
 refine A4 (fun g=>hok ?_) (fun g=>?_)
 ·rw[runOK,←ht,g];rfl
 ·rw[g] at ht
  repeat ((with_reducible first|apply A0|apply wI|apply wT|apply wP|apply wS|apply wB);exact rfl)
  rw[List.length_map,G6]
  refine B5 (fun g2=>?_) (fun g2=>?_)
  ·refine ni L (m:=45) hg (E5 (h39 _ ?_))
   rw[← ht,U0 c1,beq_iff_eq.2 g2];rfl
  ·generalize hb:false=b
   refine h39 b ?_
   rw[← ht,U0 c1,beq_false_of_ne g2,←hb];rfl
theorem tog_loop(L:Laid w0.w)(v:Option (List Row)):∀(n:Nat) (old fresh:List Mkd) (out:List Row),old.length<n→out.length+old.length+fresh.length≤16777215→old.length≤8388608→fresh.length≤8388608→v=vh n old fresh out →
  A8.n22 (A8.X w0 0) w0 0 (fun r _=>dr v r) (dk out) (.pv (K4 old)) (.pv (K4 fresh)) (dw out)
 | 0,old,fresh,out,h,_,_,_,_=>absurd h (Nat.not_lt_zero _)
 | n+1,old,fresh,out,hn,hl,ho,hf,hv=>by
  have k1:=tk_len old
  have k2:=tk_len fresh
  rw[vh] at hv
  have hol:(out++bm (tkM old) (tkM fresh)).length=out.length+((tkM old).length+(tkM fresh).length):=by unfold bm;simp
  have h34:∀t,t=((tkM old).isEmpty&&(tkM fresh).isEmpty)→A8.n34 (A8.X w0 0) w0 0 (fun r _=>dr v r) (dk out) (.pv (K4 (tdM old))) (.pv (K4 (tdM fresh))) (dw out) (.pv (K4 (tkM old))) (.pv (K4 (tkM fresh))) t:=by
   refine tog34 L (by omega) (by omega) (fun hok=>?_) (fun hok=>by rw[hv,if_neg (by rw[hok];decide)])
   rw[if_pos hok] at hv
   refine tog51 (by omega) (by omega) (by omega) (tog85 (tog88 (by omega) (fun e1 e2=>?_) (fun h=>?_) (fun a o b f e1 e2=>⟨fun hne=>?_,fun heq=>?_⟩)))
   ·rw[hv,e1,e2]
   ·rcases h with ⟨e1,e2⟩|⟨e1,e2⟩
    ·rw[hv,e1]
     cases e:tdM fresh with
     | nil=>exact absurd e e2
     | cons b f=>rfl
    ·rw[hv,e2]
     cases e:tdM old with
     | nil=>exact absurd e e1
     | cons b f=>rfl
   ·rw[hv,e1,e2]
    simp only[if_neg hne]
   ·rw[e1] at k1
    rw[e2] at k2
    simp only[List.length_cons] at k1 k2
    refine tog_loop L v n o f _ (by omega) (by rw[List.length_append,hol,List.length_singleton];omega) (by omega) (by omega) ?_
    rw[hv,e1,e2]
    simp only[if_pos heq]
  refine A8.n22_in ?_
  rw[A8.b23_eq]
  refine qa L ho ?_
  repeat ((with_reducible first|apply A0|apply wI|apply wT|apply wP|apply wS|apply wB);exact rfl)
  refine qa L hf ?_
  repeat ((with_reducible first|apply A0|apply wI|apply wT|apply wP|apply wS|apply wB);exact rfl)
  rw[List.length_map,G6]
  refine B5 (fun g=>?_) (fun g=>?_)
  ·repeat ((with_reducible first|apply A0|apply wI|apply wT|apply wP|apply wS|apply wB);exact rfl)
   rw[List.length_map]
   refine h34 _ ?_
   rw[U0,U0,beq_iff_eq.2 g,Bool.true_and]
  ·generalize hb:false=b
   refine h34 b ?_
   rw[U0,beq_false_of_ne g,←hb,Bool.false_and]
theorem ctx_len(l:List Mkd):(ss l).length≤l.length:=List.length_filter_le _ _
theorem tog19(L:Laid w0.w){n:Nat}{old fresh:List Mkd}(hn:old.length<n)(ho:old.length≤8388607)(hf:fresh.length≤8388607):
  A8.n19 (A8.X w0 0) w0 0 (fun r _=>dr (vh n old fresh []) r) [] (.pv (K4 old)) (.pv (K4 fresh)):=by
 refine A8.n19_in ?_
 rw[A8.b19_eq]
 refine A8.n22_weak (old':=.pv (K4 old)) (fresh':=.pv (K4 fresh)) (out':=dw []) (τ:=dk []) (N2.nil (t:=6) (es:=2) rfl rfl) ?_
 exact tog_loop L _ n old fresh [] hn (by simp only[List.length_nil];omega) (by omega) (by omega) rfl
theorem together_spec(L:Laid w0.w){old fresh:List Mkd}(ho:old.length≤8388607)(hf:fresh.length≤8388607)(hR:∀w,dr (qm old fresh) w→R w σ):A2 (cx w0) A8.id [.pv (K4 old),.pv (K4 fresh)] σ R:=by
 refine A2.some_of (P:=dr (qm old fresh)) L rfl (fun w1 L1=>?_) (fun r h=>togP_under h) hR
 have h6:∀t,t=decide (old = []∧fresh = [])→A8.n6 (A8.X w1 0) w1 0 (fun r _=>dr (qm old fresh) r) [] (.pv (K4 old)) (.pv (K4 fresh)) t:=by
  intro t ht
  refine A8.n6_in ?_
  rw[A8.b6_eq]
  refine A4 (fun g=>?_) (fun g=>?_)
  ·rw[g] at ht
   refine tog_bad ?_ _
   rw[qm,if_pos (of_decide_eq_true ht.symm)]
  ·rw[g] at ht
   have hn:=of_decide_eq_false ht.symm
   repeat ((with_reducible first|apply A0|apply wI|apply wT|apply wP|apply wS|apply wB);exact rfl)
   rw[List.length_map,G6]
   refine B5 (fun g2=>?_) (fun g2=>?_)
   ·have e:old = []:=List.length_eq_zero_iff.1 (by omega)
    have hc:=ctx_len fresh
    have ef:qm old fresh=vh (fresh.length+1) (ss fresh) fresh []:=by rw[qm,if_neg hn,if_pos e]
    rw[ef]
    exact ou L1 (by omega) (tog19 L1 (by omega) (by omega) hf)
   ·have e:old ≠ []:=fun e=>g2 (by rw[e];rfl)
    repeat ((with_reducible first|apply A0|apply wI|apply wT|apply wP|apply wS|apply wB);exact rfl)
    rw[List.length_map,G6]
    refine B5 (fun g3=>?_) (fun g3=>?_)
    ·have e2:fresh = []:=List.length_eq_zero_iff.1 (by omega)
     have hc:=ctx_len old
     have ef:qm old fresh=vh (old.length+1) old (ss old) []:=by rw[qm,if_neg hn,if_neg e,if_pos e2]
     rw[ef]
     exact ou L1 (by omega) (tog19 L1 (by omega) ho (by omega))
    ·have e2:fresh ≠ []:=fun e=>g3 (by rw[e];rfl)
     have ef:qm old fresh=vh (old.length+1) old fresh []:=by rw[qm,if_neg hn,if_neg e,if_neg e2]
     rw[ef]
     exact tog19 L1 (by omega) ho hf
 refine A8.calls ?_
 rw[A8.b0_eq]
 repeat ((with_reducible first|apply A0|apply wI|apply wT|apply wP|apply wS|apply wB);exact rfl)
 rw[List.length_map,G6]
 refine B5 (fun g=>?_) (fun g=>?_)
 ·repeat ((with_reducible first|apply A0|apply wI|apply wT|apply wP|apply wS|apply wB);exact rfl)
  rw[List.length_map]
  refine h6 _ ?_
  have e:old = []:=List.length_eq_zero_iff.1 (by omega)
  rw[Bool.eq_iff_iff,beq_iff_eq,decide_eq_true_eq]
  exact ⟨fun h=>⟨e,List.length_eq_zero_iff.1 (by omega)⟩,fun h=>by rw[h.2];rfl⟩
 ·generalize hb:false=b
  refine h6 b ?_
  rw[← hb,decide_eq_false]
  rintro ⟨h,_⟩
  exact g (by rw[h];rfl)
end
end Go.Sv.U
end
section
namespace Go.Sv.U
section
open Go Go.RowKit Go.Proofs
variable {w0:B4}{σ:A1}{R:AV→A1→Prop}
theorem se{x:M1}{n:Nat}(h:n=σ.length):(σ ++ [x])[n]? = some x:=by subst h;simp
theorem set_last'{x y:M1}{n:Nat}(h:n=σ.length):(σ ++ [x]).set n y=σ ++ [y]:=by subst h;simp
abbrev ptT(σ:A1)(id:Nat)(ls:List Ln)(at_:Nat)(out:List Mkd):A1:=σ.set id (rdC ls at_) ++ [.arr 2 (out.map mkP) false]
abbrev ptA(σ:A1)(out:List Mkd):AV:=.arr σ.length out.length 0 out.length
theorem pt_seal(id:Nat)(ls:List Ln)(at_:Nat)(out:List Mkd):bp σ.length (ptT σ id ls at_ out) (ptA σ out)=some (.pv (K4 out)):=by
 have hg:(ptT σ id ls at_ out)[σ.length]? = some (.arr 2 (out.map mkP) false):=se (by simp)
 show gd σ.length (ptT σ id ls at_ out) (.arr σ.length out.length 0 out.length)=_
 simp only[gd,hg]
 rw[show Nat.ble σ.length σ.length=true from Nat.ble_eq_true_of_le (Nat.le_refl _)]
 simp only
 rw[if_pos ⟨List.length_map _,by omega⟩]
 simp[List.take_of_length_le]
theorem rowC_some{kind:UInt8}{l:Ln}{x:Mkd}(h:rowC kind l=some x):∃a r,H4 l=a::32::r∧(a=32∨a=kind∨a=33)∧x=⟨a,l.drop 2⟩:=by
 unfold rowC at h
 split at h
 ·rename_i a b r e
  split at h
  ·rename_i hc
   cases h
   exact ⟨a,r,by rw[e,hc.1],hc.2,rfl⟩
  ·cases h
 ·cases h
theorem ry{id:Nat}{x y:M1}(hid:id<σ.length):(σ.set id x ++ [y])[id]? = some x:=by
 rw[List.getElem?_append_left (by simpa using hid),List.getElem?_set_self hid]
theorem rd_set{id:Nat}{x x' y:M1}(hid:id<σ.length):(σ.set id x ++ [y]).set id x'=σ.set id x' ++ [y]:=by
 rw[List.set_append_left _ _ (by simpa using hid),List.set_set]
theorem part_stop{id:Nat}{ls:List Ln}{at_:Nat}{out:List Mkd}(hw:wfS (σ.set id (rdC ls at_)))(h:R (.pv (K4 out)) (σ.set id (rdC ls at_))):D9 (cx w0) σ.length (ptA σ out) (ptT σ id ls at_ out) R:=by
 refine D9.sealed L5 (τ:=σ.set id (rdC ls at_)) ?_ (by simp) ?_ (pt_seal id ls at_ out) h
 ·rw[List.take_append_of_le_length (by simp),List.take_of_length_le (by simp)]
 ·unfold wfS at hw
  rwa [List.length_set] at hw
theorem part38{id:Nat}{ls:List Ln}{kind:UInt8}{most:Int}{at_:Nat}{out:List Mkd}{bare:Bool}(hid:id<σ.length)(hat:at_≤8388608)
  (h:B6.n7 (B6.X w0 σ.length) w0 σ.length R (ptT σ id ls (at_+1) out) (.ptr id 0) (kind.toNat:Int) most (ptA σ out) bare):
  B6.n38 (B6.X w0 σ.length) w0 σ.length R (ptT σ id ls at_ out) (.ptr id 0) (kind.toNat:Int) most (ptA σ out) bare:=by
 refine B6.n38_in ?_
 rw[B6.b38_eq]
 refine A0 rfl (A0 rfl (A0 (rd_at (ry hid)) (G2 ?_)))
 rw[D8 (n:=(at_:Int)+1) (by omega) (by omega),show (at_:Int)+1=((at_+1:Nat):Int) by omega]
 refine A0 rfl (A0 rfl (A0 (st_rd (ry hid)) ?_))
 rw[rd_set hid]
 exact h
set_option maxHeartbeats 800000 in
theorem part_loop(L:Laid w0.w){id:Nat}{ls:List Ln}{kind:UInt8}{most:Int}(hid:id<σ.length)(hw:∀n,wfS (σ.set id (rdC ls n)))(hl:ls.length≤8388606)(hx:∀l∈ls,l.length≤8388608):∀(r:List Ln) (at_:Nat) (out:List Mkd) (bare:Bool),ls.drop at_=r→at_≤ls.length→out.length≤at_→(∀ x∈out,x.t.length≤8388608) →
  (∀ at',ls.drop at'=(T9 kind most r out bare).2→at'≤ls.length→R (.pv (K4 (T9 kind most r out bare).1)) (σ.set id (rdC ls at'))) →
  B6.n7 (B6.X w0 σ.length) w0 σ.length R (ptT σ id ls at_ out) (.ptr id 0) (kind.toNat:Int) most (ptA σ out) bare:=by
 intro r
 induction r with
 | nil=>
  intro at_ out bare hd hat hol ht hR
  have stop:=part_stop (w0:=w0) (hw at_) (hR at_ hd hat)
  refine B6.n7_in ?_
  rw[B6.b8_eq]
  refine W3 (ry hid) (by omega) hx ?_
  have hnf:Y5 (ls.drop at_)=([],false):=by rw[hd];rfl
  generalize Y5 (ls.drop at_)=nf at hnf
  obtain ⟨s0,ok0⟩:=nf
  have hok:ok0=false:=congrArg Prod.snd hnf
  repeat ((with_reducible first|apply A0|apply wI|apply wT|apply wP|apply wS|apply wB);exact rfl)
  refine A4 (fun g=>by rw[hok] at g;cases g) (fun g=>?_)
  generalize hb:false=b
  refine B6.n15_in ?_
  rw[B6.b15_eq]
  refine A4 (fun g=>by rw[← hb] at g;cases g) (fun g=>?_)
  refine A4 (fun g=>by rw[hok] at g;cases g) (fun g=>?_)
  generalize hb2:false=b2
  refine B6.n31_in ?_
  rw[B6.b31_eq]
  refine A4 (fun g=>by rw[← hb2] at g;cases g) (fun g=>stop)
 | cons l r ih=>
  intro at_ out bare hd hat hol ht hR
  obtain ⟨h1,h2,hk⟩:=Q6 hd
  have hlx:=hx l (List.mem_of_getElem? h1)
  have hbl:=Y7 l
  have hstop:(T9 kind most (l::r) out bare)=(out,l::r)→D9 (cx w0) σ.length (ptA σ out) (ptT σ id ls at_ out) R:=by
   intro e
   rw[e] at hR
   exact part_stop (hw at_) (hR at_ hd hat)
  have h31:∀t,(t=true → ∃x,rowC kind l=some x∧T9 kind most (l::r) out bare=T9 kind most r (out ++ [x]) false)→(t=false→T9 kind most (l::r) out bare=(out,l::r)) →
    B6.n31 (B6.X w0 σ.length) w0 σ.length R (ptT σ id ls at_ out) (.ptr id 0) (kind.toNat:Int) most (ptA σ out) (H4 l) t:=by
   intro t h3 h4
   refine B6.n31_in ?_
   rw[B6.b31_eq]
   refine A4 (fun g=>?_) (fun g=>hstop (h4 g))
   obtain ⟨x,e1,e2⟩:=h3 g
   rw[e2] at hR
   obtain ⟨a,q,e3,_,rfl⟩:=rowC_some e1
   have hl2:2≤l.length:=by
    have:=Y7 l
    rw[e3] at this
    simp only[List.length_cons] at this
    omega
   rw[e3]
   refine A0 (M3 (k:=0) (c:=a) rfl) (G2 ?_)
   refine A0 rfl (A0 rfl (A0 (rd_ls (ry hid)) ?_))
   refine A0 rfl (A0 rfl (A0 (rd_at (ry hid)) (G2 ?_)))
   refine A0 (T6 ju (ln_get' h1) rfl) ?_
   repeat ((with_reducible first|apply A0|apply wI|apply wT|apply wP|apply wS|apply wB);exact rfl)
   refine A0 (F5 hl2) (F4 ?_)
   refine A0 (v:=.pv (mkP ⟨a,l.drop 2⟩)) rfl ?_
   refine J5 (v:=.pv (.sl [mkP ⟨a,l.drop 2⟩])) rfl ?_
   refine J5 (W9 (id:=σ.length) (es:=2) (ver:=out.length) (xs:=out.map mkP) (ys:=[mkP ⟨a,l.drop 2⟩]) rfl (se (by simp)) (List.length_map _).symm rfl rfl ⟨by rw[List.length_map];show out.length+1≤_;omega,by rw[List.length_map];show (out.length+1)*24≤_;omega⟩) ?_
   have e:out.map mkP ++ [mkP ⟨a,l.drop 2⟩]=(out ++ [(⟨a,l.drop 2⟩:Mkd)]).map mkP:=by simp
   have e4:(out.map mkP).length + [mkP (⟨a,l.drop 2⟩:Mkd)].length=(out ++ [(⟨a,l.drop 2⟩:Mkd)]).length:=by simp
   rw[e,e4,set_last' (by simp)]
   have k38:∀b,b=false→B6.n38 (B6.X w0 σ.length) w0 σ.length R (ptT σ id ls at_ (out ++ [⟨a,l.drop 2⟩])) (.ptr id 0) (kind.toNat:Int) most (ptA σ (out ++ [⟨a,l.drop 2⟩])) b:=by
    intro b hb
    refine part38 hid (by omega) ?_
    refine ih (at_+1) (out ++ [⟨a,l.drop 2⟩]) b h2 (by omega) (by rw[List.length_append,List.length_singleton];omega) (fun x hx'=>?_) (by rw[hb];exact hR)
    rcases List.mem_append.1 hx' with hx'|hx'
    ·exact ht x hx'
    ·rw[List.mem_singleton] at hx'
     rw[hx']
     show (l.drop 2).length≤_
     rw[List.length_drop];omega
   exact k38 _ rfl
  have h19:Lib.hasPrefix (H4 l) [92]=true → ∀t,t=decide (out = []∨bare=true)→B6.n19 (B6.X w0 σ.length) w0 σ.length R (ptT σ id ls at_ out) (.ptr id 0) (kind.toNat:Int) most (ptA σ out) t:=by
   intro hp t htt
   refine B6.n19_in ?_
   rw[B6.b19_eq]
   refine A4 (fun g=>hstop ?_) (fun g=>?_)
   ·rw[g] at htt
    rw[T9,if_pos hp,if_pos (of_decide_eq_true htt.symm)]
   ·rw[g] at htt
    have hn:=of_decide_eq_false htt.symm
    obtain ⟨q,w,rfl⟩:∃q w,out=q ++ [w]:=by
     rcases List.eq_nil_or_concat out with e|⟨q,w,e⟩
     ·exact absurd (.inl e) hn
     ·exact ⟨q,w,by rw[e,List.concat_eq_append]⟩
    have hql:(q ++ [w]).length=q.length+1:=by simp
    have hget:((q ++ [w]).map mkP)[q.length]? = some (.agg [.int .u8 w.m.toNat,.str w.t]):=by simp
    have hw8:w.t.length≤8388608:=ht w (by simp)
    have wl:IntKind.wrap .i64 ((((q ++ [w]).length:Nat):Int)-1)=(q.length:Int):=by rw[hql,D8 (by omega) (by omega)];omega
    have hga:(ptT σ id ls at_ (q ++ [w]))[σ.length]? = some (.arr 2 ((q ++ [w]).map mkP) false):=se (by simp)
    have ep:T9 kind most (l::r) (q ++ [w]) bare=T9 kind most r (q ++ [⟨w.m,H4 w.t⟩]) true:=by
     rw[T9,if_pos hp,if_neg hn]
     congr 1
     unfold cj
     simp
    rw[ep] at hR
    refine A0 rfl (G2 ?_)
    rw[wl]
    refine A0 (eh (id:=σ.length) (xs:=(q ++ [w]).map mkP) jt hga (by omega) rfl (List.length_map _)) ?_
    rw[Nat.zero_add]
    refine A0 rfl (A0 rfl ?_)
    refine A0 (load_eptr (id:=σ.length) (xs:=(q ++ [w]).map mkP) hga (List.length_map _) hget rfl rfl) (F4 ?_)
    refine W8 (by omega) (F4 ?_)
    refine A0 rfl (A0 rfl ?_)
    refine A0 (xh (id:=σ.length) (xs:=(q ++ [w]).map mkP) hga (List.length_map _) hget rfl rfl rfl (by simp)) ?_
    have e:((q ++ [w]).map mkP).set q.length (.agg (P1 [.int .u8 w.m.toNat,.str w.t] (0+1) [.str (H4 w.t)]))=(q ++ [(⟨w.m,H4 w.t⟩:Mkd)]).map mkP:=by
     rw[List.map_append,List.set_append_right _ _ (by simp)]
     simp[P1]
    have e3:(q ++ [w]).length=(q ++ [(⟨w.m,H4 w.t⟩:Mkd)]).length:=by simp
    rw[e,set_last' (by simp)]
    generalize hb:true=b
    have:=part38 (R:=R) (w0:=w0) (σ:=σ) (ls:=ls) (kind:=kind) (most:=most) (at_:=at_) (out:=q ++ [⟨w.m,H4 w.t⟩]) (bare:=b) hid (by omega) (ih (at_+1) (q ++ [⟨w.m,H4 w.t⟩]) b h2 (by omega) (by rw[← e3];omega) (fun x hx'=>by
     rcases List.mem_append.1 hx' with hx'|hx'
     ·exact ht x (by simp[hx'])
     ·rw[List.mem_singleton] at hx'
      rw[hx']
      exact Nat.le_trans (Y7 w.t) hw8) (by rw[← hb];exact hR))
    unfold ptA at this ⊢
    rw[e3]
    exact this
  have h15:∀(t:Bool) (s:Ln) (ok:Bool),s=H4 l→ok=true→t=Lib.hasPrefix (H4 l) [92]→B6.n15 (B6.X w0 σ.length) w0 σ.length R (ptT σ id ls at_ out) (.ptr id 0) (kind.toNat:Int) most (ptA σ out) bare s ok t:=by
   intro t s ok hs hok htt
   refine B6.n15_in ?_
   rw[B6.b15_eq]
   refine A4 (fun g=>?_) (fun g=>?_)
   ·have hp:Lib.hasPrefix (H4 l) [92]=true:=by rw[← htt,g]
    refine A0 rfl (G2 ?_)
    rw[G6]
    refine B5 (fun g2=>?_) (fun g2=>?_)
    ·have e:out = []:=List.length_eq_zero_iff.1 (by omega)
     generalize hb:true=b
     exact h19 hp b (by rw[← hb,decide_eq_true (.inl e)])
    ·have e:out ≠ []:=fun e=>g2 (by rw[e];rfl)
     refine h19 hp bare ?_
     cases bare<;>simp[e]
   ·have hp:Lib.hasPrefix (H4 l) [92]=false:=by rw[← htt,g]
    refine A4 (fun _=>?_) (fun g2=>by rw[hok] at g2;cases g2)
    have no:∀t,t=false→((out.length:Int)<most→rowC kind l=none)→B6.n31 (B6.X w0 σ.length) w0 σ.length R (ptT σ id ls at_ out) (.ptr id 0) (kind.toNat:Int) most (ptA σ out) s t:=by
     intro t ht hn
     rw[hs]
     refine h31 t (fun e=>by rw[ht] at e;cases e) (fun _=>?_)
     rw[T9,if_neg (by rw[hp];decide)]
     by_cases hm:(out.length:Int)<most
     ·rw[if_pos hm,hn hm]
     ·rw[if_neg hm]
    refine A0 rfl (G2 ?_)
    rw[B0]
    refine B5 (fun g3=>?_) (fun g3=>?_)
    ·have yes:∀t x,t=true→rowC kind l=some x→B6.n31 (B6.X w0 σ.length) w0 σ.length R (ptT σ id ls at_ out) (.ptr id 0) (kind.toNat:Int) most (ptA σ out) s t:=by
      intro t x ht hr
      rw[hs]
      refine h31 t (fun _=>⟨x,hr,?_⟩) (fun e=>by rw[ht] at e;cases e)
      rw[T9,if_neg (by rw[hp];decide),if_pos g3,hr]
     rw[B0]
     refine B5 (fun g4=>?_) (fun g4=>?_)
     ·obtain ⟨a,b,q,e⟩:∃a b q,H4 l=a::b::q:=by
       rw[hs] at g4
       cases e:H4 l with
       | nil=>rw[e] at g4;simp at g4
       | cons a r'=>
        cases r' with
        | nil=>rw[e] at g4;simp at g4
        | cons b q=>exact ⟨a,b,q,rfl⟩
      have hrow:rowC kind l=if b=32∧(a=32∨a=kind∨a=33) then some ⟨a,l.drop 2⟩ else none:=by
       unfold rowC;rw[e]
      have es:s=a::b::q:=by rw[hs,e]
      rw[es] at no yes ⊢
      refine A0 (M3 (k:=1) (c:=b) rfl) (G2 ?_)
      rw[G6]
      have u32:∀c:UInt8,((c.toNat:Int)=32)↔c=32:=fun c=>vy (b:=32)
      have u33:∀c:UInt8,((c.toNat:Int)=33)↔c=33:=fun c=>vy (b:=33)
      refine B5 (fun g5=>?_) (fun g5=>?_)
      ·have hb32:=(u32 b).1 g5
       refine A0 (M3 (k:=0) (c:=a) rfl) (G2 ?_)
       rw[G6]
       refine B5 (fun g6=>?_) (fun g6=>?_)
       ·generalize hbt:true=bt
        exact yes bt _ hbt.symm (by rw[hrow,if_pos ⟨hb32,.inl ((u32 a).1 g6)⟩])
       ·have ha32:a≠32:=fun e=>g6 ((u32 a).2 e)
        refine A0 (M3 (k:=0) (c:=a) rfl) (G2 ?_)
        rw[G6]
        refine B5 (fun g7=>?_) (fun g7=>?_)
        ·generalize hbt:true=bt
         exact yes bt _ hbt.symm (by rw[hrow,if_pos ⟨hb32,.inr (.inl (vy.1 g7))⟩])
        ·have hak:a≠kind:=fun e=>g7 (by rw[e])
         refine A0 (M3 (k:=0) (c:=a) rfl) (G2 ?_)
         by_cases h33:a=33
         ·exact yes _ _ (beq_iff_eq.2 ((u33 a).2 h33)) (by rw[hrow,if_pos ⟨hb32,.inr (.inr h33)⟩])
         ·refine no _ (beq_false_of_ne (fun e=>h33 ((u33 a).1 e))) (fun _=>?_)
          rw[hrow,if_neg]
          rintro ⟨_,h|h|h⟩
          ·exact ha32 h
          ·exact hak h
          ·exact h33 h
      ·generalize hbt:false=bt
       exact no bt hbt.symm (fun _=>by rw[hrow,if_neg (fun h=>g5 ((u32 b).2 h.1))])
     ·generalize hbt:false=bt
      refine no bt hbt.symm (fun _=>?_)
      rw[hs] at g4
      unfold rowC
      cases e:H4 l with
      | nil=>rfl
      | cons a r'=>
       cases r' with
       | nil=>rfl
       | cons b q=>rw[e] at g4;simp only[List.length_cons] at g4;omega
    ·generalize hbt:false=bt
     exact no bt hbt.symm (fun h=>absurd h g3)
  refine B6.n7_in ?_
  rw[B6.b8_eq]
  refine W3 (ry hid) (by omega) hx ?_
  have hnf:Y5 (ls.drop at_)=(H4 l,true):=by rw[hd];rfl
  generalize Y5 (ls.drop at_)=nf at hnf
  obtain ⟨s0,ok0⟩:=nf
  have hs0:s0=H4 l:=congrArg Prod.fst hnf
  have hok:ok0=true:=congrArg Prod.snd hnf
  repeat ((with_reducible first|apply A0|apply wI|apply wT|apply wP|apply wS|apply wB);exact rfl)
  refine A4 (fun g=>?_) (fun g=>by rw[hok] at g;cases g)
  refine O3 (E5 (h15 _ _ _ hs0 hok ?_))
  rw[hs0]
theorem un(L:Laid w0.w){id:Nat}{ls:List Ln}{at_:Nat}{kind:UInt8}{most:Int}(ho:σ[id]? = some (rdC ls at_))(hw:∀n,wfS (σ.set id (rdC ls n)))(hl:ls.length≤8388606)(hat:at_≤ls.length)(hx:∀l∈ls,l.length≤8388608)
  (hR:∀at',ls.drop at'=(T9 kind most (ls.drop at_) [] false).2→at'≤ls.length→R (.pv (K4 (T9 kind most (ls.drop at_) [] false).1)) (σ.set id (rdC ls at'))):
  A2 (cx w0) B6.id [.ptr id 0,.pv (.int .u8 kind.toNat),.pv (.int .i64 most)] σ R:=by
 have hid:=(List.getElem?_eq_some_iff.1 ho).1
 refine B6.calls ?_
 rw[B6.b0_eq]
 generalize hb:false=b
 refine B6.n7_weak (r':=.ptr id 0) (kind':=(kind.toNat:Int)) (most':=most) (out':=.arr σ.length 0 0 0) (bare':=b) (τ:=σ ++ [.arr 2 [] false]) (N2.nil (t:=7) (es:=2) rfl rfl) ?_
 have:=part_loop (R:=R) (w0:=w0) (kind:=kind) (most:=most) L hid hw hl hx (ls.drop at_) at_ [] b rfl hat (Nat.zero_le _) (fun x hx=>by cases hx) (by rw[← hb];exact hR)
 rw[ptT,xi ho] at this
 exact this
end
end Go.Sv.U
end
