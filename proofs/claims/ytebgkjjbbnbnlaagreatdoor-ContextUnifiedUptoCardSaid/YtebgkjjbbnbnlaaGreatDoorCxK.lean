/- What the code of package context answers where it reads: both parts of a hunk put together. What the code of package context answers where it reads: both parts of a hunk put together, whole. -/
import Derived.Test.YtebgkjjbbnbnlaaGreatDoorSvC
set_option linter.unusedVariables false
set_option linter.unusedSimpArgs false
set_option maxRecDepth 100000
section
namespace Go.Sv
section
open Go Go.RowKit Go.Proofs
variable {w0:B5}{σ:A2}{R:AV→A2→Prop}
abbrev mkP(x:Mkd):PV:=.agg [.int .u8 x.m.toNat,.str x.t]
abbrev O5(l:List Mkd):PV:=.sl (l.map mkP)
theorem Dz{a b:UInt8}:((a.toNat:Int)=(b.toNat:Int))↔a=b:=⟨fun h=>UInt8.toNat_inj.1 (by omega),fun h=>by rw[h]⟩
theorem ow{l:List Mkd}{i:Nat}{x:Mkd}(h:l[i]? = some x):(l.map mkP)[i]? = some (mkP x):=by rw[List.getElem?_map,h];rfl
theorem xq:∀l:List Mkd,Y0 2 (l.map mkP)=true:=by
 intro l
 simp only[Y0,List.all_eq_true,List.mem_map]
 rintro x ⟨r,_,rfl⟩
 rfl
theorem fw{l:List Mkd}{k:Nat}(h:k≤l.length):K5 σ B2 V7.td (.pv (O5 l)) (some (.pv (.int .i64 (k:Int)))) none=some (.pv (O5 (l.drop k))):=by
 show (if (0:Int)≤(k:Int)∧(k:Int)≤(((l.map mkP).length:Nat):Int)∧(((l.map mkP).length:Nat):Int)≤(((l.map mkP).length:Nat):Int) then (if Y0 2 (l.map mkP)=true then some (AV.pv (.sl (((l.map mkP).take (((l.map mkP).length:Nat):Int).toNat).drop (k:Int).toNat))) else none) else none)=_
 rw[if_pos (by rw[List.length_map];omega),if_pos (xq l)]
 simp[List.take_of_length_le]
theorem Mi{l:List Mkd}{k:Nat}(h:k≤l.length):K5 σ B2 V7.td (.pv (O5 l)) none (some (.pv (.int .i64 (k:Int))))=some (.pv (O5 (l.take k))):=by
 show (if (0:Int)≤0∧(0:Int)≤(k:Int)∧(k:Int)≤(((l.map mkP).length:Nat):Int) then (if Y0 2 (l.map mkP)=true then some (AV.pv (.sl (((l.map mkP).take (k:Int).toNat).drop (0:Int).toNat))) else none) else none)=_
 rw[if_pos (by rw[List.length_map];omega),if_pos (xq l)]
 simp
abbrev msS(l:List Mkd):A2:=[.arr 2 (l.map mkP) false]
abbrev msA(l:List Mkd):AV:=.arr 0 l.length 0 l.length
theorem Yg(l:List Mkd):gu 0 ([]++msS l) (msA l)=some (.pv (O5 l)):=by
 show (if (l.map mkP).length=l.length∧0+l.length≤l.length then some (AV.pv (.sl (((l.map mkP).drop 0).take l.length))) else none)=_
 rw[if_pos ⟨List.length_map _,by omega⟩]
 simp[List.take_of_length_le]
theorem rh(l:List Mkd)(hl:l.length≤8388608)(v:AV):∀(r:List Mkd) (k:Nat) (done:List Mkd),l.drop k=r→done.length≤k→v = .pv (O5 (done++sj r)) →
  F1.n8 (F1.X w0 0) w0 0 (fun r' _=>r'=v) (msS done) (msA done) (.pv (O5 l)) l.length k
 | [],k,done,hd,_,hv=>by
  have hk:=N5 hd
  refine F1.n8_in ?_
  rw[F1.b9_eq,A8,if_neg (by omega)]
  refine F1.n25_in ?_
  rw[F1.b25_eq]
  refine U9 (σ:=[]) (L:=msS done) O3 rfl (Yg done) ?_
  rw[hv];simp[sj]
 | c::r,k,done,hd,hdk,hv=>by
  obtain ⟨h1,h2,hk⟩:=G7 hd
  have h24:∀(done':List Mkd),done'.length≤k+1→v = .pv (O5 (done'++sj r))→F1.n24 (F1.X w0 0) w0 0 (fun r' _=>r'=v) [.arr 2 (done'.map mkP) false,.cells 183 [.pv (.int .u8 c.m.toNat),.pv (.str c.t)]] (msA done') (.pv (O5 l)) l.length k:=by
   intro done' hd' hv'
   refine F1.n24_in ?_
   rw[F1.b24_eq,J3 hk (by omega)]
   refine F1.n8_weak (M5.drop (τ:=msS done') O3 (Nat.zero_le _) rfl rfl) ?_
   exact rh l hl v r (k+1) done' h2 hd' hv'
  refine F1.n8_in ?_
  rw[F1.b9_eq,A8,if_pos (by omega)]
  refine A0 (O1 ni (ow h1) rfl) ?_
  repeat ((with_reducible first|apply A0|apply wI|apply wT|apply wP|apply wS|apply wB);exact rfl)
  rw[H6]
  have hc:((c.m.toNat:Int)=32)↔c.m=32:=Dz (b:=32)
  refine B6 (fun g=>?_) (fun g=>?_)
  ·have g':=hc.1 g
   refine A0 (v:=.pv (mkP c)) rfl ?_
   refine J4 (v:=.pv (.sl [mkP c])) rfl ?_
   refine J4 (X5 (id:=0) (es:=2) (ver:=done.length) (xs:=done.map mkP) (ys:=[mkP c]) rfl rfl (List.length_map _).symm rfl rfl ⟨by rw[List.length_map];show done.length+1≤_;omega,by rw[List.length_map];show (done.length+1)*24≤_;omega⟩) ?_
   have e:done.map mkP ++ [mkP c]=(done ++ [c]).map mkP:=by simp
   have e2:(done.map mkP).length + [mkP c].length=(done ++ [c]).length:=by simp
   rw[e,e2]
   refine h24 (done ++ [c]) (by rw[List.length_append,List.length_singleton];omega) ?_
   rw[hv]
   unfold sj
   rw[List.filter_cons_of_pos (by simpa using g'),List.append_assoc];rfl
  ·have g':c.m≠32:=fun e=>g (hc.2 e)
   refine h24 done (by omega) ?_
   rw[hv]
   unfold sj
   rw[List.filter_cons_of_neg (by simpa using g')]
theorem rr(L:Laid w0.w){l:List Mkd}(hl:l.length≤8388608)(hR:R (.pv (O5 (sj l))) σ):A1 (cx w0) F1.id [.pv (O5 l)] σ R:=by
 refine A1.alone L rfl (fun w1 L1=>?_) rfl hR
 refine F1.calls ?_
 rw[F1.b0_eq]
 repeat ((with_reducible first|apply A0|apply wI|apply wT|apply wP|apply wS|apply wB);exact rfl)
 rw[List.length_map]
 refine F1.n8_weak (out':=msA []) (t6':=.pv (O5 l)) (t7':=l.length) (t8':=0) (τ:=msS []) (M5.nil (t:=3) (es:=2) rfl rfl) ?_
 exact rh l hl _ l 0 [] rfl (Nat.zero_le _) rfl
theorem Pq(l:List Mkd)(hl:l.length≤8388608):∀(r p:List Mkd),l=p++r→p=tkM l∨(∀ x∈p,x.m≠32) →
  (∀ x∈p,x.m≠32)→G4.n6 (G4.X w0 0) w0 0 (fun r' _=>r' = .tup [.pv (O5 (tkM l)),.pv (O5 (tdM l))]) [] (.pv (O5 l)) p.length:=by
 have fin:∀p r:List Mkd,l=p++r→tkM l=p→tdM l=r→G4.n15 (G4.X w0 0) w0 0 (fun r' _=>r' = .tup [.pv (O5 (tkM l)),.pv (O5 (tdM l))]) [] (.pv (O5 l)) p.length:=by
  intro p r hpr h1 h2
  have hle:p.length≤l.length:=by rw[hpr];simp
  refine G4.n15_in ?_
  rw[G4.b15_eq]
  refine A0 (Mi hle) (A0 (fw hle) ⟨A0 (fw hle) rfl,?_⟩)
  refine C4 (Nat.zero_le _) ?_
  rw[h1,h2,hpr];simp
 have split:∀p r:List Mkd,(∀ x∈p,x.m≠32)→(∀ x∈r.head?,x.m=32)→tkM (p++r)=p∧tdM (p++r)=r:=by
  intro p r hp hr
  induction p with
  | nil=>
   cases r with
   | nil=>exact ⟨rfl,rfl⟩
   | cons x r=>
    have:x.m=32:=hr x (by simp)
    simp[tkM,tdM,this]
  | cons y p ih=>
   have hy:=hp y (by simp)
   obtain ⟨i1,i2⟩:=ih (fun x hx=>hp x (by simp[hx]))
   unfold tkM tdM at *
   simp only[List.cons_append,List.takeWhile_cons,List.dropWhile_cons]
   have e:(!(y.m==32))=true:=by simp[hy]
   rw[e]
   simp only[if_true]
   exact ⟨by rw[i1],i2⟩
 intro r
 induction r with
 | nil=>
  intro p hpr _ hp
  obtain ⟨s1,s2⟩:=split p [] hp (by simp)
  rw[← hpr] at s1 s2
  refine G4.n6_in ?_
  rw[G4.b7_eq]
  repeat ((with_reducible first|apply A0|apply wI|apply wT|apply wP|apply wS|apply wB);exact rfl)
  rw[A8,if_neg (by rw[List.length_map,hpr];simp)]
  generalize hb:false=b
  refine G4.n10_in ?_
  rw[G4.b10_eq,←hb,I7]
  exact fin p [] hpr s1 s2
 | cons c r ih=>
  intro p hpr _ hp
  have hk:l[p.length]? = some c:=by rw[hpr];simp
  have hlt:p.length<l.length:=by rw[hpr];simp
  refine G4.n6_in ?_
  rw[G4.b7_eq]
  repeat ((with_reducible first|apply A0|apply wI|apply wT|apply wP|apply wS|apply wB);exact rfl)
  rw[A8,if_pos (by rw[List.length_map];omega)]
  refine A0 (O1 ni (ow hk) rfl) ?_
  repeat ((with_reducible first|apply A0|apply wI|apply wT|apply wP|apply wS|apply wB);exact rfl)
  have h10:∀t,t = !(c.m==32)→G4.n10 (G4.X w0 0) w0 0 (fun r' _=>r' = .tup [.pv (O5 (tkM l)),.pv (O5 (tdM l))]) [] (.pv (O5 l)) p.length t:=by
   intro t ht
   refine G4.n10_in ?_
   rw[G4.b10_eq]
   refine A7 (fun g=>?_) (fun g=>?_)
   ·have hc:c.m≠32:=by rw[g] at ht;simpa using ht.symm
    rw[J3 hlt (by omega)]
    have h3:∀x∈p ++ [c],x.m≠32:=fun x hx=>by
     rcases List.mem_append.1 hx with hx|hx
     ·exact hp x hx
     ·rw[List.mem_singleton] at hx;rw[hx];exact hc
    have:=ih (p ++ [c]) (by rw[hpr];simp) (.inr h3) h3
    rw[List.length_append] at this
    exact this
   ·have hc:c.m=32:=by rw[g] at ht;simpa using ht.symm
    obtain ⟨s1,s2⟩:=split p (c::r) hp (by simpa using hc)
    rw[← hpr] at s1 s2
    exact fin p (c::r) hpr s1 s2
  refine h10 _ ?_
  have hc:((c.m.toNat:Int)=32)↔c.m=32:=Dz (b:=32)
  by_cases h:c.m=32
  ·rw[h];rfl
  ·have h2:¬((c.m.toNat:Int)=32):=fun e=>h (hc.1 e)
   rw[beq_false_of_ne h,Bool.not_false,bne_iff_ne.2 h2]
theorem vd(L:Laid w0.w){l:List Mkd}(hl:l.length≤8388608)(hR:R (.tup [.pv (O5 (tkM l)),.pv (O5 (tdM l))]) σ):A1 (cx w0) G4.id [.pv (O5 l)] σ R:=by
 refine A1.alone L rfl (fun w1 L1=>?_) rfl hR
 refine G4.calls ?_
 rw[G4.b0_eq]
 exact Pq l hl l [] rfl (.inr (fun x hx=>by cases hx)) (fun x hx=>by cases hx)
theorem Hp(l:List Mkd)(hl:l.length≤8388608)(m:UInt8)(v:AV):∀(r:List Mkd) (k:Nat),l.drop k=r→v = .pv (.bool (r.all (fun x=>x.m==m) && !l.isEmpty)) →
  K7.n6 (K7.X w0 0) w0 0 (fun r' _=>r'=v) [] (.pv (O5 l)) (m.toNat:Int) (.pv (O5 l)) l.length k
 | [],k,hd,hv=>by
  have hk:=N5 hd
  refine K7.n6_in ?_
  rw[K7.b7_eq,A8,if_neg (by omega)]
  refine K7.n25_in ?_
  rw[K7.b25_eq]
  repeat ((with_reducible first|apply A0|apply wI|apply wT|apply wP|apply wS|apply wB);exact rfl)
  refine C4 (Nat.zero_le _) ?_
  rw[hv,List.length_map]
  cases l with
  | nil=>rfl
  | cons x l=>simp
 | c::r,k,hd,hv=>by
  obtain ⟨h1,h2,hk⟩:=G7 hd
  refine K7.n6_in ?_
  rw[K7.b7_eq,A8,if_pos (by omega)]
  refine A0 (O1 ni (ow h1) rfl) ?_
  repeat ((with_reducible first|apply A0|apply wI|apply wT|apply wP|apply wS|apply wB);exact rfl)
  rw[Q2]
  have hc:((c.m.toNat:Int)=(m.toNat:Int))↔c.m=m:=Dz
  refine B6 (fun g=>?_) (fun g=>?_)
  ·rw[J3 hk (by omega)]
   refine K7.n6_weak (M5.drop (τ:=[]) O3 (Nat.zero_le _) rfl rfl) ?_
   refine Hp l hl m v r (k+1) h2 ?_
   rw[hv,List.all_cons,hc.1 g];simp
  ·refine C4 (Nat.zero_le _) ?_
   have hne:(c.m==m)=false:=beq_false_of_ne (fun e=>g (hc.2 e))
   rw[hv,List.all_cons,hne];rfl
theorem qx(L:Laid w0.w){l:List Mkd}{m:UInt8}(hl:l.length≤8388608)(hR:R (.pv (.bool (nv l m))) σ):A1 (cx w0) K7.id [.pv (O5 l),.pv (.int .u8 m.toNat)] σ R:=by
 refine A1.alone L rfl (fun w1 L1=>?_) rfl hR
 refine K7.calls ?_
 rw[K7.b0_eq]
 repeat ((with_reducible first|apply A0|apply wI|apply wT|apply wP|apply wS|apply wB);exact rfl)
 rw[List.length_map]
 exact Hp l hl m _ l 0 rfl rfl
end
end Go.Sv
end
section
namespace Go.Sv
section
open Go Go.RowKit Go.Proofs
variable {w0:B5}{σ:A2}{R:AV→A2→Prop}
abbrev dr(l:List Row):A2:=[.arr 2 (l.map I3) false]
abbrev au(l:List Row):AV:=.arr 0 l.length 0 l.length
theorem Ux(l:List Row)(b:Bool):gu 0 ([]++dr l) (.tup [au l,.pv (.bool b)])=some (.tup [.pv (M8 l),.pv (.bool b)]):=by
 have e:px 0 ([]++dr l) (au l)=some (.pv (M8 l)):=by
  show (if (l.map I3).length=l.length∧0+l.length≤l.length then some (AV.pv (.sl (((l.map I3).drop 0).take l.length))) else none)=_
  rw[if_pos ⟨List.length_map _,by omega⟩]
  simp[List.take_of_length_le]
 have e2:tn 0 ([]++dr l) (au l)=some (.pv (M8 l)):=e
 simp only[gu,vu,e2]
 rfl
def ib(o:Option (List Row))(w:AV):Prop:=match o with
 | some rows=>w = .tup [.pv (M8 rows),.pv (.bool true)]
 | none=>∃rows,w = .tup [.pv (M8 rows),.pv (.bool false)]
theorem Pl{o:Option (List Row)}{w:AV}(h:ib o w):AV.under 0 w=true:=by
 unfold ib at h
 split at h
 ·rw[h];rfl
 ·obtain ⟨rows,rfl⟩:=h;rfl
section
variable {P:AV→Prop}
theorem Rw{out:List Row}{c:Mkd}{k:Int}(hl:out.length+1≤16777216):N8 [.arr 2 (out.map I3) false,.cells 183 [.pv (.int .u8 c.m.toNat),.pv (.str c.t)]] L7 (au out) (.pv (.sl [I3 ⟨k,c.t⟩]))=some (au (out ++ [⟨k,c.t⟩]),[.arr 2 ((out ++ [(⟨k,c.t⟩:Row)]).map I3) false,.cells 183 [.pv (.int .u8 c.m.toNat),.pv (.str c.t)]]):=by
 have:=X5 (σ:=[.arr 2 (out.map I3) false,.cells 183 [.pv (.int .u8 c.m.toNat),.pv (.str c.t)]]) (id:=0) (es:=2) (ver:=out.length) (xs:=out.map I3) (ys:=[I3 ⟨k,c.t⟩]) (fz:=false) (ei:=L7) (x:=.pv (.sl [I3 ⟨k,c.t⟩])) rfl rfl (List.length_map _).symm rfl rfl ⟨by rw[List.length_map];show out.length+1≤_;omega,by rw[List.length_map];show (out.length+1)*24≤_;omega⟩
 have e:out.map I3 ++ [I3 ⟨k,c.t⟩]=(out ++ [(⟨k,c.t⟩:Row)]).map I3:=by simp
 have e2:(out.map I3).length + [I3 (⟨k,c.t⟩:Row)].length=(out ++ [(⟨k,c.t⟩:Row)]).length:=by simp
 rw[this,e,e2]
 rfl
theorem Fk{old fresh come:List Mkd}{out0:List Row}(hl:out0.length+come.length≤16777216)(hc:come.length≤8388608)
  (next:A9.n85 (A9.X w0 0) w0 0 (fun r _=>P r) (dr (out0++come.map fun x=>⟨3,x.t⟩)) (.pv (O5 old)) (.pv (O5 fresh)) (au (out0++come.map fun x=>⟨3,x.t⟩))):∀(r done:List Mkd),come=done++r →
  A9.n72 (A9.X w0 0) w0 0 (fun r _=>P r) (dr (out0++done.map fun x=>⟨3,x.t⟩)) (.pv (O5 old)) (.pv (O5 fresh)) (au (out0++done.map fun x=>⟨3,x.t⟩)) (.pv (O5 come)) come.length done.length
 | [],done,h=>by
  rw[List.append_nil] at h
  subst h
  refine A9.n72_in ?_
  rw[A9.b73_eq,A8,if_neg (by omega)]
  exact next
 | c::r,done,h=>by
  have hk:come[done.length]? = some c:=by rw[h];simp
  have hlen:come.length=done.length+(r.length+1):=by rw[h];simp
  have ih:=Fk hl hc next r (done ++ [c]) (by rw[h];simp)
  refine A9.n72_in ?_
  rw[A9.b73_eq,A8,if_pos (by omega)]
  refine A0 (O1 ni (ow hk) rfl) ?_
  repeat ((with_reducible first|apply A0|apply wI|apply wT|apply wP|apply wS|apply wB);exact rfl)
  refine J4 (v:=.pv (.sl [I3 ⟨3,c.t⟩])) rfl ?_
  refine J4 (Rw (c:=c) (by simp only[List.length_append,List.length_map];omega)) ?_
  rw[J3 (n:=come.length) (by omega) (by omega)]
  refine A9.n72_weak (M5.drop (τ:=dr ((out0++done.map fun x=>⟨3,x.t⟩) ++ [⟨3,c.t⟩])) O3 (Nat.zero_le _) rfl rfl) ?_
  simp only[List.map_append,List.map_cons,List.map_nil,List.length_append,List.length_singleton,←List.append_assoc] at ih
  exact ih
theorem Ha{old fresh gone come:List Mkd}{out0:List Row}(hl:out0.length+gone.length≤16777216)(hc:gone.length≤8388608)
  (next:A9.n68 (A9.X w0 0) w0 0 (fun r _=>P r) (dr (out0++gone.map fun x=>⟨2,x.t⟩)) (.pv (O5 old)) (.pv (O5 fresh)) (au (out0++gone.map fun x=>⟨2,x.t⟩)) (.pv (O5 come))):∀(r done:List Mkd),gone=done++r →
  A9.n55 (A9.X w0 0) w0 0 (fun r _=>P r) (dr (out0++done.map fun x=>⟨2,x.t⟩)) (.pv (O5 old)) (.pv (O5 fresh)) (au (out0++done.map fun x=>⟨2,x.t⟩)) (.pv (O5 come)) (.pv (O5 gone)) gone.length done.length
 | [],done,h=>by
  rw[List.append_nil] at h
  subst h
  refine A9.n55_in ?_
  rw[A9.b56_eq,A8,if_neg (by omega)]
  exact next
 | c::r,done,h=>by
  have hk:gone[done.length]? = some c:=by rw[h];simp
  have hlen:gone.length=done.length+(r.length+1):=by rw[h];simp
  have ih:=Ha hl hc next r (done ++ [c]) (by rw[h];simp)
  refine A9.n55_in ?_
  rw[A9.b56_eq,A8,if_pos (by omega)]
  refine A0 (O1 ni (ow hk) rfl) ?_
  repeat ((with_reducible first|apply A0|apply wI|apply wT|apply wP|apply wS|apply wB);exact rfl)
  refine J4 (v:=.pv (.sl [I3 ⟨2,c.t⟩])) rfl ?_
  refine J4 (Rw (c:=c) (by simp only[List.length_append,List.length_map];omega)) ?_
  rw[J3 (n:=gone.length) (by omega) (by omega)]
  refine A9.n55_weak (M5.drop (τ:=dr ((out0++done.map fun x=>⟨2,x.t⟩) ++ [⟨2,c.t⟩])) O3 (Nat.zero_le _) rfl rfl) ?_
  simp only[List.map_append,List.map_cons,List.map_nil,List.length_append,List.length_singleton,←List.append_assoc] at ih
  exact ih
end
theorem Uv(l:List Mkd):(tkM l).length+(tdM l).length=l.length:=by
 have:=congrArg List.length (List.takeWhile_append_dropWhile (p:=fun x:Mkd=>!(x.m==32)) (l:=l))
 rw[List.length_append] at this
 exact this
theorem X9(l:List Mkd):l.isEmpty=((l.length:Int)==0):=by
 cases l with
 | nil=>rfl
 | cons x l=>
  have:¬(((x::l).length:Int)=0):=by simp only[List.length_cons];omega
  rw[beq_false_of_ne this];rfl
theorem Ip{v:Option (List Row)}(h:v=none)(S:A2):F2 (cx w0) 0 (.tup [.nilsl,.pv (.bool false)]) S (fun r _=>ib v r):=by
 refine U9 (σ:=[]) (L:=S) O3 rfl (r':=.tup [.pv (M8 []),.pv (.bool false)]) rfl ?_
 rw[h];exact ⟨[],rfl⟩
theorem tog88{v:Option (List Row)}{o1 f1:List Mkd}{out:List Row}(hl:out.length+1≤16777216)
  (h1:o1 = []→f1 = []→v=some out) (h2:(o1 = []∧f1 ≠ [])∨(o1 ≠ []∧f1 = [])→v=none)
  (h3:∀a o b f,o1=a::o→f1=b::f→(a.t≠b.t→v=none)∧(a.t=b.t→A9.n22 (A9.X w0 0) w0 0 (fun r _=>ib v r) (dr (out ++ [⟨1,a.t⟩])) (.pv (O5 o)) (.pv (O5 f)) (au (out ++ [⟨1,a.t⟩]))))
  (t:Bool) (ht:t=(o1.isEmpty||f1.isEmpty)):A9.n88 (A9.X w0 0) w0 0 (fun r _=>ib v r) (dr out) (.pv (O5 o1)) (.pv (O5 f1)) (au out) t:=by
 refine A9.n88_in ?_
 rw[A9.b88_eq]
 refine A7 (fun g=>?_) (fun g=>?_)
 ·rw[g] at ht
  repeat ((with_reducible first|apply A0|apply wI|apply wT|apply wP|apply wS|apply wB);exact rfl)
  rw[List.length_map,List.length_map]
  refine U9 (σ:=[]) (L:=dr out) O3 rfl (Ux _ _) ?_
  cases o1 with
  | nil=>
   cases f1 with
   | nil=>rw[h1 rfl rfl];rfl
   | cons b f=>
    have hb:(((([]:List Mkd).length:Nat):Int)==(((b::f).length:Nat):Int))=false:=beq_false_of_ne (by simp only[List.length_cons,List.length_nil];omega)
    rw[hb,h2 (.inl ⟨rfl,by simp⟩)]
    exact ⟨_,rfl⟩
  | cons a o=>
   cases f1 with
   | nil=>
    have hb:((((a::o).length:Nat):Int)==((([]:List Mkd).length:Nat):Int))=false:=beq_false_of_ne (by simp only[List.length_cons,List.length_nil];omega)
    rw[hb,h2 (.inr ⟨by simp,rfl⟩)]
    exact ⟨_,rfl⟩
   | cons b f=>exact absurd ht (by simp)
 ·rw[g] at ht
  cases o1 with
  | nil=>exact absurd ht (by simp)
  | cons a o=>
   cases f1 with
   | nil=>exact absurd ht (by simp)
   | cons b f=>
    obtain ⟨h4,h5⟩:=h3 a o b f rfl rfl
    refine A0 (O1 (k:=0) ni (ow (l:=a::o) (i:=0) rfl) rfl) ?_
    repeat ((with_reducible first|apply A0|apply wI|apply wT|apply wP|apply wS|apply wB);exact rfl)
    refine A0 (O1 (k:=0) ni (ow (l:=b::f) (i:=0) rfl) rfl) ?_
    repeat ((with_reducible first|apply A0|apply wI|apply wT|apply wP|apply wS|apply wB);exact rfl)
    rw[E3,U5]
    refine B6 (fun g2=>?_) (fun g2=>Ip (h4 g2) _)
    refine A0 (O1 (k:=0) ni (ow (l:=a::o) (i:=0) rfl) rfl) ?_
    repeat ((with_reducible first|apply A0|apply wI|apply wT|apply wP|apply wS|apply wB);exact rfl)
    refine J4 (v:=.pv (.sl [I3 ⟨1,a.t⟩])) rfl ?_
    refine J4 (X5 (id:=0) (es:=2) (ver:=out.length) (xs:=out.map I3) (ys:=[I3 ⟨1,a.t⟩]) rfl rfl (List.length_map _).symm rfl rfl ⟨by rw[List.length_map];show out.length+1≤_;omega,by rw[List.length_map];show (out.length+1)*24≤_;omega⟩) ?_
    refine A0 (fw (k:=1) (by simp)) (A0 (fw (k:=1) (by simp)) ⟨A0 (fw (k:=1) (by simp)) rfl,?_⟩)
    have e:out.map I3 ++ [I3 ⟨1,a.t⟩]=(out ++ [(⟨1,a.t⟩:Row)]).map I3:=by simp
    have e3:(out.map I3).length + [I3 (⟨1,a.t⟩:Row)].length=(out ++ [(⟨1,a.t⟩:Row)]).length:=by simp
    rw[e,e3]
    exact h5 g2
theorem tog85{v:Option (List Row)}{o1 f1:List Mkd}{out:List Row}(h88:∀t,t=(o1.isEmpty||f1.isEmpty)→A9.n88 (A9.X w0 0) w0 0 (fun r _=>ib v r) (dr out) (.pv (O5 o1)) (.pv (O5 f1)) (au out) t):
  A9.n85 (A9.X w0 0) w0 0 (fun r _=>ib v r) (dr out) (.pv (O5 o1)) (.pv (O5 f1)) (au out):=by
 refine A9.n85_in ?_
 rw[A9.b85_eq]
 repeat ((with_reducible first|apply A0|apply wI|apply wT|apply wP|apply wS|apply wB);exact rfl)
 rw[List.length_map,H6]
 refine B6 (fun g=>?_) (fun g=>?_)
 ·generalize hb:true=b
  refine h88 b ?_
  rw[← hb,X9,beq_iff_eq.2 g];rfl
 ·repeat ((with_reducible first|apply A0|apply wI|apply wT|apply wP|apply wS|apply wB);exact rfl)
  rw[List.length_map]
  refine h88 _ ?_
  rw[X9,X9,beq_false_of_ne g,Bool.false_or]
theorem tog51{v:Option (List Row)}{o1 f1 g1 c1:List Mkd}{out:List Row}(hl:out.length+g1.length+c1.length≤16777216)(hg:g1.length≤8388608)(hc:c1.length≤8388608)
  (h85:A9.n85 (A9.X w0 0) w0 0 (fun r _=>ib v r) (dr (out++bv g1 c1)) (.pv (O5 o1)) (.pv (O5 f1)) (au (out++bv g1 c1))):
  A9.n51 (A9.X w0 0) w0 0 (fun r _=>ib v r) (dr out) (.pv (O5 o1)) (.pv (O5 f1)) (au out) (.pv (O5 g1)) (.pv (O5 c1)):=by
 have eo:(out++g1.map fun x=>(⟨2,x.t⟩:Row))++c1.map (fun x=>(⟨3,x.t⟩:Row))=out++bv g1 c1:=by
  unfold bv;rw[List.append_assoc]
 have h68:A9.n68 (A9.X w0 0) w0 0 (fun r _=>ib v r) (dr (out++g1.map fun x=>⟨2,x.t⟩)) (.pv (O5 o1)) (.pv (O5 f1)) (au (out++g1.map fun x=>⟨2,x.t⟩)) (.pv (O5 c1)):=by
  refine A9.n68_in ?_
  rw[A9.b68_eq]
  repeat ((with_reducible first|apply A0|apply wI|apply wT|apply wP|apply wS|apply wB);exact rfl)
  rw[List.length_map]
  rw[← eo] at h85
  have hA:(out++g1.map fun x=>(⟨2,x.t⟩:Row)).length+c1.length≤16777216:=by rw[List.length_append,List.length_map];omega
  have:=Fk (P:=ib v) (old:=o1) (fresh:=f1) (come:=c1) (out0:=out++g1.map fun x=>(⟨2,x.t⟩:Row)) hA hc h85 c1 [] rfl
  simp only[List.map_nil,List.append_nil,List.length_nil] at this
  exact this
 refine A9.n51_in ?_
 rw[A9.b51_eq]
 repeat ((with_reducible first|apply A0|apply wI|apply wT|apply wP|apply wS|apply wB);exact rfl)
 rw[List.length_map]
 have hB:out.length+g1.length≤16777216:=by omega
 have:=Ha (P:=ib v) (old:=o1) (fresh:=f1) (gone:=g1) (come:=c1) (out0:=out) hB hg h68 g1 [] rfl
 simp only[List.map_nil,List.append_nil,List.length_nil] at this
 exact this
theorem tog34(L:Laid w0.w){v:Option (List Row)}{o1 f1 g1 c1:List Mkd}{out:List Row}(hg:g1.length≤8388608)(hc:c1.length≤8388608)
  (hok:ud g1 c1=true→A9.n51 (A9.X w0 0) w0 0 (fun r _=>ib v r) (dr out) (.pv (O5 o1)) (.pv (O5 f1)) (au out) (.pv (O5 g1)) (.pv (O5 c1)))
  (hbad:ud g1 c1=false→v=none) (t:Bool) (ht:t=(g1.isEmpty&&c1.isEmpty)):
  A9.n34 (A9.X w0 0) w0 0 (fun r _=>ib v r) (dr out) (.pv (O5 o1)) (.pv (O5 f1)) (au out) (.pv (O5 g1)) (.pv (O5 c1)) t:=by
 have h46:∀t,t=ud g1 c1→A9.n46 (A9.X w0 0) w0 0 (fun r _=>ib v r) (dr out) (.pv (O5 o1)) (.pv (O5 f1)) (au out) (.pv (O5 g1)) (.pv (O5 c1)) t:=by
  intro t ht
  refine A9.n46_in ?_
  rw[A9.b46_eq]
  refine A7 (fun g=>hok (by rw[← ht,g])) (fun g=>Ip (hbad (by rw[← ht,g])) _)
 have h43:∀t,t=((g1.isEmpty&&c1.isEmpty)||(c1.isEmpty&&nv g1 45)||(g1.isEmpty&&nv c1 43))→A9.n43 (A9.X w0 0) w0 0 (fun r _=>ib v r) (dr out) (.pv (O5 o1)) (.pv (O5 f1)) (au out) (.pv (O5 g1)) (.pv (O5 c1)) t:=by
  intro t ht
  have hr:ud g1 c1=(t||(nv g1 33&&nv c1 33)):=by rw[ht];rfl
  refine A9.n43_in ?_
  rw[A9.b43_eq]
  refine A7 (fun g=>h46 t (by rw[hr,g];rfl)) (fun g=>?_)
  refine qx L (m:=33) hg (F0 ?_)
  rw[g,Bool.false_or] at hr
  refine A7 (fun g2=>?_) (fun g2=>?_)
  ·refine qx L (m:=33) hc (F0 (h46 _ ?_))
   rw[hr,g2,Bool.true_and]
  ·generalize hb:false=b
   refine h46 b ?_
   rw[hr,g2,←hb];rfl
 have h39:∀t,t=((g1.isEmpty&&c1.isEmpty)||(c1.isEmpty&&nv g1 45))→A9.n39 (A9.X w0 0) w0 0 (fun r _=>ib v r) (dr out) (.pv (O5 o1)) (.pv (O5 f1)) (au out) (.pv (O5 g1)) (.pv (O5 c1)) t:=by
  intro t ht
  refine A9.n39_in ?_
  rw[A9.b39_eq]
  refine A7 (fun g=>h46 t ?_) (fun g=>?_)
  ·rw[ud,←ht,g];rfl
  ·rw[g] at ht
   repeat ((with_reducible first|apply A0|apply wI|apply wT|apply wP|apply wS|apply wB);exact rfl)
   rw[List.length_map,H6]
   refine B6 (fun g2=>?_) (fun g2=>?_)
   ·refine qx L (m:=43) hc (F0 (h43 _ ?_))
    rw[← ht,X9 g1,beq_iff_eq.2 g2];rfl
   ·generalize hb:false=b
    refine h43 b ?_
    rw[← ht,X9 g1,beq_false_of_ne g2,←hb];rfl
 refine A9.n34_in ?_
 rw[A9.b34_eq]
 refine A7 (fun g=>hok ?_) (fun g=>?_)
 ·rw[ud,←ht,g];rfl
 ·rw[g] at ht
  repeat ((with_reducible first|apply A0|apply wI|apply wT|apply wP|apply wS|apply wB);exact rfl)
  rw[List.length_map,H6]
  refine B6 (fun g2=>?_) (fun g2=>?_)
  ·refine qx L (m:=45) hg (F0 (h39 _ ?_))
   rw[← ht,X9 c1,beq_iff_eq.2 g2];rfl
  ·generalize hb:false=b
   refine h39 b ?_
   rw[← ht,X9 c1,beq_false_of_ne g2,←hb];rfl
theorem Li(L:Laid w0.w)(v:Option (List Row)):∀(n:Nat) (old fresh:List Mkd) (out:List Row),old.length<n→out.length+old.length+fresh.length≤16777215→old.length≤8388608→fresh.length≤8388608→v=tf n old fresh out →
  A9.n22 (A9.X w0 0) w0 0 (fun r _=>ib v r) (dr out) (.pv (O5 old)) (.pv (O5 fresh)) (au out)
 | 0,old,fresh,out,h,_,_,_,_=>absurd h (Nat.not_lt_zero _)
 | n+1,old,fresh,out,hn,hl,ho,hf,hv=>by
  have k1:=Uv old
  have k2:=Uv fresh
  rw[tf] at hv
  have hol:(out++bv (tkM old) (tkM fresh)).length=out.length+((tkM old).length+(tkM fresh).length):=by unfold bv;simp
  have h34:∀t,t=((tkM old).isEmpty&&(tkM fresh).isEmpty)→A9.n34 (A9.X w0 0) w0 0 (fun r _=>ib v r) (dr out) (.pv (O5 (tdM old))) (.pv (O5 (tdM fresh))) (au out) (.pv (O5 (tkM old))) (.pv (O5 (tkM fresh))) t:=by
   refine tog34 L (by omega) (by omega) (fun hok=>?_) (fun hok=>by rw[hv,if_neg (by rw[hok];decide)])
   rw[if_pos hok] at hv
   refine tog51 (by omega) (by omega) (by omega) (tog85 (tog88 (by omega) (fun e1 e2=>?_) (fun h=>?_) (fun a o b f e1 e2=>⟨fun hne=>?_,fun heq=>?_⟩)))
   ·rw[hv,e1,e2]
   ·rcases h with ⟨e1,e2⟩|⟨e1,e2⟩
    ·rw[hv,e1]
     cases e:tdM fresh with
     | nil=>exact absurd e e2
     | cons b f=>rfl
    ·rw[hv,e2]
     cases e:tdM old with
     | nil=>exact absurd e e1
     | cons b f=>rfl
   ·rw[hv,e1,e2]
    simp only[if_neg hne]
   ·rw[e1] at k1
    rw[e2] at k2
    simp only[List.length_cons] at k1 k2
    refine Li L v n o f _ (by omega) (by rw[List.length_append,hol,List.length_singleton];omega) (by omega) (by omega) ?_
    rw[hv,e1,e2]
    simp only[if_pos heq]
  refine A9.n22_in ?_
  rw[A9.b23_eq]
  refine vd L ho ?_
  repeat ((with_reducible first|apply A0|apply wI|apply wT|apply wP|apply wS|apply wB);exact rfl)
  refine vd L hf ?_
  repeat ((with_reducible first|apply A0|apply wI|apply wT|apply wP|apply wS|apply wB);exact rfl)
  rw[List.length_map,H6]
  refine B6 (fun g=>?_) (fun g=>?_)
  ·repeat ((with_reducible first|apply A0|apply wI|apply wT|apply wP|apply wS|apply wB);exact rfl)
   rw[List.length_map]
   refine h34 _ ?_
   rw[X9,X9,beq_iff_eq.2 g,Bool.true_and]
  ·generalize hb:false=b
   refine h34 b ?_
   rw[X9,beq_false_of_ne g,←hb,Bool.false_and]
theorem Sf(l:List Mkd):(sj l).length≤l.length:=List.length_filter_le _ _
theorem Wn(L:Laid w0.w){n:Nat}{old fresh:List Mkd}(hn:old.length<n)(ho:old.length≤8388607)(hf:fresh.length≤8388607):
  A9.n19 (A9.X w0 0) w0 0 (fun r _=>ib (tf n old fresh []) r) [] (.pv (O5 old)) (.pv (O5 fresh)):=by
 refine A9.n19_in ?_
 rw[A9.b19_eq]
 refine A9.n22_weak (old':=.pv (O5 old)) (fresh':=.pv (O5 fresh)) (out':=au []) (τ:=dr []) (M5.nil (t:=6) (es:=2) rfl rfl) ?_
 exact Li L _ n old fresh [] hn (by simp only[List.length_nil];omega) (by omega) (by omega) rfl
theorem En(L:Laid w0.w){old fresh:List Mkd}(ho:old.length≤8388607)(hf:fresh.length≤8388607)(hR:∀w,ib (rd old fresh) w→R w σ):A1 (cx w0) A9.id [.pv (O5 old),.pv (O5 fresh)] σ R:=by
 refine A1.some_of (P:=ib (rd old fresh)) L rfl (fun w1 L1=>?_) (fun r h=>Pl h) hR
 have h6:∀t,t=decide (old = []∧fresh = [])→A9.n6 (A9.X w1 0) w1 0 (fun r _=>ib (rd old fresh) r) [] (.pv (O5 old)) (.pv (O5 fresh)) t:=by
  intro t ht
  refine A9.n6_in ?_
  rw[A9.b6_eq]
  refine A7 (fun g=>?_) (fun g=>?_)
  ·rw[g] at ht
   refine Ip ?_ _
   rw[rd,if_pos (of_decide_eq_true ht.symm)]
  ·rw[g] at ht
   have hn:=of_decide_eq_false ht.symm
   repeat ((with_reducible first|apply A0|apply wI|apply wT|apply wP|apply wS|apply wB);exact rfl)
   rw[List.length_map,H6]
   refine B6 (fun g2=>?_) (fun g2=>?_)
   ·have e:old = []:=List.length_eq_zero_iff.1 (by omega)
    have hc:=Sf fresh
    have ef:rd old fresh=tf (fresh.length+1) (sj fresh) fresh []:=by rw[rd,if_neg hn,if_pos e]
    rw[ef]
    exact rr L1 (by omega) (Wn L1 (by omega) (by omega) hf)
   ·have e:old ≠ []:=fun e=>g2 (by rw[e];rfl)
    repeat ((with_reducible first|apply A0|apply wI|apply wT|apply wP|apply wS|apply wB);exact rfl)
    rw[List.length_map,H6]
    refine B6 (fun g3=>?_) (fun g3=>?_)
    ·have e2:fresh = []:=List.length_eq_zero_iff.1 (by omega)
     have hc:=Sf old
     have ef:rd old fresh=tf (old.length+1) old (sj old) []:=by rw[rd,if_neg hn,if_neg e,if_pos e2]
     rw[ef]
     exact rr L1 (by omega) (Wn L1 (by omega) ho (by omega))
    ·have e2:fresh ≠ []:=fun e=>g3 (by rw[e];rfl)
     have ef:rd old fresh=tf (old.length+1) old fresh []:=by rw[rd,if_neg hn,if_neg e,if_neg e2]
     rw[ef]
     exact Wn L1 (by omega) ho hf
 refine A9.calls ?_
 rw[A9.b0_eq]
 repeat ((with_reducible first|apply A0|apply wI|apply wT|apply wP|apply wS|apply wB);exact rfl)
 rw[List.length_map,H6]
 refine B6 (fun g=>?_) (fun g=>?_)
 ·repeat ((with_reducible first|apply A0|apply wI|apply wT|apply wP|apply wS|apply wB);exact rfl)
  rw[List.length_map]
  refine h6 _ ?_
  have e:old = []:=List.length_eq_zero_iff.1 (by omega)
  rw[Bool.eq_iff_iff,beq_iff_eq,decide_eq_true_eq]
  exact ⟨fun h=>⟨e,List.length_eq_zero_iff.1 (by omega)⟩,fun h=>by rw[h.2];rfl⟩
 ·generalize hb:false=b
  refine h6 b ?_
  rw[← hb,decide_eq_false]
  rintro ⟨h,_⟩
  exact g (by rw[h];rfl)
end
end Go.Sv
end
