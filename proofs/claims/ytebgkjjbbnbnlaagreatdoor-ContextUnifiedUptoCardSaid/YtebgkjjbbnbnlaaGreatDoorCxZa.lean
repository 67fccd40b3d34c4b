/- The law ContextUnified over stores. -/
import Derived.Test.YtebgkjjbbnbnlaaGreatDoorCxF
import Derived.Test.YtebgkjjbbnbnlaaGreatDoorUnY
set_option linter.unusedVariables false
set_option linter.unusedSimpArgs false
set_option maxRecDepth 100000
namespace Go.Sv
section
open Go Go.RowKit Go.Proofs
variable {w0:B5}{σ:A2}{R:AV→A2→Prop}
theorem Yz(h:Hnk):bc (bc h)=bc h:=by
 unfold bc
 simp only
 rw[su]
theorem Nj:∀l:List Hnk,(l.map bc).map bc=l.map bc
 | []=>rfl
 | h::l=>by
  have ih:=Nj l
  rw[List.map_cons,List.map_cons,Yz,ih]
abbrev cuS(p s p' s':Ln)(l:List Hnk)(d:List Hnk)(fz:Bool):A2:=jobS p s p' s' l ++ [.arr 6 (d.map K6) fz]
abbrev cuA(d:List Hnk):AV:=.arr 1 d.length 0 d.length
theorem cu57{σ:A2}(t:Bool)(ht:t=true):B3.n57 (B3.X w0 0) w0 0 (fun r' _=>r' = .pv (.bool true)) σ t:=by
 refine B3.n57_in ?_
 rw[B3.b57_eq,ht]
 exact C4 (Nat.zero_le _) rfl
theorem cu46(L:Laid w0.w){S:A2}{j:P9}{r:P9}(hS:S = [j,r]){p s p' s':Ln}{d:List Hnk}(o:rg p s p' s' d)(hsrt:d.map bc=d)(hf:T9 p s p' s' d=0)(hne:d ≠ [])(t:Bool)(ht:t=false→(fg p s p' s' d).length≤4194304∧(ex p s p' s' d).length≤4194304):
  B3.n46 (B3.X w0 0) w0 0 (fun r' _=>r' = .pv (.bool true)) S (fg p s p' s' d) (ex p s p' s' d) t:=by
 obtain ⟨h1,h2,hv,hok,ho⟩:=Th o hf
 have hlen:=o.len
 subst hS
 refine B3.n46_in ?_
 rw[B3.b46_eq]
 refine A7 (fun g=>?_) (fun g=>?_)
 ·exact tk L (F0 (C4 (Nat.zero_le _) rfl))
 ·obtain ⟨l1,l2⟩:=ht g
  refine Il L (by omega) (fun w hw=>?_)
  obtain rfl:=Vy h1 h2 hok ho hne l1 hw
  rw[hsrt]
  repeat ((with_reducible first|apply A0|apply wI|apply wT|apply wP|apply wS|apply wB);exact rfl)
  have hp:=Mb h1 h2 hok ho hne l2
  refine Pz L (by omega) (fun w hw=>?_)
  unfold co at hw
  rw[hp] at hw
  simp only at hw
  subst hw
  repeat ((with_reducible first|apply A0|apply wI|apply wT|apply wP|apply wS|apply wB);exact rfl)
  rw[Rq]
  refine A0 rfl (A0 (v:=true) rfl (F0 ?_))
  rw[L4,Rq]
  refine A0 rfl (A0 (v:=true) rfl (F0 ?_))
  rw[L4]
  repeat ((with_reducible first|apply A0|apply wI|apply wT|apply wP|apply wS|apply wB);exact rfl)
  refine Vh (F0 ?_)
  rw[L4]
  repeat ((with_reducible first|apply A0|apply wI|apply wT|apply wP|apply wS|apply wB);exact rfl)
  refine Vh (F0 ?_)
  rw[L4]
  refine Nb L (l:=d) hlen (fun x hx=>(o.ok x hx).rows) (F0 ?_)
  rw[L4]
  exact tk L (F0 (cu57 _ rfl))
theorem cu38(L:Laid w0.w){S:A2}{j:P9}{r:P9}(hS:S = [j,r]){p s p' s':Ln}{d:List Hnk}(o:rg p s p' s' d)(hsrt:d.map bc=d)(hf:T9 p s p' s' d=0)(hne:d ≠ [])(t:Bool)(ht:t=false):
  B3.n38 (B3.X w0 0) w0 0 (fun r' _=>r' = .pv (.bool true)) S (fg p s p' s' d) (ex p s p' s' d) t:=by
 refine B3.n38_in ?_
 rw[B3.b38_eq,ht,I7,A8]
 refine B6 (fun g=>?_) (fun g=>?_)
 ·exact cu46 L hS o hsrt hf hne true (fun e=>by cases e)
 ·refine cu46 L hS o hsrt hf hne _ (fun e=>?_)
  have:=of_decide_eq_false e
  exact ⟨by omega,by omega⟩
theorem cu26(L:Laid w0.w){p s p' s':Ln}{l d:List Hnk}(fz:Bool)(o:rg p s p' s' d)(hsrt:d.map bc=d)(t:Bool)(ht:t=false→T9 p s p' s' d=0∧d ≠ []):
  B3.n26 (B3.X w0 0) w0 0 (fun r' _=>r' = .pv (.bool true)) (cuS p s p' s' l d fz) (.ptr 0 0) (cuA d) t:=by
 have hrows:∀x∈d,x.rows.length≤1048576:=fun x hx=>(o.ok x hx).rows
 refine B3.n26_in ?_
 rw[B3.b26_eq]
 refine A7 (fun g=>?_) (fun g=>?_)
 ·exact tk L (F0 (C4 (Nat.zero_le _) rfl))
 ·obtain ⟨hf,hne⟩:=ht g
  repeat ((with_reducible first|apply A0|apply wI|apply wT|apply wP|apply wS|apply wB);exact rfl)
  refine A1.freeze (id:=1) (es:=6) (xs:=d.map K6) (fz:=fz) rfl (.cons (.row _ (List.length_map _).symm) .nil) ?_
  refine Bz L o.len hrows ?_
  refine ⟨rfl,rfl,?_⟩
  repeat ((with_reducible first|apply A0|apply wI|apply wT|apply wP|apply wS|apply wB);exact rfl)
  refine Mu L o ?_
  unfold ie
  rw[hf,if_pos rfl]
  repeat ((with_reducible first|apply A0|apply wI|apply wT|apply wP|apply wS|apply wB);exact rfl)
  refine A1.freeze (id:=1) (es:=6) (xs:=d.map K6) (fz:=true) rfl (.cons (.row _ (List.length_map _).symm) .nil) ?_
  refine Bz L o.len hrows ?_
  refine ⟨rfl,rfl,?_⟩
  repeat ((with_reducible first|apply A0|apply wI|apply wT|apply wP|apply wS|apply wB);exact rfl)
  refine Cc L o ?_
  unfold aq
  rw[hf,if_pos rfl]
  repeat ((with_reducible first|apply A0|apply wI|apply wT|apply wP|apply wS|apply wB);exact rfl)
  show T0 B2 _ true .neq (.pv (.raw .nilIface)) (.pv (.raw .nilIface)) _
  rw[Q1]
  refine A0 rfl (A0 (v:=true) rfl (F0 ?_))
  rw[Bool.not_true,I7]
  show T0 B2 _ true .neq (.pv (.raw .nilIface)) (.pv (.raw .nilIface)) _
  rw[Q1]
  refine A0 rfl (A0 (v:=true) rfl (F0 ?_))
  exact cu38 L rfl o hsrt hf hne _ rfl
theorem cu23(L:Laid w0.w){p s p' s':Ln}{l d:List Hnk}(o:rg p s p' s' d)(hsrt:d.map bc=d):
  B3.n23 (B3.X w0 0) w0 0 (fun r' _=>r' = .pv (.bool true)) (cuS p s p' s' l d false) (.ptr 0 0) (cuA d):=by
 refine B3.n23_in ?_
 rw[B3.b23_eq]
 repeat ((with_reducible first|apply A0|apply wI|apply wT|apply wP|apply wS|apply wB);exact rfl)
 refine A1.freeze (id:=1) (es:=6) (xs:=d.map K6) (fz:=false) rfl (.cons (.same _) (.cons (.same _) (.cons (.row _ (List.length_map _).symm) .nil))) ?_
 refine Mn L o (L3 ?_)
 rw[Q2]
 refine B6 (fun g=>?_) (fun g=>?_)
 ·repeat ((with_reducible first|apply A0|apply wI|apply wT|apply wP|apply wS|apply wB);exact rfl)
  refine cu26 L true o hsrt _ (fun e=>⟨g,fun e2=>?_⟩)
  rw[e2] at e
  simp at e
 ·exact cu26 L true o hsrt true (fun e=>by cases e)
theorem Rj(L:Laid w0.w){p s p' s':Ln}{l:List Hnk}(o:rg p s p' s' l):∀(r done:List Hnk),l=done++r →
  B3.n8 (B3.X w0 0) w0 0 (fun r' _=>r' = .pv (.bool true)) (cuS p s p' s' l (done.map bc) false) (.ptr 0 0) (cuA (done.map bc)) done.length
 | [],done,h=>by
  rw[List.append_nil] at h
  subst h
  refine B3.n8_in ?_
  rw[B3.b9_eq]
  repeat ((with_reducible first|apply A0|apply wI|apply wT|apply wP|apply wS|apply wB);exact rfl)
  rw[A8,if_neg (by rw[List.length_map];omega)]
  exact cu23 L o.srt (Nj _)
 | c::r,done,h=>by
  have hk:(l.map K6)[done.length]? = some (K6 c):=by rw[h];simp
  have hlen:l.length=done.length+(r.length+1):=by rw[h];simp
  have hl:=o.len
  have hc:=(o.ok c (by rw[h];simp)).rows
  have ih:=Rj L o r (done ++ [c]) (by rw[h];simp)
  have e:(done.map bc).map K6 ++ [K6 (bc c)]=((done ++ [c]).map bc).map K6:=by simp
  refine B3.n8_in ?_
  rw[B3.b9_eq]
  repeat ((with_reducible first|apply A0|apply wI|apply wT|apply wP|apply wS|apply wB);exact rfl)
  rw[A8,if_pos (by rw[List.length_map];omega)]
  repeat ((with_reducible first|apply A0|apply wI|apply wT|apply wP|apply wS|apply wB);exact rfl)
  refine A0 (O1 ke hk rfl) ?_
  repeat ((with_reducible first|apply A0|apply wI|apply wT|apply wP|apply wS|apply wB);exact rfl)
  refine Kq L (l:=c.rows) (by omega) ?_
  repeat ((with_reducible first|apply A0|apply wI|apply wT|apply wP|apply wS|apply wB);exact rfl)
  refine J4 (v:=.pv (.sl [K6 (bc c)])) rfl ?_
  refine J4 (X5 (id:=1) (es:=6) (ver:=(done.map bc).length) (xs:=(done.map bc).map K6) (ys:=[K6 (bc c)]) rfl rfl (List.length_map _).symm rfl rfl ⟨by rw[List.length_map,List.length_map];show done.length+1≤_;omega,by rw[List.length_map,List.length_map];show (done.length+1)*72≤_;omega⟩) ?_
  rw[J3 (n:=l.length) (by omega) (by omega)]
  rw[List.length_map,List.length_map,e]
  refine B3.n8_weak (M5.drop (τ:=cuS p s p' s' l ((done ++ [c]).map bc) false) O3 (Nat.zero_le _) rfl rfl) ?_
  simp only[cuA,List.length_map,List.length_append,List.length_singleton] at ih ⊢
  exact ih
theorem Iw(L:Laid w0.w){p s p' s':Ln}{l:List Hnk}(o:rg p s p' s' l):A1 (cx w0) B3.id [.pv (.agg [.str p,.str s,.str p',.str s',.sl (l.map K6)])] [] fun r _=>r = .pv (.bool true):=by
 refine B3.calls ?_
 rw[B3.b0_eq]
 refine ⟨rfl,?_⟩
 refine B3.n8_weak (j':=.ptr 0 0) (l_':=cuA []) (i':=0) (τ:=cuS p s p' s' l [] false) (M5.nil (t:=3) (es:=6) rfl rfl) ?_
 exact Rj L o l [] rfl
open Go.Proofs.YtebgkjjbbnbnlaaGreatDoor in
theorem rf{w0:B5}(L:Laid w0.w){H:Type}{d0:DataW H}{ds:List (DataW H)}(hT:jp B2 12 26 (X6 d0))(hk:Rows.uptoSmall H (d0::ds)=true):A1 (cx w0) B3.id [.pv (X6 d0)] [] fun r _=>r = .pv (.bool true):=by
 obtain ⟨p,s,p',s',l,e,o,_⟩:=Uq hT hk
 rw[e]
 exact Iw L o
end
end Go.Sv
