/- Rows sorted: removed ones ahead of added ones in each run. What is printed is read again: both parts put together are the rows, sorted. What is printed is read again: a hunk's lines, as plain lists. What is printed is read again: a hunk with its rows sorted is printed as it was. -/
import Derived.Test.YtebgkjjbbnbnlaaGreatDoorCxD
import Derived.Test.YtebgkjjbbnbnlaaGreatDoorCxX
set_option linter.unusedVariables false
set_option linter.unusedSimpArgs false
set_option maxRecDepth 100000
section
namespace Go.Sv
def G8(k:Int)(l:List Row):List Row:=l.filter (fun r=>decide (r.k=k))
def S0:List Row→List Row→List Row→List Row
 | [],run,out=>(out++G8 2 run)++G8 3 run
 | r::l,run,out=>if r.k=2∨r.k=3 then S0 l (run ++ [r]) out else S0 l [] (((out++G8 2 run)++G8 3 run) ++ [r])
theorem Bi:∀l:List Row,(G8 2 l).length+(G8 3 l).length≤l.length
 | []=>Nat.le_refl _
 | r::l=>by
  have:=Bi l
  unfold G8 at this ⊢
  rw[List.filter_cons,List.filter_cons]
  by_cases h1:r.k=2
  ·rw[if_pos (by simpa using h1),if_neg (by simp[h1])];simp only[List.length_cons];omega
  ·by_cases h2:r.k=3
   ·rw[if_neg (by simpa using h1),if_pos (by simpa using h2)];simp only[List.length_cons];omega
   ·rw[if_neg (by simpa using h1),if_neg (by simpa using h2)];simp only[List.length_cons];omega
section
open Go Go.RowKit Go.Proofs
variable {w0:B5}{σ:A2}{R:AV→A2→Prop}
theorem qd{l:List Row}{i:Nat}{r:Row}(h:l[i]? = some r):(l.map I3)[i]? = some (I3 r):=by rw[List.getElem?_map,h];rfl
theorem yc{l:List Row}{k:Int}(hl:l.length≤16777216):∀(r:List Row) (i:Nat) (out:List Row),l.drop i=r→out.length≤i→out++G8 k r=G8 k l →
  D7.n8 (D7.X w0 0) w0 0 (fun r' _=>r' = .pv (M8 (G8 k l))) (dr out) (.pv (M8 l)) k (au out) i
 | [],i,out,hd,ho,he=>by
  have hk:=N5 hd
  refine D7.n8_in ?_
  rw[D7.b9_eq]
  repeat ((with_reducible first|apply A0|apply wI|apply wT|apply wP|apply wS|apply wB);exact rfl)
  rw[A8,List.length_map,if_neg (by omega)]
  refine D7.n23_in ?_
  rw[D7.b23_eq]
  have he':out=G8 k l:=by rw[← he];simp[G8]
  have e:gu 0 ([]++dr out) (au out)=some (.pv (M8 out)):=by
   show (if (out.map I3).length=out.length∧0+out.length≤out.length then some (AV.pv (.sl (((out.map I3).drop 0).take out.length))) else none)=_
   rw[if_pos ⟨List.length_map _,by omega⟩]
   simp[List.take_of_length_le]
  exact U9 (σ:=[]) O3 rfl e (by rw[he'])
 | c::r,i,out,hd,ho,he=>by
  obtain ⟨h1,h2,hk⟩:=G7 hd
  have h22:∀out',out'++G8 k r=G8 k l→out'.length≤i+1→D7.n22 (D7.X w0 0) w0 0 (fun r' _=>r' = .pv (M8 (G8 k l))) (dr out') (.pv (M8 l)) k (au out') i:=by
   intro out' he' ho'
   refine D7.n22_in ?_
   rw[D7.b22_eq,J3 hk (by omega)]
   exact yc hl r (i+1) out' h2 ho' he'
  refine D7.n8_in ?_
  rw[D7.b9_eq]
  repeat ((with_reducible first|apply A0|apply wI|apply wT|apply wP|apply wS|apply wB);exact rfl)
  rw[A8,List.length_map,if_pos (by omega)]
  refine A0 (O1 df (qd h1) rfl) ?_
  repeat ((with_reducible first|apply A0|apply wI|apply wT|apply wP|apply wS|apply wB);exact rfl)
  rw[H6]
  refine B6 (fun g=>?_) (fun g=>?_)
  ·refine A0 (O1 df (qd h1) rfl) ?_
   refine A0 (v:=.pv (I3 c)) rfl ?_
   refine J4 (v:=.pv (.sl [I3 c])) rfl ?_
   refine J4 (X5 (id:=0) (es:=2) (ver:=out.length) (xs:=out.map I3) (ys:=[I3 c]) rfl rfl (List.length_map _).symm rfl rfl ⟨by rw[List.length_map];show out.length+1≤_;omega,by rw[List.length_map];show (out.length+1)*24≤_;omega⟩) ?_
   have e:out.map I3 ++ [I3 c]=(out ++ [c]).map I3:=by simp
   have e2:(out.map I3).length + [I3 c].length=(out ++ [c]).length:=by simp
   rw[e,e2]
   refine h22 (out ++ [c]) ?_ (by simp;omega)
   rw[← he]
   unfold G8
   rw[List.filter_cons,if_pos (by simpa using g)]
   simp
  ·refine h22 out ?_ (by omega)
   rw[← he]
   unfold G8
   rw[List.filter_cons,if_neg (by simpa using g)]
theorem ju(L:Laid w0.w){l:List Row}{k:Int}(hl:l.length≤16777216)(hR:R (.pv (M8 (G8 k l))) σ):A1 (cx w0) D7.id [.pv (M8 l),.pv (.int .i64 k)] σ R:=by
 refine A1.alone L rfl (fun w1 L1=>?_) rfl hR
 refine D7.calls ?_
 rw[D7.b0_eq]
 refine D7.n8_weak (l_':=.pv (M8 l)) (kind':=k) (out':=au []) (i':=0) (τ:=dr []) (M5.nil (t:=5) (es:=2) rfl rfl) ?_
 exact yc hl l 0 [] rfl (by simp) (by simp)
abbrev srS(out run:List Row)(fz:Bool):A2:=[.arr 2 (out.map I3) false,.arr 2 (run.map I3) fz]
abbrev Mx(run:List Row):AV:=.arr 1 run.length 0 run.length
theorem og{out ys:List Row}{x:P9}(hl:out.length+ys.length≤16777216):N8 [.arr 2 (out.map I3) false,x] L7 (au out) (.pv (M8 ys))=some (au (out++ys),[.arr 2 ((out++ys).map I3) false,x]):=by
 have:=X5 (σ:=[.arr 2 (out.map I3) false,x]) (id:=0) (es:=2) (ver:=out.length) (xs:=out.map I3) (ys:=ys.map I3) (fz:=false) (ei:=L7) (x:=.pv (M8 ys)) rfl rfl (List.length_map _).symm rfl (by
  simp only[Y0,List.all_eq_true,List.mem_map]
  rintro x ⟨r,_,rfl⟩
  rfl) ⟨by rw[List.length_map,List.length_map];omega,by rw[List.length_map,List.length_map];show (out.length+ys.length)*24≤_;omega⟩
 have e:out.map I3++ys.map I3=(out++ys).map I3:=by simp
 have e2:(out.map I3).length+(ys.map I3).length=(out++ys).length:=by simp
 rw[this,e,e2]
 rfl
theorem Us(L:Laid w0.w){out run v:List Row}(ho:out.length+run.length≤16777216)(hv:(out++G8 2 run)++G8 3 run=v):
  C6.n33 (C6.X w0 0) w0 0 (fun r' _=>r' = .pv (M8 v)) (srS out run false) (au out) (Mx run):=by
 have k2:=Bi run
 refine C6.n33_in ?_
 rw[C6.b33_eq]
 refine A1.freeze (id:=1) (es:=2) (xs:=run.map I3) (fz:=false) rfl (.cons (.row _ (List.length_map _).symm) (.cons (.same _) .nil)) ?_
 refine ju L (by omega) ?_
 refine J4 (og (by omega)) ?_
 refine A1.freeze (id:=1) (es:=2) (xs:=run.map I3) (fz:=true) rfl (.cons (.row _ (List.length_map _).symm) (.cons (.same _) .nil)) ?_
 refine ju L (by omega) ?_
 refine J4 (og (by rw[List.length_append];omega)) ?_
 rw[hv]
 have e:gu 0 ([]++srS v run true) (au v)=some (.pv (M8 v)):=by
  show (if (v.map I3).length=v.length∧0+v.length≤v.length then some (AV.pv (.sl (((v.map I3).drop 0).take v.length))) else none)=_
  rw[if_pos ⟨List.length_map _,by omega⟩]
  simp[List.take_of_length_le]
 exact U9 (σ:=[]) O3 rfl e rfl
theorem pr(L:Laid w0.w){l v:List Row}(hl:l.length≤16777216):∀(r:List Row) (i:Nat) (run out:List Row),l.drop i=r→i≤l.length→out.length+run.length≤i→S0 r run out=v →
  C6.n8 (C6.X w0 0) w0 0 (fun r' _=>r' = .pv (M8 v)) (srS out run false) (.pv (M8 l)) (au out) (Mx run) i
 | [],i,run,out,hd,hi,ho,he=>by
  have hk:=N5 hd
  refine C6.n8_in ?_
  rw[C6.b9_eq]
  repeat ((with_reducible first|apply A0|apply wI|apply wT|apply wP|apply wS|apply wB);exact rfl)
  rw[A8,List.length_map,if_neg (by omega)]
  exact Us L (by omega) he
 | c::r,i,run,out,hd,hi,ho,he=>by
  obtain ⟨h1,h2,hk⟩:=G7 hd
  have k2:=Bi run
  have h20:∀t,t=decide (c.k=2∨c.k=3)→C6.n20 (C6.X w0 0) w0 0 (fun r' _=>r' = .pv (M8 v)) (srS out run false) (.pv (M8 l)) (au out) (Mx run) i t:=by
   intro t ht
   refine C6.n20_in ?_
   rw[C6.b20_eq]
   rw[S0] at he
   refine A7 (fun g=>?_) (fun g=>?_)
   ·rw[if_pos (by rw[g] at ht;exact of_decide_eq_true ht.symm)] at he
    refine A0 (O1 df (qd h1) rfl) ?_
    refine A0 (v:=.pv (I3 c)) rfl ?_
    refine J4 (v:=.pv (.sl [I3 c])) rfl ?_
    refine J4 (X5 (id:=1) (es:=2) (ver:=run.length) (xs:=run.map I3) (ys:=[I3 c]) rfl rfl (List.length_map _).symm rfl rfl ⟨by rw[List.length_map];show run.length+1≤_;omega,by rw[List.length_map];show (run.length+1)*24≤_;omega⟩) ?_
    have e:run.map I3 ++ [I3 c]=(run ++ [c]).map I3:=by simp
    have e2:(run.map I3).length + [I3 c].length=(run ++ [c]).length:=by simp
    rw[e,e2]
    refine C6.n32_in ?_
    rw[C6.b32_eq,J3 hk (by omega)]
    exact pr L hl r (i+1) (run ++ [c]) out h2 (by omega) (by rw[List.length_append,List.length_singleton];omega) he
   ·rw[if_neg (by rw[g] at ht;exact of_decide_eq_false ht.symm)] at he
    refine A1.freeze (id:=1) (es:=2) (xs:=run.map I3) (fz:=false) rfl (.cons (.row _ (List.length_map _).symm) (.cons (.same _) .nil)) ?_
    refine ju L (by omega) ?_
    refine J4 (og (by omega)) ?_
    refine A1.freeze (id:=1) (es:=2) (xs:=run.map I3) (fz:=true) rfl (.cons (.row _ (List.length_map _).symm) (.cons (.same _) .nil)) ?_
    refine ju L (by omega) ?_
    refine J4 (og (by rw[List.length_append];omega)) ?_
    refine A0 (O1 df (qd h1) rfl) ?_
    refine A0 (v:=.pv (I3 c)) rfl ?_
    refine J4 (v:=.pv (M8 [c])) rfl ?_
    refine J4 (og (by simp only[List.length_append,List.length_singleton];omega)) ?_
    refine C6.n32_in ?_
    rw[C6.b32_eq,J3 hk (by omega)]
    generalize hO:((out++G8 2 run)++G8 3 run) ++ [c]=o2 at he
    have ho2:o2.length≤i+1:=by rw[← hO];simp only[List.length_append,List.length_singleton];omega
    refine C6.n8_weak (M5.drop (τ:=[.arr 2 (o2.map I3) false]) O3 (Nat.le_of_ble_eq_true rfl) rfl rfl) ?_
    refine C6.n8_weak (l_':=.pv (M8 l)) (out':=au o2) (run':=Mx []) (i':=((i+1:Nat):Int)) (τ:=srS o2 [] false) (M5.nil (t:=4) (es:=2) rfl rfl) ?_
    exact pr L hl r (i+1) [] o2 h2 (by omega) (by simpa using ho2) he
  refine C6.n8_in ?_
  rw[C6.b9_eq]
  repeat ((with_reducible first|apply A0|apply wI|apply wT|apply wP|apply wS|apply wB);exact rfl)
  rw[A8,List.length_map,if_pos (by omega)]
  refine A0 (O1 df (qd h1) rfl) ?_
  repeat ((with_reducible first|apply A0|apply wI|apply wT|apply wP|apply wS|apply wB);exact rfl)
  rw[H6]
  refine B6 (fun g=>?_) (fun g=>?_)
  ·generalize hb:true=b
   exact h20 b (by rw[← hb];simp[g])
  ·refine A0 (O1 df (qd h1) rfl) ?_
   repeat ((with_reducible first|apply A0|apply wI|apply wT|apply wP|apply wS|apply wB);exact rfl)
   refine h20 _ ?_
   simp[g]
   rfl
def sortF(l:List Row):List Row:=S0 l [] []
theorem Kq(L:Laid w0.w){l:List Row}(hl:l.length≤16777216)(hR:R (.pv (M8 (sortF l))) σ):A1 (cx w0) C6.id [.pv (M8 l)] σ R:=by
 refine A1.alone L rfl (fun w1 L1=>?_) rfl hR
 refine C6.calls ?_
 rw[C6.b0_eq]
 refine C6.n8_weak (l_':=.pv (M8 l)) (out':=au []) (run':=.nilsl) (i':=0) (τ:=[.arr 2 [] false]) (M5.nil (t:=3) (es:=2) rfl rfl) ?_
 refine C6.n8_weak (l_':=.pv (M8 l)) (out':=au []) (run':=Mx []) (i':=0) (τ:=srS [] [] false) (M5.nil (t:=4) (es:=2) rfl rfl) ?_
 exact pr L1 hl l 0 [] [] rfl (by omega) (by simp) rfl
end
end Go.Sv
end
section
namespace Go.Sv
def X3(kd:Int):List Row→List UInt8→List Mkd
 | r::l,c::m=>(if r.k=1∨r.k=kd then [⟨c,r.t⟩] else [])++X3 kd l m
 | _,_=>[]
theorem Hj{kd:Int}{rest:List Row}{mrest:List UInt8}:∀(run:List Row) (mr:List UInt8),run.length=mr.length→X3 kd (run++rest) (mr++mrest)=X3 kd run mr++X3 kd rest mrest
 | [],[],_=>rfl
 | r::l,c::m,h=>by
  have ih:=Hj (kd:=kd) (rest:=rest) (mrest:=mrest) l m (by simpa using h)
  rw[List.cons_append,List.cons_append,X3,X3,ih,List.append_assoc]
 | [],_::_,h=>by simp at h
 | _::_,[],h=>by simp at h
theorem Gm{kd:Int}{f:Row→UInt8}:∀run:List Row,(∀ x∈run,x.k≠1)→X3 kd run (run.map f)=(G8 kd run).map (fun x=>⟨f x,x.t⟩)
 | [],_=>rfl
 | r::l,h=>by
  have ih:=Gm (kd:=kd) (f:=f) l (fun x hx=>h x (List.mem_cons_of_mem _ hx))
  have h1:=h r (by simp)
  rw[List.map_cons,X3,ih]
  unfold G8
  rw[List.filter_cons]
  by_cases e:r.k=kd
  ·rw[if_pos (.inr e),if_pos (by simpa using e)];rfl
  ·rw[if_neg (fun h=>h.elim h1 e),if_neg (by simpa using e)];rfl
theorem Nx{rest:List Mkd}(hr:rest = [] ∨ ∃y r,rest=y::r∧y.m=32):∀g:List Mkd,(∀ x∈g,x.m≠32)→tkM (g++rest)=g∧tdM (g++rest)=rest
 | [],_=>by
  rcases hr with rfl|⟨y,r,rfl,hy⟩
  ·exact ⟨rfl,rfl⟩
  ·exact ⟨by unfold tkM;simp[hy],by unfold tdM;simp[hy]⟩
 | x::g,h=>by
  obtain ⟨i1,i2⟩:=Nx hr g (fun y hy=>h y (List.mem_cons_of_mem _ hy))
  have hx:=h x (by simp)
  unfold tkM at i1
  unfold tdM at i2
  refine ⟨?_,?_⟩
  ·unfold tkM
   rw[List.cons_append,List.takeWhile_cons,if_pos (by simpa using hx),i1]
  ·unfold tdM
   rw[List.cons_append,List.dropWhile_cons,if_pos (by simpa using hx),i2]
theorem Af{k:Int}(hk:k≠1):∀L:List Row,Q5 k L = !(G8 k (L.take (W3 L))).isEmpty
 | []=>rfl
 | r::l=>by
  unfold Q5 W3
  by_cases e:r.k=1
  ·rw[if_pos e,if_pos e];rfl
  ·rw[if_neg e,if_neg e,Af hk l,List.take_succ_cons]
   unfold G8
   rw[List.filter_cons]
   by_cases e2:r.k=k
   ·rw[if_pos (by simpa using e2)];simp[e2]
   ·rw[if_neg (by simpa using e2)];simp[e2]
theorem Sk:∀(n:Nat) (L:List Row),L.length≤n → ∃n',(L.drop (W3 L)).length≤n'∧O8 n L=(L.take (W3 L)).map (fun x=>V2 (Q5 2 L) (Q5 3 L) x.k)++O8 n' (L.drop (W3 L))
 | n,[],_=>⟨n,by simp,by cases n<;>rfl⟩
 | 0,r::l,h=>by simp at h
 | n+1,r::l,h=>by
  by_cases e:r.k=1
  ·refine ⟨n+1,by simp only[List.length_drop];omega,?_⟩
   have:W3 (r::l)=0:=by unfold W3;rw[if_pos e]
   rw[this];rfl
  ·refine ⟨n,?_,?_⟩
   ·have:1≤W3 (r::l):=by unfold W3;rw[if_neg e];omega
    rw[List.length_drop];simp only[List.length_cons] at h ⊢;omega
   ·rw[O8,if_neg e]
theorem Zs{A B:List Row}(hA:∀x∈A,x.k=2)(hB:∀x∈B,x.k=3):ud (A.map (fun x=>⟨V2 (!A.isEmpty) (!B.isEmpty) x.k,x.t⟩)) (B.map (fun x=>⟨V2 (!A.isEmpty) (!B.isEmpty) x.k,x.t⟩))=true:=by
 have only:∀(l:List Row) (f:Row→UInt8) (m:UInt8),l ≠ []→(∀ x∈l,f x=m)→nv (l.map (fun x=>⟨f x,x.t⟩)) m=true:=by
  intro l f m h1 h2
  unfold nv
  rw[Bool.and_eq_true]
  refine ⟨?_,by cases l with|nil=>exact absurd rfl h1|cons a r=>rfl⟩
  rw[List.all_eq_true]
  intro y hy
  obtain ⟨x,hx,rfl⟩:=List.mem_map.1 hy
  simpa using h2 x hx
 unfold ud
 cases hA0:A with
 | nil=>
  cases hB0:B with
  | nil=>rfl
  | cons b B'=>
   rw[← hB0]
   have h:=only B (fun x=>V2 (!([]:List Row).isEmpty) (!B.isEmpty) x.k) 43 (by rw[hB0];simp) (fun x hx=>by rw[hB x hx];rfl)
   rw[h];simp
 | cons a A'=>
  rw[← hA0]
  have hAe:A.isEmpty=false:=by rw[hA0];rfl
  cases hB0:B with
  | nil=>
   have h:=only A (fun x=>V2 (!A.isEmpty) (!([]:List Row).isEmpty) x.k) 45 (by rw[hA0];simp) (fun x hx=>by rw[hA x hx,hAe];rfl)
   rw[h];simp
  | cons b B'=>
   rw[← hB0]
   have hBe:B.isEmpty=false:=by rw[hB0];rfl
   have h:=only A (fun x=>V2 (!A.isEmpty) (!B.isEmpty) x.k) 33 (by rw[hA0];simp) (fun x hx=>by rw[hA x hx,hAe,hBe];rfl)
   have h':=only B (fun x=>V2 (!A.isEmpty) (!B.isEmpty) x.k) 33 (by rw[hB0];simp) (fun x hx=>by rw[hB x hx,hAe,hBe];rfl)
   rw[h,h'];simp
theorem gy{k:Int}{l:List Row}:∀x∈G8 k l,x.k=k:=fun x hx=>by
 unfold G8 at hx
 simpa using (List.mem_filter.1 hx).2
theorem Ik{A B:List Row}{f g:Row→UInt8}(hA:∀x∈A,x.k=2)(hB:∀x∈B,x.k=3):bv (A.map (fun x=>⟨f x,x.t⟩)) (B.map (fun x=>⟨g x,x.t⟩))=A++B:=by
 have key:∀(l:List Row) (h:Row→UInt8) (k:Int),(∀ x∈l,x.k=k)→(l.map (fun x=>(⟨h x,x.t⟩:Mkd))).map (fun x=>(⟨k,x.t⟩:Row))=l:=by
  intro l h k hl
  rw[List.map_map]
  conv=>rhs;rw[← List.map_id l]
  refine List.map_congr_left fun x hx=>?_
  show (⟨k,x.t⟩:Row)=x
  rw[← hl x hx]
 unfold bv
 rw[key A f 2 hA,key B g 3 hB]
theorem tz:∀(run:List Row) (rest acc out:List Row),(∀ x∈run,x.k=2∨x.k=3)→S0 (run++rest) acc out=S0 rest (acc++run) out
 | [],rest,acc,out,_=>by simp
 | r::l,rest,acc,out,h=>by
  rw[List.cons_append,S0,if_pos (h r (by simp)),tz l rest (acc ++ [r]) out (fun x hx=>h x (List.mem_cons_of_mem _ hx))]
  simp
theorem Rm(o f:Bool)(k:Int):V2 o f k≠32:=by
 unfold V2
 split
 ·decide
 ·split<;>decide
theorem Fo:∀(f n:Nat) (L out:List Row),(G8 1 L).length<f→L.length≤n→(∀ x∈L,x.k=1∨x.k=2∨x.k=3)→tf f (X3 2 L (O8 n L)) (X3 3 L (O8 n L)) out=some (S0 L [] out)
 | 0,_,_,_,h,_,_=>absurd h (Nat.not_lt_zero _)
 | f+1,n,L,out,hf,hn,hk=>by
  obtain ⟨n',hn',hm⟩:=Sk n L hn
  have hstop:=wt L
  have hL:L.take (W3 L)++L.drop (W3 L)=L:=List.take_append_drop _ _
  have hlen:=congrArg List.length hL
  rw[List.length_append] at hlen
  have hrun:∀x∈L.take (W3 L),x.k≠1:=by
   intro x hx
   obtain ⟨i,hi,rfl⟩:=List.mem_iff_getElem.1 hx
   rw[List.length_take] at hi
   rw[List.getElem_take]
   exact zv L i _ (by omega) (List.getElem?_eq_getElem (by omega))
  have h2:=Af (k:=2) (by decide) L
  have h3:=Af (k:=3) (by decide) L
  generalize hr:L.take (W3 L)=run at *
  generalize hq:L.drop (W3 L)=rest at *
  have hks:∀x∈run,x.k=2∨x.k=3:=fun x hx=>(hk x (by rw[← hL];exact List.mem_append_left _ hx)).resolve_left (hrun x hx)
  have pm:∀kd,X3 kd L (O8 n L)=(G8 kd run).map (fun x=>⟨V2 (Q5 2 L) (Q5 3 L) x.k,x.t⟩)++X3 kd rest (O8 n' rest):=by
   intro kd
   rw[hm]
   have:=Hj (kd:=kd) (rest:=rest) (mrest:=O8 n' rest) run (run.map (fun x=>V2 (Q5 2 L) (Q5 3 L) x.k)) (by simp)
   rw[hL] at this
   rw[this,Gm run hrun]
  have hne:∀kd,∀x∈(G8 kd run).map (fun x=>(⟨V2 (Q5 2 L) (Q5 3 L) x.k,x.t⟩:Mkd)),x.m≠32:=by
   intro kd x hx
   obtain ⟨y,_,rfl⟩:=List.mem_map.1 hx
   exact Rm _ _ _
  have hok:=Zs (A:=G8 2 run) (B:=G8 3 run) gy gy
  rw[← h2,←h3] at hok
  have hrr:=Ik (A:=G8 2 run) (B:=G8 3 run) (f:=fun x=>V2 (Q5 2 L) (Q5 3 L) x.k) (g:=fun x=>V2 (Q5 2 L) (Q5 3 L) x.k) gy gy
  rw[pm 2,pm 3]
  have hs:S0 L [] out=S0 rest run out:=by
   rw[← hL,tz run rest [] out hks,List.nil_append]
  rw[hs]
  rcases hstop with e|⟨c,q,e,hc⟩
  ·subst e
   have z:∀kd,X3 kd [] (O8 n' []) = []:=fun kd=>by cases n'<;>rfl
   rw[z 2,z 3]
   obtain ⟨t1,t2⟩:=Nx (rest:=[]) (.inl rfl) _ (hne 2)
   obtain ⟨t3,t4⟩:=Nx (rest:=[]) (.inl rfl) _ (hne 3)
   rw[tf,t1,t2,t3,t4,if_pos hok,hrr]
   simp[S0]
  ·subst e
   cases n' with
   | zero=>simp at hn'
   | succ n2=>
    have z:∀kd,X3 kd (c::q) (O8 (n2+1) (c::q))=⟨32,c.t⟩::X3 kd q (O8 n2 q):=fun kd=>by
     rw[O8,if_pos hc,X3,if_pos (.inl hc)];rfl
    rw[z 2,z 3]
    obtain ⟨t1,t2⟩:=Nx (rest:=⟨32,c.t⟩::X3 2 q (O8 n2 q)) (.inr ⟨_,_,rfl,rfl⟩) _ (hne 2)
    obtain ⟨t3,t4⟩:=Nx (rest:=⟨32,c.t⟩::X3 3 q (O8 n2 q)) (.inr ⟨_,_,rfl,rfl⟩) _ (hne 3)
    rw[tf,t1,t2,t3,t4,if_pos hok,hrr]
    simp only[if_true]
    have hce:(⟨1,c.t⟩:Row)=c:=by rw[← hc]
    simp only[List.length_cons] at hlen hn'
    have hk1:(G8 1 q).length<(G8 1 L).length:=by
     rw[← hL]
     unfold G8
     rw[List.filter_append,List.filter_cons,if_pos (by simpa using hc)]
     simp only[List.length_append,List.length_cons];omega
    rw[Fo f n2 q _ (by omega) (by omega) (fun x hx=>hk x (by rw[← hL];simp[hx])),hce,S0,if_neg (by rw[hc];decide)]
    simp
theorem vt{kd:Int}:∀(L:List Row) (m:List UInt8),L.length=m.length→(G8 1 L).length≤(X3 kd L m).length
 | [],[],_=>Nat.le_refl _
 | r::l,c::m,h=>by
  have ih:=vt (kd:=kd) l m (by simpa using h)
  unfold G8 at ih ⊢
  rw[List.filter_cons,X3,List.length_append]
  by_cases e:r.k=1
  ·rw[if_pos (by simpa using e),if_pos (.inl e)];simp only[List.length_cons,List.length_nil];omega
  ·rw[if_neg (by simpa using e)];omega
 | [],_::_,h=>by simp at h
 | _::_,[],h=>by simp at h
theorem Bn{kd kd':Int}:∀(L:List Row) (m:List UInt8),L.length=m.length→(∀ (i:Nat) r c,L[i]? = some r→m[i]? = some c→(c=32↔r.k=1))→(∀ x∈L,x.k≠kd)→sj (X3 kd' L m)=X3 kd L m
 | [],[],_,_,_=>rfl
 | r::l,c::m,h,hm,hk=>by
  have ih:=Bn (kd:=kd) (kd':=kd') l m (by simpa using h) (fun i r c h1 h2=>hm (i+1) r c (by simpa using h1) (by simpa using h2)) (fun x hx=>hk x (List.mem_cons_of_mem _ hx))
  have h0:=hm 0 r c rfl rfl
  have hk0:=hk r (by simp)
  unfold sj at ih ⊢
  rw[X3,X3,List.filter_append,ih]
  congr 1
  by_cases e:r.k=1
  ·rw[if_pos (.inl e),if_pos (.inl e),List.filter_cons,if_pos (by simpa using h0.2 e)];rfl
  ·rw[if_neg (show ¬(r.k=1∨r.k=kd) from fun h=>h.elim e hk0)]
   split
   ·rw[List.filter_cons,if_neg (by simpa using fun h=>e (h0.1 h))];rfl
   ·rfl
 | [],_::_,h,_,_=>by simp at h
 | _::_,[],h,_,_=>by simp at h
def iv(kd:Int)(L:List Row)(m:List UInt8):List Mkd:=if ee kd L=true then X3 kd L m else []
theorem Ro{kd:Int}{L:List Row}(h:¬ee kd L=true):∀x∈L,x.k≠kd:=by
 intro x hx e
 refine h ?_
 unfold ee
 rw[List.any_eq_true]
 exact ⟨x,hx,by simpa using e⟩
theorem qv{kd:Int}:∀(L:List Row) (m:List UInt8),L.length=m.length→ee kd L=true→X3 kd L m ≠ []
 | [],_,_,h=>by simp[ee] at h
 | r::l,[],h,_=>by simp at h
 | r::l,c::m,h,ha=>by
  rw[X3]
  by_cases e:r.k=1∨r.k=kd
  ·rw[if_pos e];simp
  ·rw[if_neg e,List.nil_append]
   refine qv l m (by simpa using h) ?_
   unfold ee at ha ⊢
   rw[List.any_cons] at ha
   have:(r.k==kd)=false:=by simpa using fun h=>e (.inr h)
   rwa [this,Bool.false_or] at ha
theorem Kx(L:List Row):L.length=(O8 L.length L).length ∧ ∀(i:Nat) r c,L[i]? = some r→(O8 L.length L)[i]? = some c→(c=32↔r.k=1):=by
 obtain ⟨a,b⟩:=pu L.length [] L (Nat.le_refl _) (.inl rfl)
 refine ⟨a.symm,fun i r c h1 h2=>?_⟩
 rw[b i r h1,Option.some.injEq] at h2
 rw[← h2]
 unfold Bo
 split
 ·rename_i h;exact ⟨fun _=>h,fun _=>rfl⟩
 ·rename_i h;exact ⟨fun e=>absurd e (Rm _ _ _),fun e=>absurd e h⟩
theorem Sw(L:List Row)(hk:∀x∈L,x.k=1∨x.k=2∨x.k=3)(hany:ee 2 L=true∨ee 3 L=true):rd (iv 2 L (O8 L.length L)) (iv 3 L (O8 L.length L))=some (S0 L [] []):=by
 obtain ⟨hl,hm⟩:=Kx L
 have t:=fun f hf=>Fo f L.length L [] hf (Nat.le_refl _) hk
 have p2:=vt (kd:=2) L _ hl
 have p3:=vt (kd:=3) L _ hl
 unfold iv rd
 by_cases a2:ee 2 L=true
 ·have n2:=qv (kd:=2) L _ hl a2
  by_cases a3:ee 3 L=true
  ·have n3:=qv (kd:=3) L _ hl a3
   rw[if_pos a2,if_pos a3,if_neg (fun h=>n2 h.1),if_neg n2,if_neg n3]
   exact t _ (by omega)
  ·rw[if_pos a2,if_neg a3,if_neg (fun h=>n2 h.1),if_neg n2,if_pos rfl,Bn (kd:=3) L _ hl hm (Ro a3)]
   exact t _ (by omega)
 ·have a3:ee 3 L=true:=hany.resolve_left a2
  have n3:=qv (kd:=3) L _ hl a3
  rw[if_neg a2,if_pos a3,if_neg (fun h=>n3 h.2),if_pos rfl,Bn (kd:=2) L _ hl hm (Ro a2)]
  exact t _ (by omega)
end Go.Sv
end
section
namespace Go.Sv
theorem Iq(x:Mkd):(Z6 x).flatten=x.m::32::cy x.t:=by
 unfold Z6 cy
 split<;>simp
theorem Dk{kd:Int}:∀(L:List Row) (m:List UInt8),jm kd L m=((X3 kd L m).flatMap Z6).flatten
 | [],[]=>rfl
 | [],_::_=>rfl
 | _::_,[]=>rfl
 | r::l,c::m=>by
  rw[jm,X3,Dk l m,List.flatMap_append,List.flatten_append]
  congr 1
  split
  ·rw[List.flatMap_cons,List.flatMap_nil,List.append_nil,Iq]
  ·rfl
theorem Bx{kd:Int}(L:List Row)(m:List UInt8):Bg kd L m=((iv kd L m).flatMap Z6).flatten:=by
 unfold Bg iv
 split
 ·exact Dk L m
 ·rfl
def ej(h:Hnk):List Ln:=
 (Z0 h ++ [10])::([42,42,42,32]++(X0 h.a h.n++([32,42,42,42,42] ++ [10])))::((iv 2 h.rows (O8 h.rows.length h.rows)).flatMap Z6 ++
  ([45,45,45,32]++(X0 h.b h.m++([32,45,45,45,45] ++ [10])))::(iv 3 h.rows (O8 h.rows.length h.rows)).flatMap Z6)
theorem Mo(h:Hnk):(ej h).flatten=jk h:=by
 unfold ej jk
 rw[Bx,Bx]
 simp
theorem xh{kd:Int}{kind:UInt8}:∀(L:List Row) (m:List UInt8),(∀ (i:Nat) r c,L[i]? = some r→m[i]? = some c→r.k=1∨r.k=kd→c=32∨c=kind∨c=33) → ∀x∈X3 kd L m,(x.m=32∨x.m=kind∨x.m=33) ∧ ∃r∈L,x.t=r.t
 | [],[],_,x,hx=>by cases hx
 | [],_::_,_,x,hx=>by cases hx
 | _::_,[],_,x,hx=>by cases hx
 | r::l,c::m,h,x,hx=>by
  rw[X3] at hx
  rcases List.mem_append.1 hx with hx|hx
  ·split at hx
   ·rename_i e
    rw[List.mem_singleton] at hx
    rw[hx]
    exact ⟨h 0 r c rfl rfl e,r,by simp,rfl⟩
   ·cases hx
  ·obtain ⟨i1,y,hy,i2⟩:=xh l m (fun i r c h1 h2=>h (i+1) r c (by simpa using h1) (by simpa using h2)) x hx
   exact ⟨i1,y,List.mem_cons_of_mem _ hy,i2⟩
theorem oo{kd:Int}{kind:UInt8}(hk:(kd=2∧kind=45)∨(kd=3∧kind=43))(L:List Row):∀x∈iv kd L (O8 L.length L),(x.m=32∨x.m=kind∨x.m=33) ∧ ∃r∈L,x.t=r.t:=by
 obtain ⟨a,b⟩:=pu L.length [] L (Nat.le_refl _) (.inl rfl)
 intro x hx
 unfold iv at hx
 split at hx
 ·refine xh L _ (fun i r c h1 h2 h3=>?_) x hx
  rw[b i r h1,Option.some.injEq] at h2
  rw[← h2]
  unfold Bo V2
  rcases h3 with e|e
  ·rw[if_pos e];exact .inl rfl
  ·rw[e]
   rcases hk with ⟨rfl,rfl⟩|⟨rfl,rfl⟩
   ·rw[if_neg (by decide)]
    split
    ·exact .inr (.inr rfl)
    ·exact .inr (.inl rfl)
   ·rw[if_neg (by decide)]
    split
    ·exact .inr (.inr rfl)
    ·exact .inr (.inl rfl)
 ·cases hx
theorem mg:∀(l run out:List Row),S0 l run out=out++S0 l run []
 | [],run,out=>by simp[S0]
 | r::l,run,out=>by
  rw[S0,S0]
  split
  ·exact mg l (run ++ [r]) out
  ·rw[mg l [] (((out++G8 2 run)++G8 3 run) ++ [r]),mg l [] ((([]++G8 2 run)++G8 3 run) ++ [r])]
   simp
theorem qt(k:Int)(a b:List Row):G8 k (a++b)=G8 k a++G8 k b:=List.filter_append ..
theorem mw{k:Int}{l:List Row}(h:∀x∈l,x.k=k):G8 k l=l:=by
 unfold G8
 rw[List.filter_eq_self]
 intro x hx
 simpa using h x hx
theorem nd{k:Int}{l:List Row}(h:∀x∈l,x.k≠k):G8 k l = []:=by
 unfold G8
 rw[List.filter_eq_nil_iff]
 intro x hx
 simpa using h x hx
theorem su:∀(l run:List Row),S0 (S0 l run []) [] []=S0 l run []
 | [],run=>by
  have h2:∀x∈G8 2 run,x.k=2:=gy
  have h3:∀x∈G8 3 run,x.k=3:=gy
  have e:S0 [] run []=(G8 2 run++G8 3 run) ++ []:=by simp[S0]
  rw[e,tz (G8 2 run++G8 3 run) [] [] [] (fun x hx=>(List.mem_append.1 hx).imp (h2 x) (h3 x)),List.nil_append,S0,List.nil_append,qt,qt,mw h2,mw h3,nd (k:=2) (l:=G8 3 run) (fun x hx=>by rw[h3 x hx];decide),nd (k:=3) (l:=G8 2 run) (fun x hx=>by rw[h2 x hx];decide)]
  simp
 | r::l,run=>by
  by_cases e:r.k=2∨r.k=3
  ·rw[S0,if_pos e]
   exact su l (run ++ [r])
  ·have h2:∀x∈G8 2 run,x.k=2:=gy
   have h3:∀x∈G8 3 run,x.k=3:=gy
   have ih:=su l []
   have e0:S0 (r::l) run []=(G8 2 run++G8 3 run)++(r::S0 l [] []):=by
    rw[S0,if_neg e,mg l [] ((([]++G8 2 run)++G8 3 run) ++ [r])]
    simp
   have k2:G8 2 ([]++(G8 2 run++G8 3 run))=G8 2 run:=by
    rw[List.nil_append,qt,mw h2,nd (k:=2) (l:=G8 3 run) (fun x hx=>by rw[h3 x hx];decide),List.append_nil]
   have k3:G8 3 ([]++(G8 2 run++G8 3 run))=G8 3 run:=by
    rw[List.nil_append,qt,mw h3,nd (k:=3) (l:=G8 2 run) (fun x hx=>by rw[h2 x hx];decide),List.nil_append]
   rw[e0,tz (G8 2 run++G8 3 run) _ [] [] (fun x hx=>(List.mem_append.1 hx).imp (h2 x) (h3 x)),S0,if_neg e,k2,k3,mg (S0 l [] []) [] ((([]++G8 2 run)++G8 3 run) ++ [r]),ih]
   simp
theorem Gq:∀(l:List Row) (e o c:Bool),Y6 l e o c=true→(∀ r∈l,r.k=1∨r.k=2∨r.k=3)∧(c=true∨ee 2 l=true∨ee 3 l=true)
 | [],_,_,c,h=>⟨by simp,.inl h⟩
 | r::l,e,o,c,h=>by
  rw[Y6] at h
  split at h
  ·cases h
  ·rename_i hb
   obtain ⟨i1,i2⟩:=Gq l _ _ _ h
   have hk:r.k=1∨r.k=2∨r.k=3:=by
    unfold lh V3 U3 at hb
    simp only[Bool.or_eq_true,Bool.and_eq_true,Bool.not_eq_true',Bool.or_eq_false_iff,beq_eq_false_iff_ne,not_or] at hb
    by_cases h1:r.k=1
    ·exact .inl h1
    ·by_cases h2:r.k=2
     ·exact .inr (.inl h2)
     ·by_cases h3:r.k=3
      ·exact .inr (.inr h3)
      ·exact absurd ⟨⟨h1,h2⟩,h1,h3⟩ hb.1.1.1
   refine ⟨fun x hx=>?_,?_⟩
   ·rcases List.mem_cons.1 hx with rfl|hx
    ·exact hk
    ·exact i1 x hx
   ·unfold ee at i2 ⊢
    rw[List.any_cons,List.any_cons]
    rcases i2 with i2|i2|i2
    ·cases hc:c with
     | true=>exact .inl rfl
     | false=>
      rw[hc] at i2
      have h1:r.k≠1:=by simpa using i2
      rcases hk with h|h|h
      ·exact absurd h h1
      ·exact .inr (.inl (by rw[h];rfl))
      ·exact .inr (.inr (by rw[h];rfl))
    ·exact .inr (.inl (by rw[i2,Bool.or_true]))
    ·exact .inr (.inr (by rw[i2,Bool.or_true]))
theorem Pw{x:Mkd}(h:X1 x.t=true)(hm:x.m≠10):∀l∈Z6 x,wl l:=by
 intro l hl
 have hne:x.t ≠ []:=fun e=>by rw[e] at h;simp[X1] at h
 have h2:∀c∈([x.m,32]:Ln),c≠10:=by
  intro c hc
  rcases List.mem_cons.1 hc with rfl|hc
  ·exact hm
  ·rw[List.mem_singleton] at hc;rw[hc];decide
 have e:∀t:Ln,x.m::32::t = [x.m,32]++t:=fun t=>rfl
 unfold Z6 at hl
 split at hl
 ·rename_i hw
  rw[List.mem_singleton] at hl;rw[hl,e]
  exact ⟨N9 _ _ h2 h,by rw[K2 hne];exact hw⟩
 ·rename_i hw
  have hp:=Hd h (by simpa using hw)
  rcases List.mem_cons.1 hl with hl|hl
  ·rw[hl,e]
   exact ⟨N9 _ _ h2 (N9 _ _ hp rfl),by rw[K2 (by simp),K2 (by simp)];rfl⟩
  ·rw[List.mem_singleton] at hl;rw[hl];exact ⟨rfl,rfl⟩
theorem vl{a:Int}(h0:0≤a):∀x∈Lib.itoa a,x≠10:=by
 obtain ⟨u,rfl⟩:∃u:Nat,a=u:=⟨a.toNat,by omega⟩
 have e:Lib.itoa (u:Int)=Lib.decDigits u:=by unfold Lib.itoa;rw[if_neg (by omega)];simp
 rw[e]
 intro x hx h
 have:=List.all_eq_true.1 (vw u).1 x hx
 rw[h] at this
 exact absurd this (by decide)
theorem Oy{a n:Int}(h0:0≤a)(h2:0≤n):∀x∈X0 a n,x≠10:=by
 unfold X0
 split
 ·exact vl h0
 ·intro x hx
  simp only[List.mem_append,List.mem_singleton] at hx
  rcases hx with (hx|rfl)|hx
  ·exact vl h0 x hx
  ·decide
  ·exact vl (by omega) x hx
theorem Vx{s:Ln}(h:∀c∈s,c≠10):wl (s ++ [10]):=⟨N9 _ _ h rfl,by rw[K2 (by simp)];rfl⟩
theorem Sp{h:Hnk}(hh:∀c∈h.head,c≠10)(ha:0≤h.a)(hn:0≤h.n)(hb:0≤h.b)(hm:0≤h.m)(hr:∀r∈h.rows,X1 r.t=true):∀l∈ej h,wl l:=by
 have part:∀(kd:Int) (kind:UInt8),((kd=2∧kind=45)∨(kd=3∧kind=43)) → ∀l∈(iv kd h.rows (O8 h.rows.length h.rows)).flatMap Z6,wl l:=by
  intro kd kind hk l hl
  obtain ⟨x,hx,hl⟩:=List.mem_flatMap.1 hl
  obtain ⟨m1,r,hr1,hr2⟩:=oo hk h.rows x hx
  refine Pw (by rw[hr2];exact hr r hr1) ?_ l hl
  rcases m1 with e|e|e
  ·rw[e];decide
  ·rw[e];rcases hk with ⟨_,rfl⟩|⟨_,rfl⟩<;>decide
  ·rw[e];decide
 have span:∀(p q:Ln) (a n:Int),(∀ c∈p,c≠10)→(∀ c∈q,c≠10)→0≤a→0≤n→wl (p++(X0 a n++(q ++ [10]))):=by
  intro p q a n h1 h2 h3 h4
  have e:p++(X0 a n++(q ++ [10]))=(p++(X0 a n++q)) ++ [10]:=by simp
  rw[e]
  refine Vx fun c hc=>?_
  simp only[List.mem_append] at hc
  rcases hc with hc|hc|hc
  ·exact h1 c hc
  ·exact Oy h3 h4 c hc
  ·exact h2 c hc
 intro l hl
 unfold ej at hl
 simp only[List.mem_cons,List.mem_append] at hl
 rcases hl with rfl|rfl|hl|rfl|hl
 ·refine Vx fun c hc=>?_
  unfold Z0 at hc
  split at hc
  ·revert c;decide
  ·simp only[List.mem_append] at hc
   rcases hc with hc|hc|hc
   ·revert c;decide
   ·revert c;decide
   ·exact hh c hc
 ·exact span _ _ _ _ (by decide) (by decide) ha hn
 ·exact part 2 45 (.inl ⟨rfl,rfl⟩) l hl
 ·exact span _ _ _ _ (by decide) (by decide) hb hm
 ·exact part 3 43 (.inr ⟨rfl,rfl⟩) l hl
end Go.Sv
end
section
namespace Go.Sv
def bc(h:Hnk):Hnk:={ h with rows:=S0 h.rows [] [] }
theorem vm:∀run:List Row,(∀ x∈run,x.k=2∨x.k=3)→(G8 2 run++G8 3 run).Perm run
 | [],_=>List.Perm.nil
 | x::l,h=>by
  have ih:=vm l (fun y hy=>h y (List.mem_cons_of_mem _ hy))
  unfold G8 at ih ⊢
  rw[List.filter_cons,List.filter_cons]
  rcases h x (by simp) with e|e
  ·rw[if_pos (by simpa using e),if_neg (by simp[e])]
   exact ih.cons x
  ·rw[if_neg (by simp[e]),if_pos (by simpa using e)]
   exact List.perm_middle.trans (ih.cons x)
theorem vy:∀(l run out:List Row),(∀ x∈run,x.k=2∨x.k=3)→(S0 l run out).Perm (out++(run++l))
 | [],run,out,h=>by
  rw[S0,List.append_assoc,List.append_nil]
  exact (vm run h).append_left out
 | r::l,run,out,h=>by
  rw[S0]
  split
  ·rename_i e
   have:=vy l (run ++ [r]) out (fun x hx=>by
    rcases List.mem_append.1 hx with hx|hx
    ·exact h x hx
    ·rw[List.mem_singleton] at hx;rw[hx];exact e)
   simpa using this
  ·refine (vy l [] (((out++G8 2 run)++G8 3 run) ++ [r]) (by simp)).trans ?_
   have e:(((out++G8 2 run)++G8 3 run) ++ [r])++([]++l)=out++((G8 2 run++G8 3 run)++(r::l)):=by simp
   rw[e]
   exact ((vm run h).append_right _).append_left _
theorem tu(L:List Row):(S0 L [] []).Perm L:=by
 have:=vy L [] [] (by simp)
 simpa using this
def RQ(a b:List Row):Prop:=∀e o c,Y6 a e o c=Y6 b e o c
theorem RQ.trans{a b c:List Row}(h:RQ a b)(g:RQ b c):RQ a c:=fun e o d=>(h e o d).trans (g e o d)
theorem RQ.cons{a b:List Row}(r:Row)(h:RQ a b):RQ (r::a) (r::b):=by
 intro e o c
 rw[Y6,Y6]
 split
 ·rfl
 ·exact h _ _ _
theorem RQ.app{a b:List Row}(h:RQ a b):∀p:List Row,RQ (p++a) (p++b)
 | []=>h
 | r::p=>RQ.cons r (RQ.app h p)
theorem RQ.swap{a b:Row}(ha:a.k=3)(hb:b.k=2)(l:List Row):RQ (a::b::l) (b::a::l):=by
 intro e o c
 simp only[Y6,lh,ha,hb,V3,U3]
 generalize X1 a.t=la
 generalize X1 b.t=lb
 generalize L6 a.t=wa
 generalize L6 b.t=wb
 cases la<;>cases lb<;>cases wa<;>cases wb<;>cases e<;>cases o<;>simp
theorem Fg{x:Row}(hx:x.k=3):∀(A rest:List Row),(∀ y∈A,y.k=2)→RQ (x::(A++rest)) (A++(x::rest))
 | [],_,_=>fun _ _ _=>rfl
 | y::A,rest,h=>(RQ.swap hx (h y (by simp)) (A++rest)).trans (RQ.cons y (Fg hx A rest (fun z hz=>h z (List.mem_cons_of_mem _ hz))))
theorem Cv:∀run rest:List Row,(∀ x∈run,x.k=2∨x.k=3)→RQ (run++rest) (G8 2 run++(G8 3 run++rest))
 | [],_,_=>fun _ _ _=>rfl
 | x::l,rest,h=>by
  have ih:=Cv l rest (fun y hy=>h y (List.mem_cons_of_mem _ hy))
  have hk2:∀y∈G8 2 l,y.k=2:=gy
  rcases h x (by simp) with e|e
  ·have e2:G8 2 (x::l)=x::G8 2 l:=by unfold G8;rw[List.filter_cons,if_pos (by simpa using e)]
   have e3:G8 3 (x::l)=G8 3 l:=by unfold G8;rw[List.filter_cons,if_neg (by simp[e])]
   rw[e2,e3]
   exact RQ.cons x ih
  ·have e2:G8 2 (x::l)=G8 2 l:=by unfold G8;rw[List.filter_cons,if_neg (by simp[e])]
   have e3:G8 3 (x::l)=x::G8 3 l:=by unfold G8;rw[List.filter_cons,if_pos (by simpa using e)]
   rw[e2,e3]
   exact (RQ.cons x ih).trans (Fg e _ _ hk2)
theorem vk:∀(l run:List Row),(∀ x∈run,x.k=2∨x.k=3)→RQ (run++l) (S0 l run [])
 | [],run,h=>by
  have:=Cv run [] h
  rw[S0,List.nil_append]
  simpa using this
 | r::l,run,h=>by
  rw[S0]
  split
  ·rename_i e
   have:=vk l (run ++ [r]) (fun x hx=>by
    rcases List.mem_append.1 hx with hx|hx
    ·exact h x hx
    ·rw[List.mem_singleton] at hx;rw[hx];exact e)
   simpa using this
  ·rw[mg]
   have e:(((([]:List Row)++G8 2 run)++G8 3 run) ++ [r])++S0 l [] []=G8 2 run++(G8 3 run++(r::S0 l [] [])):=by simp
   rw[e]
   refine (Cv run (r::l) h).trans (RQ.app (RQ.app (RQ.cons r ?_) _) _)
   exact vk l [] (by simp)
theorem qo{f:Int→Bool}{a b:List Row}(h:a.Perm b):∀n,Y9 f a n=Y9 f b n:=by
 induction h with
 | nil=>intro n;rfl
 | cons x _ ih=>intro n;rw[Y9,Y9];exact ih _
 | swap x y l=>
  intro n
  rw[Y9,Y9,Y9,Y9]
  cases f x.k<;>cases f y.k<;>rfl
 | trans _ _ i1 i2=>intro n;exact (i1 n).trans (i2 n)
theorem Sn(h:Hnk):J2 (bc h)=J2 h:=by
 have hr:=vk h.rows [] (by simp)
 have hp:=tu h.rows
 unfold J2 bc
 simp only
 rw[qo hp,qo hp,←hr false false false]
 rfl
theorem Z2.srt{h:Hnk}(ok:Z2 h):Z2 (bc h):=by
 have hp:=tu h.rows
 exact ⟨by show (S0 h.rows [] []).length≤_;rw[hp.length_eq];exact ok.rows,fun x hx=>ok.text x (hp.mem_iff.1 hx),ok.head,ok.a,ok.b⟩
theorem Ub{a b:List PV}(h:a.Perm b):R3 a=R3 b:=by
 induction h with
 | nil=>rfl
 | cons x _ ih=>rw[R3,R3,ih]
 | swap x y l=>rw[R3,R3,R3,R3];omega
 | trans _ _ i1 i2=>exact i1.trans i2
theorem Uu(h:Hnk):pvB (K6 (bc h))=pvB (K6 h):=by
 have hp:=Ub ((tu h.rows).map I3)
 unfold bc
 simp only[pvB,R3]
 rw[hp]
theorem Hk:∀l:List Hnk,R3 ((l.map bc).map K6)=R3 (l.map K6)
 | []=>rfl
 | h::l=>by
  have ih:=Hk l
  rw[List.map_cons,List.map_cons,List.map_cons,R3,R3,ih,Uu]
theorem rg.srt{p s p' s':Ln}{l:List Hnk}(o:rg p s p' s' l):rg p s p' s' (l.map bc):=
 ⟨o.p,o.s,o.p',o.s',by rw[List.length_map];exact o.len,fun h hh=>by
  obtain ⟨g,hg,rfl⟩:=List.mem_map.1 hh
  exact (o.ok g hg).srt,by rw[Hk];exact o.bulk⟩
end Go.Sv
end
