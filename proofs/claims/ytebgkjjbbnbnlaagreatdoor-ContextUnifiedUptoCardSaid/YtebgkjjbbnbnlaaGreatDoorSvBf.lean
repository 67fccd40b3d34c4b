/- strings.Builder's methods, with all that they leave as it was: after the shelf's own contracts, but with a frame block by block. No program stands in this text: over any program and any numbering that bear the bodies. strings.Builder's methods walked once more, with a frame block by block (after the shelf's walks). No program stands in this text: over any program and any numbering that bear the bodies. strings.Builder's methods as calls over stores. No program stands in this text. -/
import Derived.Shelf.Strings.BuilderK
import Derived.Shelf.Lays7
import Derived.Test.YtebgkjjbbnbnlaaGreatDoorSvQ
set_option linter.unusedVariables false
set_option linter.unusedSimpArgs false
namespace Go.Sv
section
open Go Go.RowKit Go.Shelf Go.Proofs
variable {P:Program}{ρ ρ':Ren}
def BIs(T e:TypeId)(w:World)(b:Nat)(p v:Value)(bs:List Value):Prop:=
 w.heap[b]? = some (.cells #[p,v] T (0,0))∧w.ownsRowF 0 e 1 v bs.length bs∧v.ownBlock≠some b
def Pd(w w':World)(b:Nat)(v v':Value)(same:Prop):Prop:=
 w'.os=w.os∧w'.tape=w.tape∧w'.output=w.output∧w.heap.size≤w'.heap.size∧(∀ k,k<w.heap.size→k≠b→v.ownBlock≠some k→w'.heap[k]? = w.heap[k]?) ∧
 (∀ g,v'.ownBlock=some g→v.ownBlock=some g∨w.heap.size≤g)∧(same→v'=v)
def yd(T e:TypeId)(w w':World)(b:Nat)(v:Value)(bs bs':List Value):Prop:=
 ∃v',BIs T e w' b (.pointer (some ⟨b,0,none⟩)) v' bs'∧Pd w w' b v v' (bs'.length=bs.length)
def BFr(w:World)(v v':Value)(k:Nat):Prop:=(∀ g,v'.ownBlock=some g→v.ownBlock=some g∨w.heap.size≤g)∧(k=0→v'=v)
section
variable (w:World)
theorem Nv(t u ty e:TypeId)(i:TypeInfo)(ht:P.underlying t=some (.slice e))(hu:P.underlying u=some .string)(hi:P.info? e=some i)(hz:i.zero=some (.int .u8 0))(hsize:i.size=1)(hby:i.bytes=1)
  (v:Value) (n:Nat) (xs:List Value) (hown:w.ownsRowF 0 e 1 v n xs) (s:ByteArray) (h63:n+s.size≤maxLen) (hbytes:n+s.size≤140737488355328):
  ∃v' w',(Builtin.append_ #[t,u] ty #[v,.string s]).run P w = .ok v' w'∧w'.ownsRowF 0 e 1 v' (n+s.size) (xs++Lib.strCells s)∧w.grownBy w' v.ownBlock∧(∀ g,v'.ownBlock=some g→v.ownBlock=some g∨w.heap.size≤g)∧(s.size=0→v'=v):=by
 obtain ⟨v',w',h1,h2,h3,h4⟩:=Lib.run_append_own_stringF (P:=P) w 0 t u ty e i ht hu hi hz hsize hby v n xs hown s h63 hbytes (Nat.zero_le _)
 refine ⟨v',w',h1,h2,h3,?_⟩
 rcases hown.2 with ⟨rfl,rfl⟩|⟨g,cap,cur,fz,rfl,hbg,hg,hfz,hnc,hcm,hcs,htake⟩
 ·obtain ⟨v2,w2,r1,r2,r3,r4⟩:=Lib.run_append_own_stringF (P:=P) w w.heap.size t u ty e i ht hu hi hz hsize hby (.slice none 0 0) 0 xs ⟨hown.1,.inl ⟨rfl,rfl⟩⟩ s h63 hbytes (Nat.le_refl _)
  rw[h1] at r1
  cases r1
  exact ⟨fun g hg=>.inr (r2.lt g hg).1,fun h0=>h4.2 ⟨rfl,h0⟩⟩
 ·by_cases hroom:n+s.size≤cap
  ·have hr:=Lib.run_append_room_stringF (P:=P) w t u ty e i ht hu hi hsize g n cap cur fz hg (by simpa using hfz) s hroom (by omega)
   rw[h1] at hr
   cases hr
   exact ⟨fun g' hg'=>.inl hg',fun h0=>by simp[h0]⟩
  ·have holds:∀j u,xs[j]? = some u→w.cell? ((⟨g,0,none⟩:Addr).add j)=some u:=hown.cells (g:=g) rfl
   have hxl:xs.length=n:=by simpa using hown.1
   have hr:=Lib.run_append_grow_string (P:=P) w t u ty e i (.int .u8 0) ht hu hi hz ⟨g,0,none⟩ n cap xs (by rw[hsize];simpa using hxl) holds s (by omega) (by unfold maxLen at h63;omega) (by rw[hby];exact growslice_fits (by omega) (by omega))
   rw[h1] at hr
   cases hr
   refine ⟨fun g' hg'=>.inr ?_,fun h0=>absurd hroom (by omega)⟩
   simp[Value.ownBlock] at hg'
   omega
theorem Pe{ops:Array Oper}{rest:List Oper}{o:Oper}{a:Act}{Q:Exit→Act→World→Prop}(hgd:o.guard=none)(sl x:Operand)(t u:TypeId)
  (ho:o.op = .call { callee:=.builtin .append,args:=#[sl,x],argTypes:=#[t,u] })
  (e:TypeId) (i:TypeInfo) (ht:P.underlying t=some (.slice e)) (hu:P.underlying u=some .string) (hi:P.info? e=some i) (hz:i.zero=some (.int .u8 0)) (hsize:i.size=1) (hby:i.bytes=1)
  (v:Value) (n:Nat) (xs:List Value) (hs:a.eval sl=v) (hown:w.ownsRowF 0 e 1 v n xs) (s:ByteArray) (hx:a.eval x = .string s) (h63:n+s.size≤maxLen) (hbytes:n+s.size≤140737488355328)
  (h:∀v' w',w'.ownsRowF 0 e 1 v' (n+s.size) (xs++Lib.strCells s)→w.grownBy w' v.ownBlock→BFr w v v' s.size→wpList P ops Q rest (a.put o.dst v') w'):wpList P ops Q (o::rest) a w:=by
 refine wpList_plain hgd fun K hK=>?_
 obtain ⟨v',w',hr,h2,h3,h4,h5⟩:=Nv (P:=P) w t u o.type e i ht hu hi hz hsize hby v n xs hown s h63 hbytes
 unfold Oper.wp execOp
 simp only[ho,resolve,invoke,builtin,Sem.run_bind,Sem.run_pure,Result.andThen_ok,List.map_toArray,List.map_cons,List.map_nil,hs,hx,hr]
 exact hK _ _ (h v' w' h2 h3 ⟨h4,h5⟩)
theorem Pc(t ty e:TypeId)(i:TypeInfo)(ht:P.underlying t=some (.slice e))(hi:P.info? e=some i)(hz:i.zero=some (.int .u8 0))(hsize:i.size=1)(hby:i.bytes=1)
  (v:Value) (n:Nat) (xs:List Value) (hown:w.ownsRowF 0 e 1 v n xs) (ad:Addr) (m c:Nat) (news:List Value) (hl:news.length=m) (hnews:∀j u,news[j]? = some u→w.cell? (ad.add j)=some u) (h1:∀u∈news,u.oneCell'=true)
  (h63:n+m≤maxLen) (hbytes:n+m≤140737488355328):
  ∃v' w',(Builtin.append_ #[t,t] ty #[v,.slice (some ad) m c]).run P w = .ok v' w'∧w'.ownsRowF 0 e 1 v' (n+m) (xs++news)∧w.grownBy w' v.ownBlock∧(∀ g,v'.ownBlock=some g→v.ownBlock=some g∨w.heap.size≤g)∧(m=0→v'=v):=by
 have hz1:(Value.int IntKind.u8 0).cells.size=1:=rfl
 have hl1:news.length=m*1:=by omega
 have hb1:(n+m)*1≤140737488355328:=by omega
 obtain ⟨v',w',r1,r2,r3,r4⟩:=run_append_ownF (P:=P) w 0 t ty e i _ 1 1 ht hi hz hsize hby hz1 (by decide) v n xs hown ad m c news hl1 hnews h1 h63 hb1 (Nat.zero_le _)
 refine ⟨v',w',r1,r2,r3,?_⟩
 rcases hown.2 with ⟨rfl,rfl⟩|⟨g,cap,cur,fz,rfl,hbg,hg,hfz,hnc,hcm,hcs,htake⟩
 ·obtain ⟨v2,w2,q1,q2,q3,q4⟩:=run_append_ownF (P:=P) w w.heap.size t ty e i _ 1 1 ht hi hz hsize hby hz1 (by decide) (.slice none 0 0) 0 xs ⟨hown.1,.inl ⟨rfl,rfl⟩⟩ ad m c news hl1 hnews h1 h63 hb1 (Nat.le_refl _)
  rw[r1] at q1
  cases q1
  exact ⟨fun g hg=>.inr (q2.lt g hg).1,fun h0=>r4.2 ⟨rfl,h0⟩⟩
 ·by_cases hroom:n+m≤cap
  ·have hr:=run_append_roomF (P:=P) w t ty e i ht hi g n cap cur fz hg (by rw[hsize];exact hfz) ad m c news (by rw[hsize];exact hl1) hnews h1 hroom (by rw[hsize];omega)
   rw[r1] at hr
   cases hr
   exact ⟨fun g' hg'=>.inl hg',fun h0=>by simp[h0]⟩
  ·have holds:∀j u,xs[j]? = some u→w.cell? ((⟨g,0,none⟩:Addr).add j)=some u:=hown.cells (g:=g) rfl
   have hxl:xs.length=n:=by simpa using hown.1
   have hr:=run_append_grow (P:=P) w t ty e i (.int .u8 0) ht hi hz ⟨g,0,none⟩ n cap xs (by rw[hsize];simpa using hxl) holds ad m c news (by rw[hsize];exact hl1) hnews (by omega) (by unfold maxLen at h63;omega) (by rw[hby];exact growslice_fits (by omega) (by omega))
   rw[r1] at hr
   cases hr
   refine ⟨fun g' hg'=>.inr ?_,fun h0=>absurd hroom (by omega)⟩
   simp[Value.ownBlock] at hg'
   omega
theorem Hn{ops:Array Oper}{rest:List Oper}{o:Oper}{a:Act}{Q:Exit→Act→World→Prop}(hgd:o.guard=none)(sl x:Operand)(t:TypeId)
  (ho:o.op = .call { callee:=.builtin .append,args:=#[sl,x],argTypes:=#[t,t] })
  (e:TypeId) (i:TypeInfo) (ht:P.underlying t=some (.slice e)) (hi:P.info? e=some i) (hz:i.zero=some (.int .u8 0)) (hsize:i.size=1) (hby:i.bytes=1)
  (v:Value) (n:Nat) (xs:List Value) (hs:a.eval sl=v) (hown:w.ownsRowF 0 e 1 v n xs) (ad:Addr) (m c:Nat) (news:List Value) (hx:a.eval x = .slice (some ad) m c) (hl:news.length=m) (hnews:∀j u,news[j]? = some u→w.cell? (ad.add j)=some u) (h1:∀u∈news,u.oneCell'=true)
  (h63:n+m≤maxLen) (hbytes:n+m≤140737488355328)
  (h:∀v' w',w'.ownsRowF 0 e 1 v' (n+m) (xs++news)→w.grownBy w' v.ownBlock→BFr w v v' m→wpList P ops Q rest (a.put o.dst v') w'):wpList P ops Q (o::rest) a w:=by
 refine wpList_plain hgd fun K hK=>?_
 obtain ⟨v',w',hr,h2,h3,h4,h5⟩:=Pc (P:=P) w t o.type e i ht hi hz hsize hby v n xs hown ad m c news hl hnews h1 h63 hbytes
 unfold Oper.wp execOp
 simp only[ho,resolve,invoke,builtin,Sem.run_bind,Sem.run_pure,Result.andThen_ok,List.map_toArray,List.map_cons,List.map_nil,hs,hx,hr]
 exact hK _ _ (h v' w' h2 h3 ⟨h4,h5⟩)
end
def Wk(T e:TypeId)(w w':World)(b:Nat)(v:Value)(bs:List Value):Prop:=BIs T e w' b (.pointer (some ⟨b,0,none⟩)) v bs∧SameButN b w w'
 where SameButN (b:Nat) (w w':World):Prop:=w'.os=w.os∧w'.tape=w.tape∧w'.output=w.output∧w'.heap.size=w.heap.size ∧ ∀k,k≠b→w'.heap[k]? = w.heap[k]?
theorem Bf{T e:TypeId}{w w1 w2:World}{b:Nat}{v v':Value}{bs bs':List Value}(hTe:T≠e)(h1:Wk T e w w1 b v bs)(hgrow:w1.grownBy w2 v.ownBlock)(hown':w2.ownsRowF 0 e 1 v' bs'.length bs')(hg:∀g,v'.ownBlock=some g→v.ownBlock=some g∨w1.heap.size≤g)(hs:bs'.length=bs.length→v'=v):
  yd T e w (w2.setCell ⟨b,1,none⟩ v') b v bs bs':=by
 obtain ⟨⟨hb,hown,hne⟩,o1,o2,o3,o4,o5⟩:=h1
 have hlt:=(Array.getElem?_eq_some_iff.1 hb).1
 have hb2:w2.heap[b]? = some (.cells #[.pointer (some ⟨b,0,none⟩),v] T (0,0)):=by rw[hgrow.block b hlt (fun e=>hne e.symm)];exact hb
 have hne':v'.ownBlock≠some b:=fun h=>by
  rcases hg b h with h|h
  ·exact hne h
  ·omega
 refine ⟨v',⟨?_,?_,hne'⟩,by rw[← o1,←hgrow.os];rfl,by rw[← o2,←hgrow.tape];rfl,by rw[← o3,←hgrow.output];rfl,?_,?_,fun g h=>by rw[← o4];exact hg g h,hs⟩
 ·simp only[World.setCell,Array.getElem?_modify,if_true,hb2,Option.map_some]
  rfl
 ·refine hown'.kept (row:=some b) ⟨rfl,rfl,rfl,by simp[World.setCell],fun k hk hkn=>Below.heap_setCell _ _ _ _ (fun ek=>hkn (by rw[ek]))⟩ (.inr hne')
 ·have:=hgrow.size
  simp only[World.setCell,Array.size_modify]
  omega
 ·intro k hk hkb hkv
  rw[Below.heap_setCell _ _ _ _ hkb,hgrow.block k (by omega) (fun e=>hkv e.symm),o5 k hkb]
theorem ua(w:World)(g o n k:Nat)(h:k≠g):(w.freeze ⟨g,o,none⟩ n).heap[k]? = w.heap[k]?:=by
 unfold World.freeze
 split
 ·rfl
 ·show (w.heap.modify g _)[k]? = _
  rw[Array.getElem?_modify,if_neg (fun e=>h e.symm)]
theorem Kt(w:World)(a:Addr)(n:Nat):(w.freeze a n).os=w.os∧(w.freeze a n).tape=w.tape∧(w.freeze a n).output=w.output∧(w.freeze a n).heap.size=w.heap.size:=by
 unfold World.freeze
 split
 ·exact ⟨rfl,rfl,rfl,rfl⟩
 ·refine ⟨rfl,rfl,rfl,?_⟩
  show (w.heap.modify _ _).size=_
  rw[Array.size_modify]
end
section
open Go Go.RowKit Go.Shelf Go.Proofs
variable {P:Program}{ρ ρ':Ren}
theorem lg(L:Lays.n240 P ρ)(X:Builder.X72 P ρ){e:TypeId}{w:World}{b:Nat}{p v:Value}{bs:List Value}(h:BIs (ρ.t 72) e w b p v bs)(hp:p = .pointer none∨p = .pointer (some ⟨b,0,none⟩)):
  Calls P (ρ.f 240) #[.pointer (some ⟨b,0,none⟩)] w fun ed w'=>ed = .returned (.tuple #[])∧Wk (ρ.t 72) e w w' b v bs:=by
 obtain ⟨hb,hown,hne⟩:=h
 have c0:w.cell? ⟨b,0,none⟩=some p:=by rw[Lib.cell_of_heap hb];rfl
 rcases hp with rfl|rfl
 ·refine (Any.Builder_copyCheck_fresh L X b w c0 (by simp[World.shape?,hb]) (Lib.frozen_of_heap hb 0)).mono ?_
  rintro ed w' ⟨rfl,rfl⟩
  refine ⟨rfl,⟨?_,?_,hne⟩,rfl,rfl,rfl,by simp[World.setCell],fun k hk=>Below.heap_setCell _ _ _ _ hk⟩
  ·have hlt:=(Array.getElem?_eq_some_iff.1 hb).1
   simp only[World.setCell,Array.getElem?_modify,if_true,hb,Option.map_some]
   rfl
  ·refine hown.kept (row:=some b) ⟨rfl,rfl,rfl,by simp[World.setCell],fun k hk hkn=>Below.heap_setCell _ _ _ _ (fun ek=>hkn (by rw[ek]))⟩ (.inr hne)
 ·refine (Any.Builder_copyCheck_used L X b w c0).mono ?_
  rintro ed w' ⟨rfl,rfl⟩
  exact ⟨rfl,⟨hb,hown,hne⟩,rfl,rfl,rfl,rfl,fun _ _=>rfl⟩
set_option maxHeartbeats 2000000 in
set_option maxRecDepth 100000 in
theorem zd(L:Lays.n166 P ρ)(X:Builder.Extra P ρ){w:World}{b:Nat}{p v:Value}{bs:List Value}(s:ByteArray)(h:BIs (ρ.t 72) (ρ.t 5) w b p v bs)(hp:p = .pointer none∨p = .pointer (some ⟨b,0,none⟩))(hlen:bs.length+s.size≤140737488355328):
  Calls P (ρ.f 166) #[.pointer (some ⟨b,0,none⟩),.string s] w fun ed w'=>ed = .returned (.tuple #[.int .i64 s.size,.nilIface])∧yd (ρ.t 72) (ρ.t 5) w w' b v bs (bs++Lib.strCells s):=by
 obtain ⟨i0,hi,hz0,hz1,hz2⟩:=info_parts X.infoByte
 have mixed:=L.mixed
 have t72:=L.t72;have a72:=L.a72;have z72:=L.z72;have v72:=L.v72;have u72:=run_underlying L.t72
 have t70:=L.t70;have a70:=L.a70;have z70:=L.z70;have v70:=L.v70;have u70:=run_underlying L.t70
 have t37:=L.t37;have a37:=L.a37;have z37:=L.z37;have v37:=L.v37;have u37:=run_underlying L.t37
 have t3:=L.t3;have a3:=L.a3;have z3:=L.z3;have v3:=L.v3;have u3:=run_underlying L.t3
 have t9:=L.t9;have a9:=L.a9;have z9:=L.z9;have v9:=L.v9;have u9:=run_underlying L.t9
 have t4:=L.t4;have a4:=L.a4;have z4:=L.z4;have v4:=L.v4;have u4:=run_underlying L.t4
 have t164:=L.t164;have a164:=L.a164;have z164:=L.z164;have v164:=L.v164;have u164:=run_underlying L.t164
 have t5:=X.t5;have a5:=X.a5;have z5:=X.z5;have v5:=X.v5;have u5:=run_underlying X.t5
 have e240:∀args w,(callFunc (ρ.f 240) args).run P w = .ok (.enter (ρ.f 240) args) w:=enters_of L.f240 (by kernel_rfl) rfl
 go_enter L.f166,Body.n166_ntmps ρ
 go_wp2_with (go_at_fn (ρ.f 240);refine (lg { L with } X.toX72 h hp).mono ?_)
 rintro ed w1 ⟨rfl,hU⟩
 have hU':=hU
 obtain ⟨⟨hbk,hown,hne⟩,ho⟩:=hU'
 clear ho
 have c0:w1.cell? ⟨b,0,none⟩=some (.pointer (some ⟨b,0,none⟩)):=by rw[Lib.cell_of_heap hbk];rfl
 have c1:w1.cell? ⟨b,1,none⟩=some v:=by rw[Lib.cell_of_heap hbk];rfl
 go_wp2_with (at_builtin;refine Pe _ rfl _ _ (ρ.t 37) (ρ.t 9) rfl (ρ.t 5) i0 L.t37 L.t9 hi hz0 hz1 hz2 _ _ _ rfl hown s rfl ?c3 ?c4 ?_)
 case c3=>unfold maxLen;omega
 case c4=>omega
 intro v' w2 hown' hgrow hfr
 have hlt:b<w1.heap.size:=(Array.getElem?_eq_some_iff.1 hbk).1
 have hb2:w2.heap[b]? = some (.cells #[.pointer (some ⟨b,0,none⟩),v] (ρ.t 72) (0,0)):=by
  rw[hgrow.block b hlt (fun e=>hne e.symm)]
  exact hbk
 have d0:w2.cell? ⟨b,0,none⟩=some (.pointer (some ⟨b,0,none⟩)):=by rw[Lib.cell_of_heap hb2];rfl
 have d1:w2.cell? ⟨b,1,none⟩=some v:=by rw[Lib.cell_of_heap hb2];rfl
 have f1:w2.frozen? ⟨b,1,none⟩=false:=Lib.frozen_of_heap hb2 1
 have hsm':(bs++Lib.strCells s).length=bs.length→v'=v:=fun h=>hfr.2 (by
  rw[List.length_append,Lib.strCells_length] at h
  omega)
 have hfin:yd (ρ.t 72) (ρ.t 5) w (w2.setCell ⟨b,1,none⟩ v') b v bs (bs++Lib.strCells s):=
  Bf X.neB5 hU hgrow (by rw[List.length_append,Lib.strCells_length];exact hown') hfr.1 hsm'
 clear hU hfr hsm'
 obtain ⟨ao,n',cap,rfl⟩:∃ao n' cap,v' = .slice ao n' cap:=by
  rcases hown'.2 with ⟨hv,_⟩|⟨g,cap,cur,fz,hv,_⟩
  ·exact ⟨_,_,_,hv⟩
  ·exact ⟨_,_,_,hv⟩
 go_wp2
 go_ret2
 exact ⟨rfl,hfin⟩
set_option maxHeartbeats 2000000 in
set_option maxRecDepth 100000 in
theorem Fa(L:Lays.n167 P ρ)(X:Builder.Extra P ρ){w:World}{b:Nat}{p v:Value}{bs:List Value}(c:Int)(h:BIs (ρ.t 72) (ρ.t 5) w b p v bs)(hp:p = .pointer none∨p = .pointer (some ⟨b,0,none⟩))(hlen:bs.length+1≤140737488355328):
  Calls P (ρ.f 167) #[.pointer (some ⟨b,0,none⟩),.int .u8 c] w fun ed w'=>ed = .returned .nilIface∧yd (ρ.t 72) (ρ.t 5) w w' b v bs (bs ++ [.int .u8 c]):=by
 obtain ⟨i0,hi,hz0,hz1,hz2⟩:=info_parts X.infoByte
 have mixed:=L.mixed
 have t72:=L.t72;have a72:=L.a72;have z72:=L.z72;have v72:=L.v72;have u72:=run_underlying L.t72
 have t70:=L.t70;have a70:=L.a70;have z70:=L.z70;have v70:=L.v70;have u70:=run_underlying L.t70
 have t5:=L.t5;have a5:=L.a5;have z5:=L.z5;have v5:=L.v5;have u5:=run_underlying L.t5
 have t37:=L.t37;have a37:=L.a37;have z37:=L.z37;have v37:=L.v37;have u37:=run_underlying L.t37
 have t9:=L.t9;have a9:=L.a9;have z9:=L.z9;have v9:=L.v9;have u9:=run_underlying L.t9
 have t4:=L.t4;have a4:=L.a4;have z4:=L.z4;have v4:=L.v4;have u4:=run_underlying L.t4
 have t164:=L.t164;have a164:=L.a164;have z164:=L.z164;have v164:=L.v164;have u164:=run_underlying L.t164
 have e240:∀args w,(callFunc (ρ.f 240) args).run P w = .ok (.enter (ρ.f 240) args) w:=enters_of L.f240 (by kernel_rfl) rfl
 go_enter L.f167,Body.n167_ntmps ρ
 go_wp2_with (go_at_fn (ρ.f 240);refine (lg { L with } X.toX72 h hp).mono ?_)
 rintro ed w1 ⟨rfl,hU⟩
 have hU':=hU
 obtain ⟨⟨hbk,hown,hne⟩,ho⟩:=hU'
 clear ho
 have c0:w1.cell? ⟨b,0,none⟩=some (.pointer (some ⟨b,0,none⟩)):=by rw[Lib.cell_of_heap hbk];rfl
 have c1:w1.cell? ⟨b,1,none⟩=some v:=by rw[Lib.cell_of_heap hbk];rfl
 go_wp2_with (at_builtin;refine Hn _ rfl _ _ (ρ.t 37) rfl (ρ.t 5) i0 L.t37 hi hz0 hz1 hz2 _ _ _ rfl (hown.alloc _) ⟨w1.heap.size,0,none⟩ 1 1 [.int .u8 c] rfl rfl ?c1 ?c2 ?c3 ?c4 ?_)
 case c1=>
  intro j u hj
  match j,hj with
  | 0,hj=>simp at hj;subst hj;simp[Addr.add]
 case c2=>intro u hu;simp at hu;subst hu;rfl
 case c3=>unfold maxLen;omega
 case c4=>omega
 intro v' w2 hown' hgrow hfr
 have hlt:b<w1.heap.size:=(Array.getElem?_eq_some_iff.1 hbk).1
 have hgrow1:w1.grownBy w2 v.ownBlock:=⟨hgrow.os,hgrow.tape,hgrow.output,by have:=hgrow.size;simp at this;omega,fun k hk hkn=>by
  rw[hgrow.block k (by simp;omega) hkn,Lib.alloc_old w1 _ k hk]⟩
 have hfr1:∀g,v'.ownBlock=some g→v.ownBlock=some g∨w1.heap.size≤g:=fun g hg=>by
  rcases hfr.1 g hg with h|h
  ·exact .inl h
  ·simp at h;exact .inr (by omega)
 have hb2:w2.heap[b]? = some (.cells #[.pointer (some ⟨b,0,none⟩),v] (ρ.t 72) (0,0)):=by
  rw[hgrow1.block b hlt (fun e=>hne e.symm)]
  exact hbk
 have d0:w2.cell? ⟨b,0,none⟩=some (.pointer (some ⟨b,0,none⟩)):=by rw[Lib.cell_of_heap hb2];rfl
 have d1:w2.cell? ⟨b,1,none⟩=some v:=by rw[Lib.cell_of_heap hb2];rfl
 have f1:w2.frozen? ⟨b,1,none⟩=false:=Lib.frozen_of_heap hb2 1
 have hfin:yd (ρ.t 72) (ρ.t 5) w (w2.setCell ⟨b,1,none⟩ v') b v bs (bs ++ [.int .u8 c]):=
  Bf X.neB5 hU hgrow1 (by simpa using hown') hfr1 (fun h=>by simp at h)
 clear hU hfr hfr1 hgrow
 obtain ⟨g,cap,rfl⟩:∃g cap,v' = .slice (some ⟨g,0,none⟩) (bs.length+1) cap:=by
  rcases hown'.2 with ⟨_,h0⟩|⟨g,cap,cur,fz,hv,_⟩
  ·omega
  ·exact ⟨g,cap,hv⟩
 go_wp2
 go_ret
 exact ⟨rfl,hfin⟩
set_option maxHeartbeats 2000000 in
set_option maxRecDepth 100000 in
theorem Tz(L:Lays7.n35 P ρ)(L':Lays.n240 P ρ')(X:Builder.Extra P ρ')(hf:ρ.f 52=ρ'.f 240)(h72:ρ.t 59=ρ'.t 72)(h5:ρ.t 5=ρ'.t 5){w:World}{b:Nat}{p v:Value}{bs:List Value}(ad:Addr)(m c:Nat)(news:List Value)
  (h:BIs (ρ.t 59) (ρ.t 5) w b p v bs) (hp:p = .pointer none∨p = .pointer (some ⟨b,0,none⟩)) (hl:news.length=m) (hnews:∀j u,news[j]? = some u→w.cell? (ad.add j)=some u) (hadb:ad.block≠b) (h1:∀u∈news,u.oneCell'=true) (hlen:bs.length+m≤140737488355328):
  Calls P (ρ.f 35) #[.pointer (some ⟨b,0,none⟩),.slice (some ad) m c] w fun ed w'=>ed = .returned (.tuple #[.int .i64 m,.nilIface])∧yd (ρ.t 59) (ρ.t 5) w w' b v bs (bs++news):=by
 have hib:=X.infoByte
 have hne5:=X.neB5
 have cC:BIs (ρ.t 59) (ρ.t 5) w b p v bs→Calls P (ρ.f 52) #[.pointer (some ⟨b,0,none⟩)] w fun ed w'=>ed = .returned (.tuple #[])∧Wk (ρ.t 59) (ρ.t 5) w w' b v bs:=by
  rw[hf,h72,h5]
  exact fun h=>lg L' X.toX72 h hp
 rw[← h5] at hib hne5
 rw[← h72] at hne5
 clear hf h72 h5 X L' hp
 obtain ⟨i0,hi,hz0,hz1,hz2⟩:=info_parts hib
 have mixed:=L.mixed
 have t0:=L.t0;have a0:=L.a0;have z0:=L.z0;have v0:=L.v0;have t3:=L.t3;have a3:=L.a3;have z3:=L.z3;have v3:=L.v3;have t4:=L.t4;have a4:=L.a4;have z4:=L.z4;have v4:=L.v4;have t9:=L.t9;have a9:=L.a9;have z9:=L.z9;have v9:=L.v9;have t20:=L.t20;have a20:=L.a20;have z20:=L.z20;have v20:=L.v20;have t30:=L.t30;have a30:=L.a30;have z30:=L.z30;have v30:=L.v30;have t36:=L.t36;have a36:=L.a36;have z36:=L.z36;have v36:=L.v36;have t38:=L.t38;have a38:=L.a38;have z38:=L.z38;have v38:=L.v38;have t59:=L.t59;have a59:=L.a59;have z59:=L.z59;have v59:=L.v59;have t73:=L.t73;have a73:=L.a73;have z73:=L.z73;have v73:=L.v73
 have u0:=run_underlying L.t0;have u3:=run_underlying L.t3;have u4:=run_underlying L.t4;have u9:=run_underlying L.t9;have u20:=run_underlying L.t20;have u30:=run_underlying L.t30;have u36:=run_underlying L.t36;have u38:=run_underlying L.t38;have u59:=run_underlying L.t59;have u73:=run_underlying L.t73
 have e52:∀args w,(callFunc (ρ.f 52) args).run P w = .ok (.enter (ρ.f 52) args) w:=enters_of L.f52 (by kernel_rfl) rfl
 go_enter L.f35,Body7.n35_ntmps ρ
 go_wp2_with (go_at_fn (ρ.f 52);refine (cC h).mono ?_)
 rintro ed w1 ⟨rfl,hU⟩
 have hU':=hU
 obtain ⟨⟨hbk,hown,hne⟩,ho⟩:=hU'
 have hnews1:∀j u,news[j]? = some u→w1.cell? (ad.add j)=some u:=fun j u hj=>by
  rw[World.cell?_of_block (w:=w) (ho.2.2.2.2 _ (by unfold Addr.add;split<;>exact hadb))]
  exact hnews j u hj
 clear ho
 have c0:w1.cell? ⟨b,0,none⟩=some (.pointer (some ⟨b,0,none⟩)):=by rw[Lib.cell_of_heap hbk];rfl
 have c1:w1.cell? ⟨b,1,none⟩=some v:=by rw[Lib.cell_of_heap hbk];rfl
 go_wp2_with (at_builtin;refine Hn _ rfl _ _ (ρ.t 30) rfl (ρ.t 5) i0 L.t30 hi hz0 hz1 hz2 _ _ _ rfl hown ad m c news rfl hl hnews1 h1 ?c3 ?c4 ?_)
 case c3=>unfold maxLen;omega
 case c4=>omega
 intro v' w2 hown' hgrow hfr
 have hlt:b<w1.heap.size:=(Array.getElem?_eq_some_iff.1 hbk).1
 have hb2:w2.heap[b]? = some (.cells #[.pointer (some ⟨b,0,none⟩),v] (ρ.t 59) (0,0)):=by
  rw[hgrow.block b hlt (fun e=>hne e.symm)]
  exact hbk
 have d0:w2.cell? ⟨b,0,none⟩=some (.pointer (some ⟨b,0,none⟩)):=by rw[Lib.cell_of_heap hb2];rfl
 have d1:w2.cell? ⟨b,1,none⟩=some v:=by rw[Lib.cell_of_heap hb2];rfl
 have f1:w2.frozen? ⟨b,1,none⟩=false:=Lib.frozen_of_heap hb2 1
 have hfin:yd (ρ.t 59) (ρ.t 5) w (w2.setCell ⟨b,1,none⟩ v') b v bs (bs++news):=
  Bf hne5 hU hgrow (by rw[List.length_append,hl];exact hown') hfr.1 (fun h=>hfr.2 (by rw[List.length_append,hl] at h;omega))
 clear hU hfr
 obtain ⟨ao,n',cap,rfl⟩:∃ao n' cap,v' = .slice ao n' cap:=by
  rcases hown'.2 with ⟨hv,_⟩|⟨g,cap,cur,fz,hv,_⟩
  ·exact ⟨_,_,_,hv⟩
  ·exact ⟨_,_,_,hv⟩
 go_wp2
 go_ret2
 exact ⟨rfl,hfin⟩
def ri(T e:TypeId)(w w':World)(b:Nat)(p v:Value)(bs:List Value):Prop:=
 BIs T e w' b p v bs∧Pd w w' b v v True
theorem ri.kept{T e:TypeId}{w:World}{b:Nat}{p v:Value}{bs:List Value}(h:BIs T e w b p v bs)(w':World)(ho:w'.os=w.os)(ht:w'.tape=w.tape)(hu:w'.output=w.output)(hs:w.heap.size≤w'.heap.size)(hk:∀k,k<w.heap.size→w'.heap[k]? = w.heap[k]?):ri T e w w' b p v bs:=by
 obtain ⟨hb,hown,hne⟩:=h
 refine ⟨⟨by rw[hk b (Array.getElem?_eq_some_iff.1 hb).1];exact hb,hown.kept (row:=none) ⟨ho,ht,hu,hs,fun k h _=>hk k h⟩ (by cases hv:v.ownBlock<;>simp),hne⟩,ho,ht,hu,hs,fun k h _ _=>hk k h,fun g h=>.inl h,fun _=>rfl⟩
set_option maxHeartbeats 2000000 in
set_option maxRecDepth 100000 in
theorem Qd(L:Lays.n169 P ρ)(X:Builder.Extra P ρ){w:World}{b:Nat}{p v:Value}(l:List UInt8)(h:BIs (ρ.t 72) (ρ.t 5) w b p v (Lib.byteCells l)):
  Calls P (ρ.f 169) #[.pointer (some ⟨b,0,none⟩)] w fun ed w'=>ed = .returned (.string ⟨l.toArray⟩)∧ri (ρ.t 72) (ρ.t 5) w w' b p v (Lib.byteCells l):=by
 have hI:=h
 obtain ⟨hbk,hown,hne⟩:=h
 have hlt:b<w.heap.size:=(Array.getElem?_eq_some_iff.1 hbk).1
 have hUS:=Any.unsafeString_none L X
 have mixed:=L.mixed
 have t72:=L.t72;have a72:=L.a72;have z72:=L.z72;have v72:=L.v72;have u72:=run_underlying L.t72
 have t70:=L.t70;have a70:=L.a70;have z70:=L.z70;have v70:=L.v70;have u70:=run_underlying L.t70
 have t37:=L.t37;have a37:=L.a37;have z37:=L.z37;have v37:=L.v37;have u37:=run_underlying L.t37
 have t127:=L.t127;have a127:=L.a127;have z127:=L.z127;have v127:=L.v127;have u127:=run_underlying L.t127
 have t3:=L.t3;have a3:=L.a3;have z3:=L.z3;have v3:=L.v3;have u3:=run_underlying L.t3
 have t9:=L.t9;have a9:=L.a9;have z9:=L.z9;have v9:=L.v9;have u9:=run_underlying L.t9
 have t5:=X.t5;have a5:=X.a5;have z5:=X.z5;have v5:=X.v5;have u5:=run_underlying X.t5
 have c1:w.drew.cell? ⟨b,1,none⟩=some v:=by
  have:w.drew.heap[b]? = some (.cells #[p,v] (ρ.t 72) (0,0)):=hbk
  rw[Lib.cell_of_heap this];rfl
 have c0:w.cell? ⟨b,1,none⟩=some v:=c1
 rw[Lib.byteCells_length] at hown
 rcases hown.2 with ⟨rfl,h0⟩|⟨g,cap,cur,fz,rfl,hbg,hg,hfz,hnc,hcm,hcs,htake⟩
 ·obtain rfl:l = []:=List.eq_nil_of_length_eq_zero h0
  have hR:ri (ρ.t 72) (ρ.t 5) w w.drew b p (.slice none 0 0) (Lib.byteCells []):=ri.kept hI _ rfl rfl rfl (Nat.le_refl _) (fun _ _=>rfl)
  have hSD:(Builtin.unsafeSliceData_ #[(ρ.t 37)] (ρ.t 127) #[.slice none 0 0]).run P w.drew = .ok (.pointer none) w.drew:=rfl
  clear hI hown
  go_enter L.f169,Body.n169_ntmps ρ
  go_wp2
  go_region_o
  all_goals (go_wp2;go_ret;exact ⟨rfl,hR⟩)
 ·by_cases hl:l = []
  ·subst hl
   by_cases hc0:cap=0
   ·subst hc0
    have hSD:(Builtin.unsafeSliceData_ #[(ρ.t 37)] (ρ.t 127) #[.slice (some ⟨g,0,none⟩) 0 0]).run P w.drew = .ok (.pointer (some ⟨w.drew.heap.size,0,none⟩)) (w.drew.alloc (.view ⟨g,0,none⟩ (ρ.t 5))):=
     Lib.run_unsafeSliceData_zero w.drew _ _ (ρ.t 5) L.t127 ⟨g,0,none⟩ 0 ((ρ.t 5),cur.size) (by have hg':w.drew.heap[g]? = some (.cells cur (ρ.t 5) fz):=hg;simp[World.shape?,hg'])
    have c2:(w.drew.alloc (.view ⟨g,0,none⟩ (ρ.t 5))).cell? ⟨b,1,none⟩=some (.slice (some ⟨g,0,none⟩) 0 0):=by
     have:(w.drew.alloc (.view ⟨g,0,none⟩ (ρ.t 5))).heap[b]? = _:=(Lib.alloc_old w.drew _ b hlt).trans hbk
     rw[Lib.cell_of_heap this];rfl
    have c3:(w.alloc (.view ⟨g,0,none⟩ (ρ.t 5))).drew.cell? ⟨b,1,none⟩=some (.slice (some ⟨g,0,none⟩) 0 0):=c2
    have hR:ri (ρ.t 72) (ρ.t 5) w (w.drew.alloc (.view ⟨g,0,none⟩ (ρ.t 5))) b p (.slice (some ⟨g,0,none⟩) 0 0) (Lib.byteCells []):=ri.kept hI _ rfl rfl rfl (by simp) (fun k hk=>Lib.alloc_old w.drew _ k hk)
    clear hI hown hg hfz hnc hcm hcs htake hlt hbk
    go_enter L.f169,Body.n169_ntmps ρ
    go_wp2
    go_region_o
    all_goals (go_wp2;go_ret;exact ⟨rfl,hR⟩)
   ·have hSD:(Builtin.unsafeSliceData_ #[(ρ.t 37)] (ρ.t 127) #[.slice (some ⟨g,0,none⟩) 0 cap]).run P w.drew = .ok (.pointer (some ⟨g,0,none⟩)) w.drew:=
     Lib.run_unsafeSliceData_row _ _ _ _ _ _ hc0
    have hR:ri (ρ.t 72) (ρ.t 5) w w.drew b p (.slice (some ⟨g,0,none⟩) 0 cap) (Lib.byteCells []):=ri.kept hI _ rfl rfl rfl (Nat.le_refl _) (fun _ _=>rfl)
    clear hI hown hc0 hg hfz hnc hcm hcs htake hbk
    go_enter L.f169,Body.n169_ntmps ρ
    go_wp2
    go_region_o
    all_goals (go_wp2;go_ret;exact ⟨rfl,hR⟩)
  ·have hl0:l.length≠0:=by simpa using hl
   have hSD:(Builtin.unsafeSliceData_ #[(ρ.t 37)] (ρ.t 127) #[.slice (some ⟨g,0,none⟩) l.length cap]).run P w.drew = .ok (.pointer (some ⟨g,0,none⟩)) w.drew:=
    Lib.run_unsafeSliceData_row _ _ _ _ _ _ (by omega)
   have hUS2:(Builtin.unsafeString_ #[(ρ.t 127),(ρ.t 3)] (ρ.t 9) #[.pointer (some ⟨g,0,none⟩),.int .i64 l.length]).run P w.drew = .ok (.string ⟨l.toArray⟩) (w.drew.freeze ⟨g,0,none⟩ l.length):=by
    refine Lib.run_unsafeString_row w.drew (ρ.t 127) (ρ.t 3) (ρ.t 9) (ρ.t 5) L.t127 X.cellsByte g cur.size (by have hg':w.drew.heap[g]? = some (.cells cur (ρ.t 5) fz):=hg;simp[World.shape?,hg']) l hl (by omega) (by unfold maxLen at hcm;omega) ?_
    intro j x hx
    exact hown.cells (g:=g) rfl j (.int .u8 x.toNat) (by simp[Lib.byteCells,hx])
   have hR:ri (ρ.t 72) (ρ.t 5) w (w.drew.freeze ⟨g,0,none⟩ l.length) b p (.slice (some ⟨g,0,none⟩) l.length cap) (Lib.byteCells l):=by
    have hA:Lib.BuilderAtF (ρ.t 72) (ρ.t 5) 0 b p (Lib.byteCells l) w.drew:=⟨Nat.zero_le _,_,hbk,by rw[Lib.byteCells_length];exact hown,hne⟩
    have hF:=hA.froze (g:=g) (cap:=cap) (by rw[Lib.byteCells_length];exact c1)
    rw[Lib.byteCells_length] at hF
    obtain ⟨_,v2,q1,q2,q3⟩:=hF
    have hbl:(w.drew.freeze ⟨g,0,none⟩ l.length).heap[b]? = w.heap[b]?:=by
     exact ua _ _ _ _ _ (fun e=>hne (by subst e;rfl))
    obtain rfl:v2 = .slice (some ⟨g,0,none⟩) l.length cap:=by
     rw[hbl,hbk] at q1
     simp at q1
     exact q1.symm
    obtain ⟨f1,f2,f3,f4⟩:=Kt w.drew ⟨g,0,none⟩ l.length
    exact ⟨⟨q1,q2,q3⟩,f1,f2,f3,Nat.le_of_eq f4.symm,fun k hk hkb hkv=>ua _ _ _ _ _ (fun e=>hkv (by subst e;rfl)),fun g h=>.inl h,fun _=>rfl⟩
   clear hI hown hUS hg hfz hnc hcm hcs htake hbk hl hl0
   go_enter L.f169,Body.n169_ntmps ρ
   go_wp2
   go_region_o
   all_goals (go_wp2;go_ret;exact ⟨rfl,hR⟩)
end
section
open Go Go.RowKit Go.Shelf Go.Proofs
theorem zj{s:List UInt8}{arr:Array Value}(hl:s.length≤arr.size)(h:∀(j:Nat) c,s[j]? = some c→arr[j]? = some (.int .u8 (c.toNat:Int))):arr.toList.take s.length=Lib.byteCells s:=by
 apply List.ext_getElem?
 intro j
 rw[List.getElem?_take]
 split
 ·rename_i hj
  have:=h j s[j] (List.getElem?_eq_getElem hj)
  rw[Array.getElem?_toList,this]
  simp[Lib.byteCells,hj]
 ·rename_i hj
  exact (List.getElem?_eq_none (by rw[Lib.byteCells_length];omega)).symm
theorem zn{s:List UInt8}{arr:Array Value}(h:arr.toList.take s.length=Lib.byteCells s)(j:Nat)(c:UInt8)(hc:s[j]? = some c):arr[j]? = some (.int .u8 (c.toNat:Int)):=by
 have hj:=(List.getElem?_eq_some_iff.1 hc).1
 have:(arr.toList.take s.length)[j]? = some (.int .u8 (c.toNat:Int)):=by rw[h];simp[Lib.byteCells,hc]
 rw[List.getElem?_take,if_pos hj,Array.getElem?_toList] at this
 exact this
theorem D0.bld_is{C:Ctx}{m:Mp}{K:KS}{σ:A2}{w:World}(hB:D0 C m K σ w){id:Nat}{ty el:TypeId}{s:List UInt8}(ho:σ[id]? = some (.bld ty el s)):
  ∃b cap es p v,m id 0=some (.at b cap es)∧(p = .pointer none∨p = .pointer (some ⟨b,0,none⟩))∧BIs ty el w b p v (Lib.byteCells s)∧(∀ o u,¬K b o u)∧(∀ g,v.ownBlock=some g→g∈blk m id (.bld ty el s) ∧ ∀o u,¬K g o u) ∧
   (∀ ver l,m id ver=some l→ver≤s.length+1)∧(v = .slice none 0 0∧s = []∧m id 1=some .nil ∨ ∃g c,v = .slice (some ⟨g,0,none⟩) s.length c∧m id (s.length+1)=some (.at g c 1)):=by
 obtain ⟨b,cap,es,p,v,hm,hh,hp,hk,hver,hc⟩:=hB.obj id _ ho
 refine ⟨b,cap,es,p,v,hm,hp,?_,hk,?_,hver,?_⟩
 ·rcases hc with ⟨rfl,hm2,rfl⟩|⟨b2,cap2,arr,fr,hm2,hne,rfl,hh2,h1,h2,h3,h4,h5,h6⟩
  ·exact ⟨hh,⟨rfl,.inl ⟨rfl,rfl⟩⟩,by simp[Value.ownBlock]⟩
  ·refine ⟨hh,⟨by simp,.inr ⟨b2,cap2,arr,fr,by rw[Lib.byteCells_length],Nat.zero_le _,hh2,by rw[Lib.byteCells_length];omega,by rw[Lib.byteCells_length];exact h1,h2,by omega,?_⟩⟩,by simpa[Value.ownBlock] using hne⟩
   rw[Lib.byteCells_length,Nat.mul_one]
   exact zj (by omega) h4
 ·intro g hg
  rcases hc with ⟨rfl,hm2,rfl⟩|⟨b2,cap2,arr,fr,hm2,hne,rfl,hh2,h1,h2,h3,h4,h5,h6⟩
  ·simp[Value.ownBlock] at hg
  ·simp[Value.ownBlock] at hg
   subst hg
   exact ⟨by simp[blk,Loc.blk,hm2],h6⟩
 ·rcases hc with ⟨rfl,hm2,rfl⟩|⟨b2,cap2,arr,fr,hm2,hne,rfl,hh2,h1,h2,h3,h4,h5,h6⟩
  ·exact .inl ⟨rfl,rfl,hm2⟩
  ·exact .inr ⟨b2,cap2,rfl,hm2⟩
theorem D0.bld_put{C:Ctx}{m:Mp}{K:KS}{σ:A2}{w w':World}(hB:D0 C m K σ w){id:Nat}{ty el:TypeId}{s s':List UInt8}(ho:σ[id]? = some (.bld ty el s)){b cap es:Nat}{v v' p':Value}
  (hm:m id 0=some (.at b cap es)) (hk:∀o u,¬K b o u) (hg:∀g,v.ownBlock=some g→g∈blk m id (.bld ty el s) ∧ ∀o u,¬K g o u) (hver:∀ver l,m id ver=some l→ver≤s.length+1)
  (hv:v = .slice none 0 0∧s = []∧m id 1=some .nil ∨ ∃g c,v = .slice (some ⟨g,0,none⟩) s.length c∧m id (s.length+1)=some (.at g c 1)) (hp':p' = .pointer none∨p' = .pointer (some ⟨b,0,none⟩))
  (hI:BIs ty el w' b p' v' (Lib.byteCells s')) (hF:Pd w w' b v v' (s'.length=s.length)) (hlen:s.length≤s'.length):∃m',D0 C m' K (σ.set id (.bld ty el s')) w'∧Ext m K m' K:=by
 obtain ⟨f1,f2,f3,f4,f5,f6,f7⟩:=hF
 obtain ⟨hh',hown',hne'⟩:=hI
 have hid:id<σ.length:=(List.getElem?_eq_some_iff.1 ho).1
 have hbmem:b∈blk m id (.bld ty el s):=by simp[blk,Loc.blk,hm]
 have hb0:=hB.base id _ b ho hbmem
 have hkept:∀k,k<w.heap.size→k∉blk m id (.bld ty el s)→w'.heap[k]? = w.heap[k]?:=fun k hk hn=>
  f5 k hk (fun e=>hn (by rw[e];exact hbmem)) (fun e=>hn (hg k e).1)
 have key:∃m':Mp,(∀ i ver l,m i ver=some l→m' i ver=some l)∧(∀ i,i≠id→m' i=m i)∧(∀ ver l,m' id ver=some l→ver≤s'.length+1) ∧
   (v' = .slice none 0 0∧s' = []∧m' id 1=some .nil ∨ ∃g c arr fr,v' = .slice (some ⟨g,0,none⟩) s'.length c∧m' id (s'.length+1)=some (.at g c 1)∧w'.heap[g]? = some (.cells arr el fr)∧fr.2≤s'.length∧s'.length≤c∧c≤maxLen∧arr.size=c∧arr.toList.take s'.length=Lib.byteCells s'):=by
  rw[Lib.byteCells_length] at hown'
  rcases hown'.2 with ⟨rfl,h0⟩|⟨g,c,arr,fr,rfl,_,h1,h2,h3,h4,h5,h6⟩
  ·have hs':s' = []:=List.eq_nil_of_length_eq_zero h0
   subst hs'
   have hs:s = []:=List.eq_nil_of_length_eq_zero (by simpa using hlen)
   subst hs
   rcases hv with ⟨_,_,hm1⟩|⟨g,c,rfl,hm1⟩
   ·exact ⟨m,fun _ _ _ h=>h,fun _ _=>rfl,hver,.inl ⟨rfl,rfl,hm1⟩⟩
   ·have:=f7 rfl
    simp at this
  ·by_cases e:s'.length=s.length
   ·have hvv:=f7 e
    rcases hv with ⟨rfl,_,_⟩|⟨g2,c2,rfl,hm1⟩
    ·simp at hvv
    ·simp at hvv
     obtain ⟨rfl,_,rfl⟩:=hvv
     exact ⟨m,fun _ _ _ h=>h,fun _ _=>rfl,by rw[e];exact hver,.inr ⟨g,c,arr,fr,rfl,by rw[e];exact hm1,h1,by omega,h3,h4,by omega,by rw[Nat.mul_one] at h6;exact h6⟩⟩
   ·have hnone:m id (s'.length+1)=none:=by
     cases h:m id (s'.length+1) with
     | none=>rfl
     | some l=>have:=hver _ _ h;omega
    refine ⟨Q4 m id (s'.length+1) (.at g c 1),Y1 hnone,fun i h=>W7 _ _ _ _ _ h,fun ver l h=>?_,.inr ⟨g,c,arr,fr,rfl,P3 _ _ _ _,h1,by omega,h3,h4,by omega,by rw[Nat.mul_one] at h6;exact h6⟩⟩
    unfold Q4 at h
    split at h
    ·rename_i e2;exact Nat.le_of_eq e2.2
    ·have:=hver _ _ h;omega
 obtain ⟨m',hm1,hm2,hm3,hm4⟩:=key
 have hm0:m' id 0=some (.at b cap es):=hm1 _ _ _ hm
 have hnewblk:∀k,k∈blk m' id (.bld ty el s')→k=b∨v'.ownBlock=some k:=by
  intro k hk
  rcases hm4 with ⟨rfl,rfl,h⟩|⟨g,c,arr,fr,rfl,h,_⟩
  ·simp[blk,Loc.blk,hm0,h] at hk
   exact .inl hk
  ·simp[blk,Loc.blk,hm0,h] at hk
   rcases hk with h|h
   ·exact .inl h
   ·exact .inr (by simp[Value.ownBlock,h])
 refine ⟨m',hB.step id (.bld ty el s') (fun i x h=>mt hid h) (by simp) (by simpa using hid) hm1 hm2 ⟨f1.trans hB.below.os,f2.trans hB.below.tape,f3.trans hB.below.output,Nat.le_trans hB.below.size f4,fun k hk=>?_⟩ (fun b' o u h=>?_) (fun i x b' hne hs hb'=>?_) ?_ (fun b' hb'=>?_) (fun b' hb' i x hne hs hx=>?_),⟨hm1,fun _ _ _ h=>h⟩⟩
 ·have hlt:k<w.heap.size:=Nat.lt_of_lt_of_le hk hB.below.size
  rw[hkept k hlt (fun hmem=>by have:=hB.base id _ k ho hmem;omega)]
  exact hB.below.block k hk
 ·refine World.cell?_of_block (w:=w) (hkept b' (hB.keep_lt h) (fun hmem=>?_))
  rcases List.mem_append.1 hmem with h2|h2
  ·have:b'=b:=by simpa[Loc.blk,hm] using h2
   subst this;exact hk _ _ h
  ·rcases hv with ⟨_,rfl,hm1⟩|⟨g,c,hvv,hm1⟩
   ·simp[Loc.blk,hm1] at h2
   ·have:b'=g:=by simpa[Loc.blk,hm1] using h2
    subst this
    exact (hg b' (by simp[hvv,Value.ownBlock])).2 _ _ h
 ·exact hkept b' (hB.lt hs hb') (fun hmem=>hne (hB.apart i x id _ b' hs ho hb' hmem))
 ·refine ⟨b,cap,es,p',v',hm0,hh',hp',hk,hm3,?_⟩
  rcases hm4 with ⟨h1,h2,h3⟩|⟨g,c,arr,fr,h1,h2,h3,h4,h5,h6,h7,h8⟩
  ·exact .inl ⟨h2,h3,h1⟩
  ·have hgb:g≠b:=fun e=>hne' (by simp[h1,Value.ownBlock,e])
   refine .inr ⟨g,c,arr,fr,h2,hgb,h1,h3,h5,h6,h7,zn h8,h4,fun o u h=>?_⟩
   rcases f6 g (by simp[h1,Value.ownBlock]) with hh|hh
   ·exact (hg g hh).2 _ _ h
   ·have:=hB.keep_lt h;omega
 ·rcases hnewblk b' hb' with rfl|h
  ·exact hb0
  ·rcases f6 b' h with hh|hh
   ·exact hB.base id _ b' ho (hg b' hh).1
   ·exact Nat.le_trans hB.below.size hh
 ·rcases hnewblk b' hb' with rfl|h
  ·exact hne (hB.apart i x id _ b' hs ho hx hbmem)
  ·rcases f6 b' h with hh|hh
   ·exact hne (hB.apart i x id _ b' hs ho hx (hg b' hh).1)
   ·have:=hB.lt hs hx;omega
theorem ey(s t:List UInt8):Lib.byteCells s++Lib.byteCells t=Lib.byteCells (s++t):=by simp[Lib.byteCells]
theorem A1.bld_write{C:Ctx}{f:FuncId}{args:List AV}{σ:A2}{R:AV→A2→Prop}{id:Nat}{ty el:TypeId}{s t:List UInt8}{r:AV}(hc:∀vs w,(callFunc f vs).run C.P w = .ok (.enter f vs) w)(ho:σ[id]? = some (.bld ty el s))
  (h:∀m K w vs b p v,D0 C m K σ w→oz m K args vs→(∃ cap es,m id 0=some (.at b cap es))→BIs ty el w b p v (Lib.byteCells s)→(p = .pointer none∨p = .pointer (some ⟨b,0,none⟩)) →
   Calls C.P f vs w fun e w'=>∃u,e = .returned u∧D1 m K r u∧yd ty el w w' b v (Lib.byteCells s) (Lib.byteCells (s++t)))
  (hR:R r (σ.set id (.bld ty el (s++t)))):A1 C f args σ R:=by
 intro m K w vs hB hv
 obtain ⟨b,cap,es,p,v,hm,hp,hI,hk,hg,hver,hvv⟩:=hB.bld_is ho
 refine R1.of_calls (hc vs w) ((h m K w vs b p v hB hv ⟨cap,es,hm⟩ hI hp).mono fun e w' ⟨u,he,hu,v',hI',hF⟩=>?_)
 obtain ⟨m',hB',hx⟩:=hB.bld_put ho hm hk hg hver hvv (.inr rfl) hI' (by simpa[Lib.byteCells_length] using hF) (by simp)
 exact ⟨u,he,r,m',K,_,hB',by simp,hx.le _,hu.mono hx,hR⟩
section
variable {C:Ctx}{ρ ρ':Ren}{σ:A2}{R:AV→A2→Prop}{id:Nat}{ty el:TypeId}{s:List UInt8}{f:FuncId}
theorem A1.WriteString(L:Lays.n166 C.P ρ)(X:Builder.Extra C.P ρ)(hf:ρ.f 166=f)(h72:ρ.t 72=ty)(h5:ρ.t 5=el){t:List UInt8}(hc:∀vs w,(callFunc f vs).run C.P w = .ok (.enter f vs) w)(ho:σ[id]? = some (.bld ty el s))(hlen:s.length+t.length≤140737488355328)
  (hR:R (.tup [.pv (.int .i64 t.length),.pv (.raw .nilIface)]) (σ.set id (.bld ty el (s++t)))):A1 C f [.ptr id 0,.pv (.str t)] σ R:=by
 subst hf;subst h72;subst h5
 refine A1.bld_write (t:=t) hc ho (fun m K w vs b p v hB hv ⟨cap,es,hm⟩ hI hp=>?_) hR
 obtain ⟨x,y,rfl,hx,hy⟩:=hv.two
 obtain ⟨b2,_,_,rfl,hm2⟩:=hx.ptr_inv
 rw[hm] at hm2;cases hm2
 obtain rfl:=hy.str_inv
 refine (zd L X ⟨t.toArray⟩ hI hp (by simpa[Lib.byteCells_length,ByteArray.size] using hlen)).mono fun e w' ⟨he,hP⟩=>⟨_,he,?_,?_⟩
 ·refine .tup _ _ rfl (fun j a u ha hu=>?_)
  match j with
  | 0=>simp at ha hu;subst ha;subst hu;exact .pv _ _ (by simpa[ByteArray.size] using S4.int .i64 (t.length:Int))
  | 1=>simp at ha hu;subst ha;subst hu;exact .pv _ _ (.raw _ rfl)
  | j+2=>simp at ha
 ·have:Lib.strCells ⟨t.toArray⟩=Lib.byteCells t:=by simp[Lib.strCells,Lib.byteCells]
  rw[this,ey] at hP
  exact hP
theorem A1.WriteByte(L:Lays.n167 C.P ρ)(X:Builder.Extra C.P ρ)(hf:ρ.f 167=f)(h72:ρ.t 72=ty)(h5:ρ.t 5=el){c:UInt8}(hc:∀vs w,(callFunc f vs).run C.P w = .ok (.enter f vs) w)(ho:σ[id]? = some (.bld ty el s))(hlen:s.length+1≤140737488355328)
  (hR:R (.pv (.raw .nilIface)) (σ.set id (.bld ty el (s ++ [c])))):A1 C f [.ptr id 0,.pv (.int .u8 c.toNat)] σ R:=by
 subst hf;subst h72;subst h5
 refine A1.bld_write (t:=[c]) hc ho (fun m K w vs b p v hB hv ⟨cap,es,hm⟩ hI hp=>?_) hR
 obtain ⟨x,y,rfl,hx,hy⟩:=hv.two
 obtain ⟨b2,_,_,rfl,hm2⟩:=hx.ptr_inv
 rw[hm] at hm2;cases hm2
 obtain rfl:=hy.int_inv
 refine (Fa L X c.toNat hI hp (by simpa[Lib.byteCells_length] using hlen)).mono fun e w' ⟨he,hP⟩=>⟨_,he,.pv _ _ (.raw _ rfl),?_⟩
 have:[Value.int .u8 (c.toNat:Int)]=Lib.byteCells [c]:=by simp[Lib.byteCells]
 rw[this,ey] at hP
 exact hP
theorem A1.BuilderString(L:Lays.n169 C.P ρ)(X:Builder.Extra C.P ρ)(hf:ρ.f 169=f)(h72:ρ.t 72=ty)(h5:ρ.t 5=el)(hc:∀vs w,(callFunc f vs).run C.P w = .ok (.enter f vs) w)(ho:σ[id]? = some (.bld ty el s))
  (hR:R (.pv (.str s)) σ):A1 C f [.ptr id 0] σ R:=by
 subst hf;subst h72;subst h5
 intro m K w vs hB hv
 obtain ⟨x,rfl,hx⟩:=hv.one
 obtain ⟨b2,_,_,rfl,hm2⟩:=hx.ptr_inv
 obtain ⟨b,cap,es,p,v,hm,hp,hI,hk,hg,hver,hvv⟩:=hB.bld_is ho
 rw[hm] at hm2;cases hm2
 refine R1.of_calls (hc _ w) ((Qd L X s hI).mono fun e w' ⟨he,hI',hF⟩=>?_)
 obtain ⟨m',hB',hx⟩:=hB.bld_put (s':=s) ho hm hk hg hver hvv hp hI' ⟨hF.1,hF.2.1,hF.2.2.1,hF.2.2.2.1,hF.2.2.2.2.1,hF.2.2.2.2.2.1,fun _=>rfl⟩ (Nat.le_refl _)
 rw[ve ho] at hB'
 exact ⟨_,he,_,m',K,σ,hB',Nat.le_refl _,hx.le _,.pv _ _ (.str s),hR⟩
theorem A1.BuilderWrite(L:Lays7.n35 C.P ρ)(L':Lays.n240 C.P ρ')(X:Builder.Extra C.P ρ')(hf:ρ.f 35=f)(hf':ρ.f 52=ρ'.f 240)(h72:ρ.t 59=ρ'.t 72)(h5:ρ.t 5=ρ'.t 5)(hty:ρ.t 59=ty)(hel:ρ.t 5=el){t:List UInt8}{x:AV}(hc:∀vs w,(callFunc f vs).run C.P w = .ok (.enter f vs) w)(ho:σ[id]? = some (.bld ty el s))(hne:t ≠ [])
  (hx:∀m K w v,D0 C m K σ w→D1 m K x v → ∃b o c,v = .slice (some ⟨b,o,none⟩) t.length c∧(∀ b2 cap es,m id 0=some (.at b2 cap es)→b≠b2) ∧ ∀(j:Nat) u,(Lib.byteCells t)[j]? = some u→w.cell? ⟨b,o+j,none⟩=some u) (hlen:s.length+t.length≤140737488355328)
  (hR:R (.tup [.pv (.int .i64 t.length),.pv (.raw .nilIface)]) (σ.set id (.bld ty el (s++t)))):A1 C f [.ptr id 0,x] σ R:=by
 subst hf;subst hty;subst hel
 refine A1.bld_write (t:=t) hc ho (fun m K w vs b p v hB hv ⟨cap,es,hm⟩ hI hp=>?_) hR
 obtain ⟨x',y,rfl,hx',hy⟩:=hv.two
 obtain ⟨b2,_,_,rfl,hm2⟩:=hx'.ptr_inv
 rw[hm] at hm2;cases hm2
 obtain ⟨bb,o,c,rfl,hbb,hcells⟩:=hx m K w y hB hy
 refine (Tz L L' X hf' h72 h5 ⟨bb,o,none⟩ t.length c (Lib.byteCells t) hI hp (Lib.byteCells_length t) (fun j u hj=>?_) (hbb _ _ _ hm) (fun u hu=>?_) (by simpa[Lib.byteCells_length] using hlen)).mono fun e w' ⟨he,hP⟩=>⟨_,he,?_,?_⟩
 ·rw[V6];exact hcells j u hj
 ·obtain ⟨c',_,rfl⟩:=List.mem_map.1 hu
  rfl
 ·refine .tup _ _ rfl (fun j a u ha hu=>?_)
  match j with
  | 0=>simp at ha hu;subst ha;subst hu;exact .pv _ _ (.int _ _)
  | 1=>simp at ha hu;subst ha;subst hu;exact .pv _ _ (.raw _ rfl)
  | j+2=>simp at ha
 ·rw[ey] at hP
  exact hP
end
end
end Go.Sv
