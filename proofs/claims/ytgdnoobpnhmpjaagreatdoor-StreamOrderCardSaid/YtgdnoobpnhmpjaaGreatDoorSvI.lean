/- What the executor says of the small operations is true of the model: parts, places, slices, numbers, comparisons. No program stands in this text. What the executor says of numbers, comparisons and interfaces is true of the model; then of every plain operation. No program stands in this text. Maps: what the executor says of making, reading and writing one is true of the model. No program stands in this text. What the executor says of every plain operation is true of the model. No program stands in this text. Operations one behind the other, calls and pieces of code over stores: what the executor says is true of the model (regions that draw aside). No program stands in this text. One operation, then regions in the order of the text: what the executor says is true of the model. No program stands in this text. -/
import Derived.Test.YtgdnoobpnhmpjaaGreatDoorSvA
import Derived.Laws.Slices
import Derived.Laws.StructEq
import Derived.MapKept
import Derived.Laws.Strings
set_option linter.unusedVariables false
set_option linter.unusedSimpArgs false
namespace Go.Sv
attribute [local semireducible] A2
section
open Go Go.RowKit
theorem wz{P:Program}{m:Mp}{K:KS}{w:World}{t:TypeId}{ti:TI}(hT:N0 P t ti){cs:List AV}{vs:Array Value}(hr:cs.length=vs.size ∧ ∀(j:Nat) a v,cs[j]? = some a→vs[j]? = some v→C7 m K a v)
  (h1:∀(j:Nat) (v:Value),vs[j]? = some v→v.oneCell'=true) {off:Nat} {r:AV} (h:ji ti.td.isAgg ti.size off cs=some r):∃v,(part t vs off).run P w = .ok v w∧C7 m K r v:=by
 unfold ji at h
 unfold part
 simp only[Sem.run_bind,sa hT,Result.andThen_ok]
 cases ha:ti.td.isAgg with
 | true=>
  rw[ha] at h
  simp only[if_true] at h ⊢
  split at h
  ·rename_i hle
   cases h
   refine ⟨.agg (vs.extract off (off+ti.size)),by simp[R3 hT],cg ?_ (fun j p v hp hv=>?_) (fun j v hv=>?_)⟩
   ·simp only[List.length_take,List.length_drop,Array.size_extract];have:=hr.1;omega
   ·rw[List.getElem?_take] at hp
    split at hp
    ·rename_i hj
     rw[List.getElem?_drop] at hp
     rw[Array.getElem?_extract] at hv
     split at hv
     ·exact hr.2 _ p v hp hv
     ·cases hv
    ·cases hp
   ·rw[Array.getElem?_extract] at hv
    split at hv
    ·exact h1 _ v hv
    ·cases hv
  ·cases h
 | false=>
  rw[ha] at h
  simp only[Bool.false_eq_true,if_false] at h ⊢
  have hlt:off<vs.size:=by rw[← hr.1];exact (List.getElem?_eq_some_iff.1 h).1
  have hv:vs[off]? = some vs[off]:=Array.getElem?_eq_getElem hlt
  exact ⟨vs[off],by simp[hv],hr.2 off r _ h hv⟩
theorem N0.struct{P:Program}{t:TypeId}{ti:TI}(h:N0 P t ti){fs:List (Nat×TypeId)}(hd:ti.td = .struct fs):∃fields:Array Field,P.underlying t=some (.struct fields)∧fs=fields.toList.map fun f=>(f.offset,f.type):=by
 obtain ⟨d,hu,e⟩:=h.under
 rw[hd] at e
 cases d<;>simp[TD.of] at e
 subst e
 exact ⟨_,hu,rfl⟩
theorem N0.array{P:Program}{t el:TypeId}{n:Nat}{ti:TI}(h:N0 P t ti)(hd:ti.td = .array n el):P.underlying t=some (.array n el):=by
 obtain ⟨d,hu,e⟩:=h.under
 rw[hd] at e
 cases d<;>simp[TD.of] at e
 obtain ⟨rfl,rfl⟩:=e
 exact hu
theorem pv_agg{m:Mp}{K:KS}{cs:List PV}{x:Value}(h:N7 K (.agg cs) x):∃vs,x = .agg vs∧(cs.map AV.pv).length=vs.size∧(∀ (j:Nat) a v,(cs.map AV.pv)[j]? = some a→vs[j]? = some v→C7 m K a v) ∧ ∀(j:Nat) (v:Value),vs[j]? = some v→v.oneCell'=true:=by
 cases h with
 | agg _ vs hl hr h1=>
  refine ⟨vs,rfl,by simpa using hl,fun j a v ha hv=>?_,h1⟩
  simp only[List.getElem?_map,Option.map_eq_some_iff] at ha
  obtain ⟨p,hp,rfl⟩:=ha
  exact .pv _ _ (hr j p v hp hv)
theorem tg{C:Ctx}(hC:X1 C){m:Mp}{K:KS}{w:World}{t:TypeId}{ti:TI}(hT:N0 C.P t ti){a:AV}{x:Value}(hx:C7 m K a x){f:Nat}{r:AV}(h:aField C.tab ti.td a f=some r):
  ∃v,(Instr.field t x f).run C.P w = .ok v w∧C7 m K r v:=by
 unfold aField at h
 split at h
 ·rename_i fs hd
  obtain ⟨fields,hu,rfl⟩:=hT.struct hd
  split at h
  ·rename_i o ft hf
   split at h
   ·rename_i fi hfi
    have hF:=hC _ _ hfi
    have hfield:∃fd:Field,fields[f]? = some fd∧fd.offset=o∧fd.type=ft:=by
     simp only[List.getElem?_map,Option.map_eq_some_iff,Array.getElem?_toList] at hf
     obtain ⟨fd,hfd,he⟩:=hf
     exact ⟨fd,hfd,by simpa using congrArg Prod.fst he,by simpa using congrArg Prod.snd he⟩
    obtain ⟨fd,hfd,rfl,rfl⟩:=hfield
    have core:∀(cs:List AV) (vs:Array Value),x = .agg vs→(cs.length=vs.size ∧ ∀(j:Nat) a v,cs[j]? = some a→vs[j]? = some v→C7 m K a v)→(∀ (j:Nat) (v:Value),vs[j]? = some v→v.oneCell'=true) →
      ∀r,ji fi.td.isAgg fi.size fd.offset cs=some r → ∃v,(Instr.field t x f).run C.P w = .ok v w∧C7 m K r v:=by
     intro cs vs e hr h1 r hp
     subst e
     obtain ⟨v,hv,hrep⟩:=wz (w:=w) hF hr h1 hp
     exact ⟨v,by simp[Instr.field,run_underlying hu,hfd,asAgg,hv],hrep⟩
    split at h
    ·split at h
     ·rename_i cs
      cases hq:ga fi.td.isAgg fi.size fd.offset (.agg cs) with
      | none=>rw[hq] at h;simp at h
      | some q=>
       rw[hq] at h
       simp only[Option.map_some,Option.some.injEq] at h
       subst h
       obtain ⟨vs,e,hl,hr,h1⟩:=pv_agg (m:=m) hx.pv_inv
       exact core _ vs e ⟨hl,hr⟩ h1 _ (gq hq)
     ·cases h
    ·rename_i cs
     cases hx with
     | agg _ vs hl hr h1=>exact core cs vs rfl ⟨hl,hr⟩ h1 r h
    ·cases h
   ·cases h
  ·cases h
 ·cases h
theorem ky{C:Ctx}(hC:X1 C){m:Mp}{K:KS}{w:World}{t:TypeId}{ti:TI}(hT:N0 C.P t ti){a:AV}{x:Value}(hx:C7 m K a x){f:Nat}{r:AV}(h:A3 C.tab ti.td a f=some r):
  ∃v,(Instr.fieldAt t x f).run C.P w = .ok v w∧C7 m K r v:=by
 unfold A3 at h
 split at h
 ·rename_i fs hd
  obtain ⟨fields,hu,rfl⟩:=hT.struct hd
  split at h
  ·rename_i o ft hf
   split at h
   ·rename_i fi hfi
    have hF:=hC _ _ hfi
    have hfield:∃fd:Field,fields[f]? = some fd∧fd.offset=o∧fd.type=ft:=by
     simp only[List.getElem?_map,Option.map_eq_some_iff,Array.getElem?_toList] at hf
     obtain ⟨fd,hfd,he⟩:=hf
     exact ⟨fd,hfd,by simpa using congrArg Prod.fst he,by simpa using congrArg Prod.snd he⟩
    obtain ⟨fd,hfd,rfl,rfl⟩:=hfield
    split at h
    ·cases h
    ·rename_i hne
     have hrun:∀ad:Addr,(Instr.fieldAt t (.pointer (some ad)) f).run C.P w = .ok (.pointer (some (ad.add fd.offset))) w:=by
      intro ad
      simp[Instr.fieldAt,run_underlying hu,hfd,Instr.sureAddr,fieldPlace,R3 hF,hne]
     split at h
     ·cases h
      cases hx with
      | ptr _ _ b cap es hm=>exact ⟨_,hrun _,by rw[R2];exact .ptr _ _ _ _ _ hm⟩
     ·cases h
      cases hx with
      | ro _ _ b o2 vs hl hr hk=>exact ⟨_,hrun _,by rw[R2,Nat.add_assoc];exact .ro _ _ _ _ vs hl hr hk⟩
     ·cases h
      cases hx with
      | eptr _ _ _ _ b cap es hm hi=>exact ⟨_,hrun _,by rw[R2,Nat.add_assoc];exact .eptr _ _ _ _ _ _ _ hm hi⟩
     ·cases h
   ·cases h
  ·cases h
 ·cases h
theorem ov{C:Ctx}{m:Mp}{K:KS}{w:World}{vs:List AV}{x:Value}(hx:C7 m K (.tup vs) x){i:Nat}{r:AV}(h:vs[i]? = some r):∃v,(Instr.extract x i).run C.P w = .ok v w∧C7 m K r v:=by
 cases hx with
 | tup _ us hl hr=>
  have hlt:i<us.size:=by rw[← hl];exact (List.getElem?_eq_some_iff.1 h).1
  have hv:us[i]? = some us[i]:=Array.getElem?_eq_getElem hlt
  exact ⟨us[i],by simp[Instr.extract,hv],hr i r _ h hv⟩
theorem len_sound{C:Ctx}{m:Mp}{K:KS}{w:World}{t ty:TypeId}{ti:TI}(hT:N0 C.P t ti){a:AV}{x:Value}(hx:C7 m K a x){r:AV}(h:R5 ti.td a=some r){ts:Array TypeId}{xs:Array Value}(hts:ts[0]? = some t)(hxs:xs[0]? = some x):
  ∃v,(Builtin.len_ ts ty xs).run C.P w = .ok v w∧C7 m K r v:=by
 unfold R5 at h
 split at h
 ·rename_i s
  split at h
  ·rename_i htd
   cases h
   have hd:ti.td = .str:=by
    cases hq:ti.td<;>simp[hq] at htd
    rfl
   cases hx.pv_inv
   exact ⟨_,by simp[Builtin.len_,hts,hxs,run_underlying (hT.str hd),goInt];rfl,.pv _ _ (by simp[ByteArray.size];exact .int _ _)⟩
  ·cases h
 ·rename_i xs
  split at h
  ·rename_i htd
   cases h
   have hd:∃el,ti.td = .slice el:=by
    cases hq:ti.td<;>simp[hq] at htd
    exact ⟨_,rfl⟩
   obtain ⟨el,hd⟩:=hd
   cases hx.pv_inv with
   | slNil a c=>exact ⟨_,by simp[Builtin.len_,hts,hxs,run_underlying (hT.slice hd),goInt],.pv _ _ (.int _ _)⟩
   | sl _ es b o c vs hc he hl hr hk=>exact ⟨_,by simp[Builtin.len_,hts,hxs,run_underlying (hT.slice hd),goInt],.pv _ _ (.int _ _)⟩
  ·cases h
 ·split at h
  ·rename_i htd
   cases h
   have hd:∃el,ti.td = .slice el:=by
    cases hq:ti.td<;>simp[hq] at htd
    exact ⟨_,rfl⟩
   obtain ⟨el,hd⟩:=hd
   cases hx
   exact ⟨_,by simp[Builtin.len_,hts,hxs,run_underlying (hT.slice hd),goInt],.pv _ _ (.int _ _)⟩
  ·cases h
 ·rename_i id ver off len
  split at h
  ·rename_i htd
   cases h
   have hd:∃el,ti.td = .slice el:=by
    cases hq:ti.td<;>simp[hq] at htd
    exact ⟨_,rfl⟩
   obtain ⟨el,hd⟩:=hd
   rcases hx.arr_inv with ⟨b,cap,es,c,a,rfl,_⟩|⟨_,_,rfl,rfl,_⟩
   ·exact ⟨_,by simp[Builtin.len_,hts,hxs,run_underlying (hT.slice hd),goInt],.pv _ _ (.int _ _)⟩
   ·exact ⟨_,by simp[Builtin.len_,hts,hxs,run_underlying (hT.slice hd),goInt],.pv _ _ (.int _ _)⟩
  ·cases h
 ·cases h
theorem kx{C:Ctx}(hC:X1 C){m:Mp}{K:KS}{σ:A1}{w:World}(hB:C5 C m K σ w){t:TypeId}{ti:TI}(hT:N0 C.P t ti){a:AV}{x:Value}(hx:C7 m K a x){k:IntKind}{n:Int}{r:AV}(h:D1 σ C.tab ti.td a n=some r):
  ∃v,(Instr.indexAt t x (.int k n)).run C.P w = .ok v w∧C7 m K r v:=by
 unfold D1 at h
 split at h
 ·rename_i el hd
  have hu:=hT.slice hd
  split at h
  ·cases h
  ·rename_i ei hei
   have hE:=hC _ _ hei
   have hrun:∀(ad:Addr) (len c:Nat),0≤n→n<len→(Instr.indexAt t (.slice (some ad) len c) (.int k n)).run C.P w = .ok (.pointer (some (ad.add (n.toNat*ei.size)))) w:=by
    intro ad len c h0 h1
    simp[Instr.indexAt,asIntOf,run_underlying hu,R3 hE,h0,h1]
   split at h
   ·rename_i xs
    split at h
    ·rename_i hc
     split at h
     ·rename_i y hy
      split at h
      ·rename_i hyl
       cases h
       have hlt:n.toNat<xs.length:=(List.getElem?_eq_some_iff.1 hy).1
       cases hx.pv_inv with
       | slNil a c=>simp at hlt
       | sl _ es b o c vs hcap he hl hr hk=>
        have hes:es=ei.size:=by rw[← he y (List.mem_of_getElem? hy),hyl]
        subst hes
        refine ⟨_,hrun _ _ _ hc.1 hc.2,?_⟩
        rw[R2]
        have hfl:=I6 he
        have hle:n.toNat*ei.size+ei.size≤xs.length*ei.size:=by
         have:(n.toNat+1)*ei.size≤xs.length*ei.size:=Nat.mul_le_mul_right _ hlt
         rw[Nat.add_mul] at this;omega
        have key:=C7.ro (m:=m) (K:=K) y 0 b (o+n.toNat*ei.size) ((vs.drop (n.toNat*ei.size)).take ei.size) (by rw[hyl,List.length_take,List.length_drop];omega)
         (fun j q v hq hv=>by
          rw[List.getElem?_take] at hv
          split at hv
          ·rename_i hj
           rw[List.getElem?_drop] at hv
           have:=bd he hy j hj
           rw[hq] at this
           exact hr _ q v this hv
          ·cases hv) (fun j v hv=>by
          rw[List.getElem?_take] at hv
          split at hv
          ·rw[List.getElem?_drop] at hv
           have:=hk _ v hv
           rw[Nat.add_assoc]
           exact this
          ·cases hv)
        simpa using key
      ·cases h
     ·cases h
    ·cases h
   ·rename_i id ver off len
    split at h
    ·rename_i es xs fz ho
     split at h
     ·rename_i hc
      obtain ⟨h0,h1,rfl,rfl⟩:=hc
      cases h
      rcases hx.arr_inv with ⟨b,cap,es',c,a,rfl,hm,hc,hl,hv,ha⟩|⟨hv0,hoff,hlen,rfl,hm⟩
      ·obtain ⟨rfl,_⟩:=hB.arr_open ho hm
       have hpos:0<c:=by omega
       have ha':a=some ⟨b,off*ei.size,none⟩:=by
        rcases ha with hz|hz
        ·omega
        ·exact hz
       subst ha'
       refine ⟨_,hrun _ _ _ h0 h1,?_⟩
       rw[R2]
       have e:off*ei.size+n.toNat*ei.size=(off+n.toNat)*ei.size+0:=by rw[Nat.add_mul];rfl
       rw[e]
       exact .eptr _ _ _ _ _ _ _ hm (by omega)
      ·omega
     ·cases h
    ·cases h
   ·rename_i id len
    split at h
    ·rename_i hc
     obtain ⟨h0,h1,h2⟩:=hc
     cases h
     cases hx with
     | avs _ _ b cap es hm=>
      refine ⟨_,hrun _ _ _ h0 h1,?_⟩
      rw[R2,h2,Nat.mul_one,Nat.zero_add]
      exact .ptr _ _ _ _ _ hm
    ·cases h
   ·cases h
 ·rename_i len el hd
  have hu:=hT.array hd
  split at h
  ·cases h
  ·rename_i ei hei
   have hE:=hC _ _ hei
   split at h
   ·rename_i hc
    have hrun:∀(ad:Addr),(Instr.indexAt t (.pointer (some ad)) (.int k n)).run C.P w = .ok (.pointer (some (ad.add (n.toNat*ei.size)))) w:=by
     intro ad
     simp[Instr.indexAt,asIntOf,run_underlying hu,R3 hE,hc.1,hc.2,Instr.sureAddr]
    split at h
    ·cases h
     cases hx with
     | ptr _ _ b cap es hm=>exact ⟨_,hrun _,by rw[R2];exact .ptr _ _ _ _ _ hm⟩
    ·cases h
     cases hx with
     | ro _ _ b o2 vs hl hr hk=>exact ⟨_,hrun _,by rw[R2,Nat.add_assoc];exact .ro _ _ _ _ vs hl hr hk⟩
    ·cases h
     cases hx with
     | eptr _ _ _ _ b cap es hm hi=>exact ⟨_,hrun _,by rw[R2,Nat.add_assoc];exact .eptr _ _ _ _ _ _ _ hm hi⟩
    ·cases h
   ·cases h
 ·cases h
theorem tv{C:Ctx}(hC:X1 C){m:Mp}{K:KS}{w:World}{t:TypeId}{ti:TI}(hT:N0 C.P t ti){a:AV}{x:Value}(hx:C7 m K a x){k:IntKind}{n:Int}{r:AV}(h:L7 C.tab ti.td a n=some r):
  ∃v,(Instr.index t x (.int k n)).run C.P w = .ok v w∧C7 m K r v:=by
 unfold L7 at h
 split at h
 ·rename_i s hd
  split at h
  ·rename_i hc
   split at h
   ·rename_i c hcs
    cases h
    cases hx.pv_inv
    refine ⟨.int .u8 c.toNat,?_,.pv _ _ (.int _ _)⟩
    have hlt:n.toNat<s.length:=(List.getElem?_eq_some_iff.1 hcs).1
    have e:(⟨s.toArray⟩:ByteArray)[n.toNat]? = some c:=by
     rw[getElem?_pos (⟨s.toArray⟩:ByteArray) n.toNat (by simpa[ByteArray.size] using hlt)]
     congr 1
     have:=(List.getElem?_eq_some_iff.1 hcs).2
     simpa[ByteArray.getElem_eq_getElem_data] using this
    simp[Instr.index,asIntOf,run_underlying (hT.str hd),hc.1,e]
   ·cases h
  ·cases h
 ·rename_i len el _ hd
  have hu:=hT.array hd
  split at h
  ·cases h
  ·rename_i ei hei
   have hE:=hC _ _ hei
   split at h
   ·rename_i hc
    have core:∀(cs:List AV) (vs:Array Value),x = .agg vs→(cs.length=vs.size ∧ ∀(j:Nat) a v,cs[j]? = some a→vs[j]? = some v→C7 m K a v)→(∀ (j:Nat) (v:Value),vs[j]? = some v→v.oneCell'=true) →
      ∀r,ji ei.td.isAgg ei.size (n.toNat*ei.size) cs=some r → ∃v,(Instr.index t x (.int k n)).run C.P w = .ok v w∧C7 m K r v:=by
     intro cs vs e hr h1 r hp
     subst e
     obtain ⟨v,hv,hrep⟩:=wz (w:=w) hE hr h1 hp
     exact ⟨v,by simp[Instr.index,asIntOf,run_underlying hu,R3 hE,hc.1,hc.2,hv],hrep⟩
    split at h
    ·split at h
     ·rename_i cs
      cases hq:ga ei.td.isAgg ei.size (n.toNat*ei.size) (.agg cs) with
      | none=>rw[hq] at h;simp at h
      | some q=>
       rw[hq] at h
       simp only[Option.map_some,Option.some.injEq] at h
       subst h
       obtain ⟨vs,e,hl,hr,h1⟩:=pv_agg (m:=m) hx.pv_inv
       exact core _ vs e ⟨hl,hr⟩ h1 _ (gq hq)
     ·cases h
    ·rename_i cs
     cases hx with
     | agg _ vs hl hr h1=>exact core cs vs rfl ⟨hl,hr⟩ h1 r h
    ·cases h
   ·cases h
 ·cases h
theorem asI_rep{m:Mp}{K:KS}{a:AV}{x:Value}{i:Int}(h:C7 m K a x)(hi:asI a=some i):∃k,x = .int k i:=by
 unfold asI at hi
 split at hi
 ·cases hi
  cases h.pv_inv
  exact ⟨_,rfl⟩
 ·cases hi
theorem fh{P:Program}{w:World}(b:Bool)(len cap:Nat)(low high:Option Value)(l h:Int)(hl:(low=none∧l=0) ∨ ∃k,low=some (.int k l))(hh:(high=none∧h=len) ∨ ∃k,high=some (.int k h))
  (h0:0≤l) (h1:l≤h) (h2:h≤len) (h3:len≤cap):(Instr.sliceBounds b len cap low high none).run P w = .ok (l.toNat,h.toNat,cap) w:=by
 have hh2:h≤(cap:Int):=by omega
 have hl2:l≤(h.toNat:Int):=by omega
 have h02:0≤h:=by omega
 have hl3:(l.toNat:Int)=l:=by omega
 rcases hl with ⟨rfl,rfl⟩|⟨k,rfl⟩<;>rcases hh with ⟨rfl,rfl⟩|⟨k',rfl⟩
 ·simp[Instr.sliceBounds]
 ·simp[Instr.sliceBounds,run_sliceBound w k' h cap _ h02 hh2]
 ·have:l≤(len:Int):=by omega
  simp[Instr.sliceBounds,run_sliceBound w k l len _ h0 this]
 ·simp[Instr.sliceBounds,run_sliceBound w k' h cap _ h02 hh2,run_sliceBound w k l h.toNat _ h0 hl2]
theorem bytes_extract(s:List UInt8)(l h:Nat):((⟨s.toArray⟩:ByteArray).extract l h)=⟨((s.take h).drop l).toArray⟩:=by
 have:((⟨s.toArray⟩:ByteArray).extract l h).data=((s.take h).drop l).toArray:=by
  rw[ByteArray.data_extract]
  simp[List.drop_take]
 cases hx:(⟨s.toArray⟩:ByteArray).extract l h with
 | mk d=>rw[hx] at this;simp only at this;rw[this]
theorem sl_slice{K:KS}{xs:List PV}{x:Value}(hx:N7 K (.sl xs) x){n:Nat}(hn:X6 n xs=true)(l h:Nat)(h1:l≤h)(h2:h≤xs.length):
  ∃a c,x = .slice a xs.length c∧xs.length≤c∧N7 K (.sl ((xs.take h).drop l)) (.slice (if c=l then a else a.map (·.add (l*n))) (h-l) (c-l)):=by
 have hes:=qd hn
 have hlen:((xs.take h).drop l).length=h-l:=by rw[List.length_drop,List.length_take];omega
 cases hx with
 | slNil a c=>
  refine ⟨a,c,rfl,Nat.zero_le _,?_⟩
  have hl0:l=0:=by simp at h2;omega
  have hh0:h=0:=by simpa using h2
  subst hl0;subst hh0
  exact .slNil _ _
 | sl _ es b o c vs hc he hl hr hk=>
  refine ⟨_,c,rfl,hc,?_⟩
  by_cases e:h-l=0
  ·have:(xs.take h).drop l = []:=List.eq_nil_of_length_eq_zero (by omega)
   rw[this,e]
   exact .slNil _ _
  ·have hcl:c≠l:=by omega
   have hne:xs ≠ []:=by intro e2;subst e2;simp at h2;omega
   have hees:es=n:=by
    cases xs with
    | nil=>exact absurd rfl hne
    | cons y r=>rw[← he y (by simp),hes y (by simp)]
   subst hees
   rw[if_neg hcl]
   simp only[Option.map_some,R2]
   rw[← hlen]
   have hfl:=I6 he
   have hmul:l*es≤h*es:=Nat.mul_le_mul_right _ h1
   have hmul2:h*es≤xs.length*es:=Nat.mul_le_mul_right _ h2
   refine .sl _ es b (o+l*es) (c-l) ((vs.take (h*es)).drop (l*es)) (by omega) (fun y hy=>he y (List.mem_of_mem_take (List.mem_of_mem_drop hy))) ?_ (fun j p v hp hv=>?_) (fun j v hv=>?_)
   ·rw[I6 (es:=es) (fun y hy=>he y (List.mem_of_mem_take (List.mem_of_mem_drop hy))),hlen,List.length_drop,List.length_take,Nat.sub_mul];omega
   ·rw[mq (fun y hy=>he y (List.mem_of_mem_take hy)),ja he] at hp
    rw[List.getElem?_drop,List.getElem?_take] at hp hv
    split at hp
    ·rename_i hj
     rw[if_pos hj] at hv
     exact hr _ p v hp hv
    ·cases hp
   ·rw[List.getElem?_drop,List.getElem?_take] at hv
    split at hv
    ·rw[Nat.add_assoc]
     exact hk _ v hv
    ·cases hv
theorem bnd_rep{m:Mp}{K:KS}{lo:Option AV}{lov:Option Value}{d i:Int}(h1:∀u,lo=some u → ∃v,lov=some v∧C7 m K u v)(h0:lo=none→lov=none)(h:bndA d lo=some i):(lov=none∧i=d) ∨ ∃k,lov=some (.int k i):=by
 unfold bndA at h
 split at h
 ·cases h
  exact .inl ⟨h0 rfl,rfl⟩
 ·obtain ⟨v,hv,hr⟩:=h1 _ rfl
  obtain ⟨k,rfl⟩:=asI_rep hr h
  exact .inr ⟨k,hv⟩
theorem uf{C:Ctx}(hC:X1 C){m:Mp}{K:KS}{σ:A1}{w:World}(hB:C5 C m K σ w){t:TypeId}{ti:TI}(hT:N0 C.P t ti){a:AV}{x:Value}(hx:C7 m K a x){lo hi:Option AV}{lov hiv:Option Value}
  (hlo:∀u,lo=some u → ∃v,lov=some v∧C7 m K u v) (hlo0:lo=none→lov=none) (hhi:∀u,hi=some u → ∃v,hiv=some v∧C7 m K u v) (hhi0:hi=none→hiv=none) {r:AV} (h:G7 σ C.tab ti.td a lo hi=some r):
  ∃v,(Instr.sliceAt t x lov hiv none).run C.P w = .ok v w∧C7 m K r v:=by
 unfold G7 at h
 split at h
 ·cases h
 ·rename_i n hn
  split at h
  ·rename_i l hh hl hhh
   have q1:=bnd_rep hlo hlo0 hl
   have q2:=bnd_rep hhi hhi0 hhh
   split at h
   ·rename_i hc
    obtain ⟨h0,h1,h2⟩:=hc
    split at h
    ·rename_i s hd
     cases h
     simp only[lenA,Option.some.injEq] at hn
     subst hn
     cases hx.pv_inv
     have hb:=fh (P:=C.P) (w:=w) false s.length s.length lov hiv l hh q1 q2 h0 h1 h2 (Nat.le_refl _)
     refine ⟨.string (((⟨s.toArray⟩:ByteArray)).extract l.toNat hh.toNat),?_,?_⟩
     ·have hsz:ByteArray.size ⟨s.toArray⟩=s.length:=by simp[ByteArray.size]
      simp[Instr.sliceAt,Instr.slice,run_underlying (hT.str hd),hsz,hb]
     ·rw[bytes_extract]
      exact .pv _ _ (.str _)
    ·rename_i el xs hd
     split at h
     ·rename_i ei hei
      split at h
      ·rename_i hs
       cases h
       simp only[lenA,Option.some.injEq] at hn
       subst hn
       obtain ⟨ad,c,rfl,hlc,hrep⟩:=sl_slice hx.pv_inv hs l.toNat hh.toNat (by omega) (by omega)
       have hb:=fh (P:=C.P) (w:=w) true xs.length c lov hiv l hh q1 q2 h0 h1 h2 hlc
       refine ⟨_,?_,.pv _ _ hrep⟩
       simp[Instr.sliceAt,Instr.slice,run_underlying (hT.slice hd),hb,R3 (hC _ _ hei)]
      ·cases h
     ·cases h
    ·rename_i el hd
     split at h
     ·rename_i hs
      cases h
      obtain ⟨ei,hei⟩:=Option.isSome_iff_exists.1 hs
      simp only[lenA,Option.some.injEq] at hn
      subst hn
      cases hx
      have hb:=fh (P:=C.P) (w:=w) true 0 0 lov hiv l hh q1 q2 h0 h1 h2 (Nat.le_refl _)
      have e1:l.toNat=0:=by omega
      have e2:hh.toNat=0:=by omega
      rw[e1,e2] at hb
      refine ⟨_,?_,.nilsl⟩
      simp[Instr.sliceAt,Instr.slice,run_underlying (hT.slice hd),hb,R3 (hC _ _ hei)]
     ·cases h
    ·rename_i el id ver off len hd
     split at h
     ·rename_i ei es xs fz hei ho
      split at h
      ·rename_i hc2
       obtain ⟨rfl,rfl⟩:=hc2
       cases h
       simp only[lenA,Option.some.injEq] at hn
       subst hn
       rcases hx.arr_inv with ⟨b,cap,es',c,ad,rfl,hm,hc,hl,hv,ha⟩|⟨hv0,hoff,hlen,rfl,hm⟩
       ·obtain ⟨rfl,_⟩:=hB.arr_open ho hm
        have hb:=fh (P:=C.P) (w:=w) true len c lov hiv l hh q1 q2 h0 h1 h2 (by omega)
        refine ⟨_,by simp[Instr.sliceAt,Instr.slice,run_underlying (hT.slice hd),hb,R3 (hC _ _ hei)];rfl,?_⟩
        have e:(hh-l).toNat=hh.toNat-l.toNat:=by omega
        rw[e]
        refine .arr _ _ _ _ b cap _ _ _ hm (by omega) (by omega) hv ?_
        by_cases hcl:c=l.toNat
        ·left;omega
        ·right
         rcases ha with hz|rfl
         ·omega
         ·rw[if_neg hcl]
          simp[R2,Nat.add_mul]
       ·have hb:=fh (P:=C.P) (w:=w) true len 0 lov hiv l hh q1 q2 h0 h1 h2 (by omega)
        have e1:l.toNat=0:=by omega
        have e2:hh.toNat=0:=by omega
        rw[e1,e2] at hb
        have e3:(hh-l).toNat=0:=by omega
        refine ⟨.slice none 0 0,by subst hlen;simp[Instr.sliceAt,Instr.slice,run_underlying (hT.slice hd),hb,R3 (hC _ _ hei)],?_⟩
        rw[e1,e3,hoff,hv0]
        exact .arrNil _ hm
      ·cases h
     ·cases h
    ·cases h
   ·cases h
  ·cases h
end
section
open Go Go.RowKit
theorem eqGuard_int{P:Program}{w:World}(op:BinOp)(t:TypeId)(x y:Operand){k k':IntKind}{a b:Int}:(eqGuard op t x y (.int k a) (.int k' b)).run P w = .ok () w:=by
 unfold eqGuard
 split<;>rfl
theorem eqGuard_str{P:Program}{w:World}(op:BinOp)(t:TypeId)(x y:Operand){a b:ByteArray}:(eqGuard op t x y (.string a) (.string b)).run P w = .ok () w:=by
 unfold eqGuard
 split<;>rfl
theorem binInt_sound{C:Ctx}{m:Mp}{K:KS}{w:World}{t:TypeId}{lit:Bool}{op:BinOp}{kd kd':IntKind}{a b:Int}{k:AV→Prop}(h:Q9 C.tab t lit op (.pv (.int kd a)) (.pv (.int kd' b)) k):
  ∃r,k r ∧ ∃v,(binOp op t (.int kd a) (.int kd' b)).run C.P w = .ok v w∧C7 m K r v:=by
 unfold Q9 at h
 cases op
 case shl=>
  obtain ⟨h0,h⟩:=h
  refine ⟨_,h,_,?_,.pv _ _ (.int _ _)⟩
  have:¬b<0:=by omega
  simp[binOp,Op.shift,this]
 case shr=>
  obtain ⟨h0,h⟩:=h
  refine ⟨_,h,_,?_,.pv _ _ (.int _ _)⟩
  have:¬b<0:=by omega
  simp[binOp,Op.shift,this]
 case quo=>
  simp only at h
  split at h
  ·rename_i e
   obtain ⟨h0,h⟩:=h
   exact ⟨_,h,_,by simp[binOp,Op.intDiv,e,h0],.pv _ _ (.int _ _)⟩
  ·cases h
 case rem=>
  simp only at h
  split at h
  ·rename_i e
   obtain ⟨h0,h⟩:=h
   exact ⟨_,h,_,by simp[binOp,Op.intDiv,e,h0],.pv _ _ (.int _ _)⟩
  ·cases h
 all_goals try simp only at h
 all_goals
  split at h
  ·rename_i e
   first
    | exact absurd h id
    | exact ⟨_,h,_,by simp[binOp,Op.intArith,Op.intBits,Op.intCmp,e];try rfl,.pv _ _ (.int _ _)⟩
    | exact ⟨_,h,_,by simp[binOp,Op.intArith,Op.intBits,Op.intCmp,e];try rfl,.pv _ _ (.bool _)⟩
  ·cases h
theorem binStr_sound{C:Ctx}{m:Mp}{K:KS}{w:World}{t:TypeId}{lit:Bool}{op:BinOp}{a b:List UInt8}{k:AV→Prop}(h:Q9 C.tab t lit op (.pv (.str a)) (.pv (.str b)) k):
  ∃r,k r ∧ ∃v,(binOp op t (.string ⟨a.toArray⟩) (.string ⟨b.toArray⟩)).run C.P w = .ok v w∧C7 m K r v:=by
 unfold Q9 at h
 cases op
 case add=>
  obtain ⟨h0,h⟩:=h
  refine ⟨_,h,.string ⟨(a++b).toArray⟩,?_,.pv _ _ (.str _)⟩
  have h1:¬(9223372036854775807<(a.length:Int)+b.length):=by omega
  have e:(⟨a.toArray⟩:ByteArray)++⟨b.toArray⟩=⟨(a++b).toArray⟩:=by
   have:((⟨a.toArray⟩:ByteArray)++⟨b.toArray⟩).data=(a++b).toArray:=by simp[ByteArray.data_append]
   cases hx:(⟨a.toArray⟩:ByteArray)++⟨b.toArray⟩ with
   | mk d=>rw[hx] at this;simp only at this;rw[this]
  simp[binOp,Op.stringOp,ByteArray.size,IntKind.max,IntKind.bits,IntKind.signed,h1,e]
 all_goals try simp only at h
 all_goals exact ⟨_,h,_,by simp[binOp,Op.stringOp,Go.ByteArray.toList_mk];try rfl,.pv _ _ (.bool _)⟩
theorem C4{α:Type}{x:Option α}{k:α→Prop}(h:opt x k):∃v,x=some v∧k v:=by
 cases x with
 | none=>exact h.elim
 | some v=>exact ⟨v,rfl,h⟩
theorem ce{x:Option (AV×A1)}{k:AV→A1→Prop}(h:opt2 x k):∃v σ,x=some (v,σ)∧k v σ:=by
 cases x with
 | none=>exact h.elim
 | some p=>exact ⟨p.1,p.2,rfl,h⟩
theorem N0.bool{P:Program}{t:TypeId}{ti:TI}(h:N0 P t ti)(hd:ti.td = .bool):P.underlying t=some .bool:=by
 obtain ⟨d,hu,e⟩:=h.under
 rw[hd] at e
 cases d<;>simp[TD.of] at e
 exact hu
theorem N0.ptr{P:Program}{t el:TypeId}{ti:TI}(h:N0 P t ti)(hd:ti.td = .ptr el):P.underlying t=some (.pointer el):=by
 obtain ⟨d,hu,e⟩:=h.under
 rw[hd] at e
 cases d<;>simp[TD.of] at e
 subst e
 exact hu
theorem N0.iface{P:Program}{t:TypeId}{n:Nat}{ti:TI}(h:N0 P t ti)(hd:ti.td = .iface n):∃ms,P.underlying t=some (.interface ms):=by
 obtain ⟨d,hu,e⟩:=h.under
 rw[hd] at e
 cases d<;>simp[TD.of] at e
 exact ⟨_,hu⟩
theorem N0.func{P:Program}{t:TypeId}{ti:TI}(h:N0 P t ti)(hd:ti.td = .func):∃a b c,P.underlying t=some (.func a b c):=by
 obtain ⟨d,hu,e⟩:=h.under
 rw[hd] at e
 cases d<;>simp[TD.of] at e
 exact ⟨_,_,_,hu⟩
theorem isPtrA_rep{m:Mp}{K:KS}{a:AV}{v:Value}{b:Bool}(h:kg a=some b)(hr:C7 m K a v):v = .pointer none∧b=false ∨ ∃ad,v = .pointer (some ad)∧b=true:=by
 cases hr with
 | pv p v hp=>
  cases hp with
  | raw v hv=>
   unfold kg at h
   split at h
   ·rename_i e;cases e;cases h;exact .inl ⟨rfl,rfl⟩
   all_goals first|(cases h;done)|(rename_i e;cases e;done)
  | _=>simp[kg] at h
 | ptr=>simp[kg] at h;exact .inr ⟨_,rfl,h⟩
 | eptr=>simp[kg] at h;exact .inr ⟨_,rfl,h⟩
 | ro=>simp[kg] at h;exact .inr ⟨_,rfl,h⟩
 | _=>simp[kg] at h
theorem ak{m:Mp}{K:KS}{a:AV}{v:Value}{b:Option TypeId}(h:ug a=some b)(hr:C7 m K a v):v = .nilIface∧b=none ∨ ∃t u,v = .iface t u∧b=some t:=by
 cases hr with
 | pv p v hp=>
  cases hp with
  | raw v hv=>
   unfold ug at h
   split at h
   ·rename_i e;cases e;cases h;exact .inl ⟨rfl,rfl⟩
   all_goals first|(cases h;done)|(rename_i e;cases e;done)
  | iface t p v hp=>simp[ug] at h;exact .inr ⟨_,_,rfl,h.symm⟩
  | _=>simp[ug] at h
 | iface=>simp[ug] at h;exact .inr ⟨_,_,rfl,h.symm⟩
 | _=>simp[ug] at h
theorem isFnA_rep{m:Mp}{K:KS}{a:AV}{v:Value}{b:Bool}(h:isFnA a=some b)(hr:C7 m K a v):v = .nilFunc∧b=false ∨ ∃f x y,v = .func f x y∧b=true:=by
 cases hr with
 | pv p v hp=>
  cases hp with
  | raw v hv=>
   unfold isFnA at h
   split at h
   ·rename_i e;cases e;cases h;exact .inl ⟨rfl,rfl⟩
   ·rename_i e;cases e;cases h;exact .inr ⟨_,_,_,rfl,rfl⟩
   all_goals first|(cases h;done)|(rename_i e;cases e;done)
  | _=>simp[isFnA] at h
 | func=>simp[isFnA] at h;exact .inr ⟨_,_,_,rfl,h⟩
 | _=>simp[isFnA] at h
theorem isSlA_rep{m:Mp}{K:KS}{a:AV}{v:Value}{b:Bool}(h:uk a=some b)(hr:C7 m K a v):v = .slice none 0 0∧b=false ∨ ∃ad l c,v = .slice (some ad) l c∧b=true:=by
 cases hr with
 | pv p v hp=>
  cases hp with
  | sl xs es b o c vs hc he hl hr hk=>
   cases xs with
   | nil=>simp[uk] at h
   | cons y r=>simp[uk] at h;exact .inr ⟨_,_,_,rfl,h⟩
  | _=>simp[uk] at h
 | nilsl=>simp[uk] at h;exact .inl ⟨rfl,h⟩
 | _=>simp[uk] at h
theorem oy{x y:Option Bool}{b:Bool}(h:bothO x y=some b):(x=some false∧y=some false∧b=true)∨(x=some true∧y=some false∧b=false)∨(x=some false∧y=some true∧b=false):=by
 unfold bothO at h
 split at h
 ·cases h;exact .inl ⟨rfl,rfl,rfl⟩
 ·cases h;exact .inr (.inl ⟨rfl,rfl,rfl⟩)
 ·cases h;exact .inr (.inr ⟨rfl,rfl,rfl⟩)
 ·cases h
theorem aEq_sound{C:Ctx}{m:Mp}{K:KS}{w:World}{t:TypeId}{ti:TI}(hT:N0 C.P t ti){xo yo:Operand}{x y:AV}{xv yv:Value}(hx:C7 m K x xv)(hy:C7 m K y yv){b:Bool}(h:aEq ti.td (fo xo||fo yo) x y=some b)(op:BinOp):
  (eqGuard op t xo yo xv yv).run C.P w = .ok () w∧(binOp .eql t xv yv).run C.P w = .ok (.bool b) w∧(binOp .neq t xv yv).run C.P w = .ok (.bool !b) w:=by
 have key:(eqGuard op t xo yo xv yv).run C.P w = .ok () w∧(∀ d,(Op.equalIn (d+1) t xv yv).run C.P w = .ok b w)∧(∀ k n,xv ≠ .int k n)∧(∀ s,xv ≠ .string s)∧(∀ k n,xv ≠ .float k n)∧(∀ k n i,xv ≠ .complex k n i):=by
  unfold aEq at h
  split at h
  ·rename_i hd
   have hu:=hT.bool hd
   split at h
   ·cases h
    cases hx.pv_inv
    cases hy.pv_inv
    exact ⟨by unfold eqGuard;split<;>rfl,fun d=>by simp[Op.equalIn,run_underlying hu],by simp,by simp,by simp,by simp⟩
   ·cases h
  ·rename_i el hd
   have hu:=hT.ptr hd
   rcases oy h with ⟨h1,h2,rfl⟩|⟨h1,h2,rfl⟩|⟨h1,h2,rfl⟩<;>rcases isPtrA_rep h1 hx with ⟨rfl,h3⟩|⟨a,rfl,h3⟩<;>rcases isPtrA_rep h2 hy with ⟨rfl,h4⟩|⟨a2,rfl,h4⟩<;>(try (cases h3;done))<;>(try (cases h4;done))
   all_goals exact ⟨by unfold eqGuard;split<;>rfl,fun d=>by simp[Op.equalIn,run_underlying hu],by simp,by simp,by simp,by simp⟩
  ·rename_i n hd
   obtain ⟨ms,hu⟩:=hT.iface hd
   split at h
   ·rename_i h1 h2
    split at h
    ·rename_i hl
     cases h
     rcases ak h1 hx with ⟨rfl,h3⟩|⟨t1,u1,rfl,h3⟩<;>rcases ak h2 hy with ⟨rfl,h4⟩|⟨t2,u2,rfl,h4⟩<;>(try (cases h3;done))<;>(try (cases h4;done))
     refine ⟨?_,fun d=>by simp[Op.equalIn,run_underlying hu],by simp,by simp,by simp,by simp⟩
     unfold eqGuard
     cases xo<;>cases yo<;>first|(simp [fo] at hl;done)|(split<;>rfl)
    ·cases h
   ·rename_i t1 h1 h2
    cases h
    rcases ak h1 hx with ⟨rfl,h3⟩|⟨t1,u1,rfl,h3⟩<;>rcases ak h2 hy with ⟨rfl,h4⟩|⟨t2,u2,rfl,h4⟩<;>(try (cases h3;done))<;>(try (cases h4;done))
    exact ⟨by unfold eqGuard;split<;>rfl,fun d=>by simp[Op.equalIn,run_underlying hu],by simp,by simp,by simp,by simp⟩
   ·rename_i t1 h1 h2
    cases h
    rcases ak h1 hx with ⟨rfl,h3⟩|⟨t1,u1,rfl,h3⟩<;>rcases ak h2 hy with ⟨rfl,h4⟩|⟨t2,u2,rfl,h4⟩<;>(try (cases h3;done))<;>(try (cases h4;done))
    exact ⟨by unfold eqGuard;split<;>rfl,fun d=>by simp[Op.equalIn,run_underlying hu],by simp,by simp,by simp,by simp⟩
   ·rename_i t1 t2 h1 h2
    split at h
    ·rename_i hne
     cases h
     rcases ak h1 hx with ⟨rfl,h3⟩|⟨t1,u1,rfl,h3⟩<;>rcases ak h2 hy with ⟨rfl,h4⟩|⟨t2,u2,rfl,h4⟩<;>(try (cases h3;done))<;>(try (cases h4;done))
     cases h3
     cases h4
     exact ⟨by unfold eqGuard;split<;>rfl,fun d=>by simp[Op.equalIn,run_underlying hu,hne],by simp,by simp,by simp,by simp⟩
    ·cases h
   ·cases h
  ·rename_i el hd
   have hu:=hT.slice hd
   rcases oy h with ⟨h1,h2,rfl⟩|⟨h1,h2,rfl⟩|⟨h1,h2,rfl⟩<;>rcases isSlA_rep h1 hx with ⟨rfl,h3⟩|⟨a,l,c,rfl,h3⟩<;>rcases isSlA_rep h2 hy with ⟨rfl,h4⟩|⟨a2,l2,c2,rfl,h4⟩<;>(try (cases h3;done))<;>(try (cases h4;done))
   all_goals exact ⟨by unfold eqGuard;split<;>rfl,fun d=>by simp[Op.equalIn,run_underlying hu],by simp,by simp,by simp,by simp⟩
  ·rename_i hd
   obtain ⟨q1,q2,q3,hu⟩:=hT.func hd
   rcases oy h with ⟨h1,h2,rfl⟩|⟨h1,h2,rfl⟩|⟨h1,h2,rfl⟩<;>rcases isFnA_rep h1 hx with ⟨rfl,h3⟩|⟨a,l,c,rfl,h3⟩<;>rcases isFnA_rep h2 hy with ⟨rfl,h4⟩|⟨a2,l2,c2,rfl,h4⟩<;>(try (cases h3;done))<;>(try (cases h4;done))
   all_goals exact ⟨by unfold eqGuard;split<;>rfl,fun d=>by simp[Op.equalIn,run_underlying hu],by simp,by simp,by simp,by simp⟩
  ·cases h
 obtain ⟨h1,h2,h3,h4,h5,h6⟩:=key
 refine ⟨h1,?_,?_⟩
 ·have:=h2 9999
  cases xv<;>first|exact absurd rfl (h3 _ _)|exact absurd rfl (h4 _)|exact absurd rfl (h5 _ _)|exact absurd rfl (h6 _ _ _)|simp[binOp,Op.equal,Op.maxDepth,this]
 ·have:=h2 9999
  cases xv<;>first|exact absurd rfl (h3 _ _)|exact absurd rfl (h4 _)|exact absurd rfl (h5 _ _)|exact absurd rfl (h6 _ _ _)|simp[binOp,Op.equal,Op.maxDepth,this]
theorem bytesB{a b:List UInt8}:((⟨a.toArray⟩:ByteArray)==⟨b.toArray⟩)=(a==b):=by
 rw[Bool.eq_iff_iff,MapKept.bytes_beq,beq_iff_eq]
 constructor
 ·intro h;injection h with h;simpa using h
 ·rintro rfl;rfl
theorem eqLeaf_sound{P:Program}{K:KS}{d:TypeDesc}{t:TypeId}{p q:PV}{v u:Value}{b:Bool}{w:World}(hd:P.underlying t=some d)(hp:N7 K p v)(hq:N7 K q u)(h:pi (TD.of d) p q=some b)(n:Nat):(Op.equalIn (n+1) t v u).run P w = .ok b w:=by
 cases d<;>simp only[TD.of,pi,reduceCtorEq] at h
 ·cases p<;>cases q<;>simp only[pi,reduceCtorEq] at h
  cases hp;cases hq;cases h
  simp[Op.equalIn,run_underlying hd]
 ·cases p<;>cases q<;>simp only[pi,reduceCtorEq] at h
  cases hp;cases hq
  split at h
  ·rename_i e;subst e;cases h
   simp[Op.equalIn,run_underlying hd]
  ·cases h
 ·cases p<;>cases q<;>simp only[pi,reduceCtorEq] at h
  cases hp;cases hq;cases h
  simp only[Op.equalIn,Sem.run_bind,run_underlying hd,Result.andThen_ok,Sem.run_pure,bytesB]
theorem la{C:Ctx}(hC:X1 C){K:KS}{w:World}{vs us:Array Value}(n:Nat):∀(fs:List Field) (i:Nat) (xs ys:List PV) (b:Bool),(∀ f∈fs,f.name ≠ "_") →
  (∀ (j:Nat) p v,xs[j]? = some p→vs[i+j]? = some v→N7 K p v)→(∀ (j:Nat) p v,ys[j]? = some p→us[i+j]? = some v→N7 K p v)→i+xs.length=vs.size→i+ys.length=us.size →
  (∀ (j:Nat) v,vs[j]? = some v→v.oneCell'=true)→(∀ (j:Nat) v,us[j]? = some v→v.oneCell'=true) →
  jw C.tab i (fs.map fun f=>(f.offset,f.type)) xs ys=some b→(Op.eqFields (n+1) vs us fs).run C.P w = .ok b w
 | [],i,xs,ys,b,_,_,_,_,_,_,_,h=>by
  cases xs<;>cases ys<;>simp only[List.map_nil,jw,reduceCtorEq,Option.some.injEq] at h
  subst h
  rfl
 | f::fs,i,[],ys,b,_,_,_,_,_,_,_,h=>by simp[jw] at h
 | f::fs,i,x::xs,[],b,_,_,_,_,_,_,_,h=>by simp[jw] at h
 | f::fs,i,x::xs,y::ys,b,hn,hx,hy,hl,hl',h1,h1',h=>by
  simp only[List.map_cons,jw] at h
  split at h
  ·rename_i ti hti
   split at h
   ·rename_i a b' hc hleaf hrest
    cases h
    obtain ⟨ho,hs⟩:=of_decide_eq_true hc
    obtain ⟨i',d,_,hd,_,_,_,hde,_⟩:=hC _ _ hti
    rw[← hde] at hleaf
    simp only[List.length_cons] at hl hl'
    have hv:vs[i]? = some (vs[i]'(by omega)):=Array.getElem?_eq_getElem _
    have hu:us[i]? = some (us[i]'(by omega)):=Array.getElem?_eq_getElem _
    have hna:ti.td.isAgg=false:=by
     rw[← hde]
     cases d<;>first|rfl|(simp only[TD.of,pi,reduceCtorEq] at hleaf)
    have pt:∀(zs:Array Value) (z:Value),zs[i]? = some z→(part f.type zs f.offset).run C.P w = .ok z w:=by
     intro zs z hz
     have:=sa (hC _ _ hti) w
     rw[hna] at this
     rw[ho]
     simp[part,this,hz]
    have e:=eqLeaf_sound (w:=w) hd (hx 0 x _ rfl (show vs[i+0]? = _ by rw[Nat.add_zero];exact hv)) (hy 0 y _ rfl (show us[i+0]? = _ by rw[Nat.add_zero];exact hu)) hleaf n
    have ih:=la hC (w:=w) (vs:=vs) (us:=us) n fs (i+1) xs ys b' (fun g hg=>hn g (List.mem_cons_of_mem _ hg)) (fun j p v hp hv=>hx (j+1) p v (by simpa using hp) (by rw[show i+(j+1)=i+1+j by omega];exact hv))
     (fun j p v hp hv=>hy (j+1) p v (by simpa using hp) (by rw[show i+(j+1)=i+1+j by omega];exact hv)) (by omega) (by omega) h1 h1' hrest
    simp only[Op.eqFields,if_pos (hn f (by simp)),Sem.run_bind,pt _ _ hv,pt _ _ hu,Result.andThen_ok,e]
    cases a with
    | true=>simpa using ih
    | false=>simp
   ·cases h
  ·cases h
theorem aEqT_sound{C:Ctx}(hC:X1 C){m:Mp}{K:KS}{w:World}{t:TypeId}{ti:TI}(hT:N0 C.P t ti){xo yo:Operand}{x y:AV}{xv yv:Value}(hx:C7 m K x xv)(hy:C7 m K y yv){b:Bool}(h:aEqT C.tab ti (fo xo||fo yo) x y=some b)(op:BinOp):
  (eqGuard op t xo yo xv yv).run C.P w = .ok () w∧(binOp .eql t xv yv).run C.P w = .ok (.bool b) w∧(binOp .neq t xv yv).run C.P w = .ok (.bool !b) w:=by
 unfold aEqT at h
 split at h
 ·rename_i he
  unfold aEqS at h
  split at h
  ·rename_i fs xs ys hd
   cases hx with|pv _ _ hp=>
   cases hy with|pv _ _ hq=>
   cases hp with|agg _ vs hl hr h1=>
   cases hq with|agg _ us hl' hr' h1'=>
   have hok:eqOK C.P t=true:=by
    obtain ⟨_,_,_,_,_,_,_,_,_,h⟩:=hT
    exact h he
   obtain ⟨fields,hu,rfl⟩:=hT.struct hd
   have hf:C.P.fieldsOf t=fields:=by simp[Program.fieldsOf,hu]
   simp only[eqOK,hu,Bool.and_eq_true,Bool.not_eq_true',List.all_eq_true,bne_iff_ne] at hok
   obtain ⟨q1,q2,q3⟩:=hok
   have hrun:(Op.equalIn 10000 t (.agg vs) (.agg us)).run C.P w = .ok b w:=by
    rw[run_equalIn_struct w 9999 t vs us (by rw[hf];exact hu) q1,hf]
    exact la hC 9998 fields.toList 0 xs ys b q3 (fun j p v hp hv=>hr j p v hp (by simpa using hv)) (fun j p v hp hv=>hr' j p v hp (by simpa using hv)) (by omega) (by omega) (fun j v=>h1 j v) (fun j v=>h1' j v) h
   exact ⟨run_eqGuard_agg w op t xo yo vs us q2,by rw[run_eql_struct,hrun];rfl,by rw[run_neq_struct,hrun];rfl⟩
  ·cases h
 ·exact aEq_sound hT hx hy h op
theorem ui{C:Ctx}(hC:X1 C){m:Mp}{K:KS}{w:World}{t:TypeId}{op:BinOp}{xo yo:Operand}{x y:AV}{xv yv:Value}(hx:C7 m K x xv)(hy:C7 m K y yv){k:AV→Prop}
  (h:Q9 C.tab t (fo xo||fo yo) op x y k):∃r,k r ∧ ∃v,(do eqGuard op t xo yo xv yv;binOp op t xv yv:Sem Value).run C.P w = .ok v w∧C7 m K r v:=by
 unfold Q9 at h
 split at h
 ·cases hx.pv_inv
  cases hy.pv_inv
  obtain ⟨r,hk,v,hv,hr⟩:=binInt_sound (C:=C) (m:=m) (K:=K) (w:=w) (t:=t) (lit:=fo xo||fo yo) (op:=op) (k:=k) (by unfold Q9;exact h)
  exact ⟨r,hk,v,by simp only[Sem.run_bind,eqGuard_int,Result.andThen_ok];exact hv,hr⟩
 ·cases hx.pv_inv
  cases hy.pv_inv
  obtain ⟨r,hk,v,hv,hr⟩:=binStr_sound (C:=C) (m:=m) (K:=K) (w:=w) (t:=t) (lit:=fo xo||fo yo) (op:=op) (k:=k) (by unfold Q9;exact h)
  exact ⟨r,hk,v,by simp only[Sem.run_bind,eqGuard_str,Result.andThen_ok];exact hv,hr⟩
 ·unfold aEqK at h
  cases op<;>try exact h.elim
  ·obtain ⟨ti,hti,h⟩:=C4 h
   obtain ⟨b,hb,h⟩:=C4 h
   obtain ⟨h1,h2,h3⟩:=aEqT_sound (w:=w) hC (hC _ _ hti) hx hy hb .eql
   exact ⟨_,h,_,by simp only[Sem.run_bind,h1,Result.andThen_ok];exact h2,.pv _ _ (.bool _)⟩
  ·obtain ⟨ti,hti,h⟩:=C4 h
   obtain ⟨b,hb,h⟩:=C4 h
   obtain ⟨h1,h2,h3⟩:=aEqT_sound (w:=w) hC (hC _ _ hti) hx hy hb .neq
   exact ⟨_,h,_,by simp only[Sem.run_bind,h1,Result.andThen_ok];exact h3,.pv _ _ (.bool _)⟩
end
section
open Go Go.RowKit Go.MapKept
theorem C5.alloc_map{C:Ctx}{m:Mp}{K:KS}{σ:A1}{w:World}(hB:C5 C m K σ w):
  ∃m',C5 C m' K (σ ++ [.mp []]) (w.alloc (.map #[] 0))∧Ext m K m' K∧C7 m' K (.mref σ.length) (.map (some w.heap.size)):=by
 obtain ⟨h1,h2⟩:=hB.alloc (.mp []) 0 (.at w.heap.size 0 0) (.map #[] 0) (fun b hb=>by simpa[blk,Loc.blk,I9] using hb)
  ⟨w.heap.size,0,0,#[],0,I9 _ _ _ _,Q1 _ _,rfl,fun j e a h=>by simp at h⟩
 exact ⟨_,h1,h2,.mref _ _ _ _ (I9 _ _ _ _)⟩
theorem uy{P:Program}(t:TypeId)(w:World):(Instr.makeMap t none).run P w = .ok (.map (some w.heap.size)) (w.alloc (.map #[] 0)):=rfl
theorem tp{K:KS}{d:TypeDesc}{p q:PV}{v u:Value}{b:Bool}(hp:N7 K p v)(hq:N7 K q u)(h:keyEq (TD.of d) p q=some b):Instr.sameNow d v u=some b∧(b=true→u=v):=by
 cases d<;>simp only[TD.of,keyEq,reduceCtorEq] at h
 ·cases p<;>cases q<;>simp only[keyEq,reduceCtorEq] at h
  cases hp;cases hq
  split at h
  ·rename_i e;subst e
   cases h
   refine ⟨by simp[Instr.sameNow],fun hb=>?_⟩
   rw[eq_of_beq hb]
  ·cases h
 ·cases p<;>cases q<;>simp only[keyEq,reduceCtorEq] at h
  cases hp;cases hq
  cases h
  refine ⟨by simp only[Instr.sameNow,bytesB],fun hb=>?_⟩
  rw[eq_of_beq hb]
theorem isKey_of{K:KS}{d:TypeDesc}{p:PV}{v:Value}(hp:N7 K p v)(h:rj (TD.of d) p=true):IsKey d v:=by
 cases d<;>simp only[TD.of,rj,reduceCtorEq,Bool.false_eq_true] at h
 ·cases p<;>simp only[rj,reduceCtorEq,Bool.false_eq_true,decide_eq_true_eq] at h
  subst h
  cases hp
  simp[IsKey]
 ·cases p<;>simp only[rj,reduceCtorEq,Bool.false_eq_true] at h
  cases hp
  simp[IsKey]
theorem mb{m:Mp}{K:KS}{d:TypeDesc}{kp:PV}{kv:Value}(hp:N7 K kp kv):∀(l:List MapEntry) (es:List (PV×AV)) (i:Nat) (r:Option (Nat×AV)),es.length=l.length →
  (∀ (j:Nat) e (a:MapEntry),es[j]? = some e→l[j]? = some a→N7 K e.1 a.key∧C7 m K e.2 a.val)→tq (TD.of d) kp es i=some r →
  (r=none∧Instr.findNow d kv l i=some none) ∨ ∃j v a,r=some (i+j,v)∧l[j]? = some a∧a.key=kv∧C7 m K v a.val∧Instr.findNow d kv l i=some (some (i+j,a.val))
 | [],[],i,r,_,_,h=>by
  simp only[tq,Option.some.injEq] at h
  exact .inl ⟨h.symm,rfl⟩
 | [],_::_,_,_,hl,_,_=>by simp at hl
 | _::_,[],_,_,hl,_,_=>by simp at hl
 | a::l,(k,v)::es,i,r,hl,hr,h=>by
  obtain ⟨h1,h2⟩:=hr 0 _ _ rfl rfl
  simp only[tq] at h
  split at h
  ·rename_i hk
   cases h
   obtain ⟨hs,he⟩:=tp hp h1 hk
   exact .inr ⟨0,v,a,rfl,rfl,he rfl,h2,by simp[Instr.findNow,hs]⟩
  ·rename_i hk
   obtain ⟨hs,_⟩:=tp hp h1 hk
   rcases mb hp l es (i+1) r (by simpa using hl) (fun j e a he ha=>hr (j+1) e a (by simpa using he) (by simpa using ha)) h with ⟨e,hf⟩|⟨j,v',a',e,ha,hke,hv,hf⟩
   ·exact .inl ⟨e,by simp[Instr.findNow,hs,hf]⟩
   ·exact .inr ⟨j+1,v',a',by rw[e,Nat.add_assoc,Nat.add_comm 1],by simpa using ha,hke,hv,by simp[Instr.findNow,hs,hf];omega⟩
  ·cases h
theorem N0.map{P:Program}{t kt et:TypeId}{ti:TI}(h:N0 P t ti)(hd:ti.td = .map kt et):P.underlying t=some (.map kt et):=by
 obtain ⟨i,d,_,hu,_,_,_,e,_⟩:=h
 rw[hd] at e
 cases d<;>simp[TD.of] at e
 obtain ⟨rfl,rfl⟩:=e
 exact hu
theorem N0.underD{P:Program}{t:TypeId}{ti:TI}(h:N0 P t ti):∃d,P.underlying t=some d∧TD.of d=ti.td:=by
 obtain ⟨i,d,_,hu,_,_,_,e,_⟩:=h
 exact ⟨d,hu,e⟩
theorem lookup_sound{C:Ctx}(hC:X1 C){m:Mp}{K:KS}{σ:A1}{w:World}(hB:C5 C m K σ w){t:TypeId}{ti:TI}(hT:N0 C.P t ti){x key r:AV}{xv kv:Value}(hx:C7 m K x xv)(hk:C7 m K key kv){ok:Bool}
  (h:vp σ C.tab ti.td x key ok=some r):∃u,(Instr.lookup t xv kv ok).run C.P w = .ok u w∧C7 m K r u:=by
 unfold vp at h
 split at h
 case h_2=>cases h
 rename_i kt et hd
 split at h
 case h_2=>cases h
 rename_i ki ei hki hei
 split at h
 case h_2=>cases h
 rename_i id kp
 split at h
 case h_2=>cases h
 rename_i es ho hkey
 obtain ⟨d,hdu,hde⟩:=(hC _ _ hki).underD
 have hm:=hT.map hd
 obtain ⟨b,cap,s,rfl,hb⟩:∃b cap s,xv = .map (some b)∧m id 0=some (.at b cap s):=by cases hx with|mref _ b cap s h=>exact ⟨b,cap,s,rfl,h⟩
 have hkp:N7 K kp kv:=by cases hk with|pv _ _ h=>exact h
 obtain ⟨b',cap',s',arr,clock,hb',hh,hl,hr⟩:=hB.obj id _ ho
 rw[hb] at hb';cases hb'
 rw[← hde] at hkey h
 have hik:=isKey_of hkp hkey
 have hz:=Y8 (hC _ _ hei) w
 have hck:=fun e=>run_checkKey (P:=C.P) (w:=w) hdu hik e 9999
 have go:∀r',tq (TD.of d) kp es 0=some r'→(r'=none∧Instr.findNow d kv arr.toList 0=some none) ∨ ∃j v a,r'=some (0+j,v)∧arr.toList[j]? = some a∧a.key=kv∧C7 m K v a.val∧Instr.findNow d kv arr.toList 0=some (some (0+j,a.val)):=
  fun r' h=>mb hkp arr.toList es 0 r' (by simpa using hl) (fun j e a he ha=>hr j e a he (by simpa using ha)) h
 split at h
 ·rename_i j v hf
  cases h
  rcases go _ hf with ⟨e,_⟩|⟨j',v',a,e,ha,hka,hv,hfn⟩
  ·cases e
  ·cases e
   have hrun:(Instr.lookup t (.map (some b)) kv ok).run C.P w = .ok (if ok then .tuple #[a.val,.bool true] else a.val) w:=by
    simp[Instr.lookup,run_underlying hm,MapKept.run_getObj_map hh,hck,run_findKey hdu hfn,Result.andThen]
   refine ⟨_,hrun,?_⟩
   cases ok with
   | false=>exact hv
   | true=>
    refine .tup _ _ rfl fun j p u hp hu=>?_
    match j with
    | 0=>simp at hp hu;subst hp;subst hu;exact hv
    | 1=>simp at hp hu;subst hp;subst hu;exact .pv _ _ (.bool true)
    | j+2=>simp at hp
 ·rename_i hf
  cases h
  rcases go _ hf with ⟨_,hfn⟩|⟨j',v',a,e,_⟩
  ·have hrun:(Instr.lookup t (.map (some b)) kv ok).run C.P w = .ok (if ok then .tuple #[ei.zero,.bool false] else ei.zero) w:=by
    simp[Instr.lookup,run_underlying hm,MapKept.run_getObj_map hh,hck,run_findKey hdu hfn,hz,Result.andThen]
   refine ⟨_,hrun,?_⟩
   cases ok with
   | false=>exact U4 m K _
   | true=>
    refine .tup _ _ rfl fun j p u hp hu=>?_
    match j with
    | 0=>simp at hp hu;subst hp;subst hu;exact U4 m K _
    | 1=>simp at hp hu;subst hp;subst hu;exact .pv _ _ (.bool false)
    | j+2=>simp at hp
  ·cases e
 ·cases h
theorem C5.set_map{C:Ctx}{m:Mp}{K:KS}{σ:A1}{w:World}(hB:C5 C m K σ w){id:Nat}{es es':List (PV×AV)}{b cap s:Nat}(ho:σ[id]? = some (.mp es))(hm:m id 0=some (.at b cap s)){arr arr':Array MapEntry}{clock clock':Nat}(hh:w.heap[b]? = some (.map arr clock))
  (hl:es'.length=arr'.size) (hr:∀(j:Nat) e (a:MapEntry),es'[j]? = some e→arr'[j]? = some a→N7 K e.1 a.key∧C7 m K e.2 a.val):C5 C m K (σ.set id (.mp es')) { w with heap:=w.heap.setIfInBounds b (.map arr' clock') }:=by
 have hid:id<σ.length:=(List.getElem?_eq_some_iff.1 ho).1
 have hblk:b∈blk m id (.mp es):=by simp[blk,Loc.blk,hm]
 obtain ⟨hs1,hs2⟩:=heap_set (o':=.map arr' clock') hh
 have hbase:=hB.base id _ b ho hblk
 refine hB.step id (.mp es') (fun i x h=>jx hid h) (by simp) (by simpa using hid) (fun _ _ _ h=>h) (fun _ _=>rfl) ?_ ?_ ?_ ?_ ?_ ?_
 ·refine hB.below.trans ⟨rfl,rfl,rfl,by simp,fun k hk=>hs2 k (by omega)⟩
 ·intro b2 o v h2
  have hne:b2≠b:=fun e=>by
   have:=(hB.keep b2 o v h2).1
   obtain ⟨cs,t,fr,hb2,_⟩:=dq this
   rw[e,hh] at hb2;cases hb2
  simp[World.cell?,hs2 b2 hne]
 ·intro id' x b2 hne hsx hb2
  exact hs2 b2 fun e=>by
   subst e
   exact hne (hB.apart id' x id _ b2 hsx ho hb2 hblk)
 ·exact ⟨b,cap,s,arr',clock',hm,hs1,hl,hr⟩
 ·intro b2 h2
  have:b2=b:=by simpa[blk,Loc.blk,hm] using h2
  rw[this];exact hbase
 ·intro b2 h2 id' x hne hsx hx
  have:b2=b:=by simpa[blk,Loc.blk,hm] using h2
  subst this
  exact hne (hB.apart id' x id _ b2 hsx ho hx hblk)
theorem mapUpd_sound{C:Ctx}(hC:X1 C){m:Mp}{K:KS}{σ σ':A1}{w:World}(hB:C5 C m K σ w){t:TypeId}{ti:TI}(hT:N0 C.P t ti){x key v:AV}{xv kv vv:Value}(hx:C7 m K x xv)(hk:C7 m K key kv)(hv:C7 m K v vv)
  (h:nh σ C.tab ti.td x key v=some σ'):∃w',(Instr.mapUpdate t xv kv vv).run C.P w = .ok () w'∧C5 C m K σ' w':=by
 unfold nh at h
 split at h
 case h_2=>cases h
 rename_i kt et hd
 split at h
 case h_2=>cases h
 rename_i ki hki
 split at h
 case h_2=>cases h
 rename_i id kp
 split at h
 case h_2=>cases h
 rename_i es ho hkey
 obtain ⟨d,hdu,hde⟩:=(hC _ _ hki).underD
 have hm:=hT.map hd
 obtain ⟨b,cap,s,rfl,hb⟩:∃b cap s,xv = .map (some b)∧m id 0=some (.at b cap s):=by cases hx with|mref _ b cap s h=>exact ⟨b,cap,s,rfl,h⟩
 have hkp:N7 K kp kv:=by cases hk with|pv _ _ h=>exact h
 obtain ⟨b',cap',s',arr,clock,hb',hh,hl,hr⟩:=hB.obj id _ ho
 rw[hb] at hb';cases hb'
 rw[← hde] at hkey h
 have hik:=isKey_of hkp hkey
 have hck:=fun e=>run_checkKey (P:=C.P) (w:=w) hdu hik e 9999
 have go:∀r',tq (TD.of d) kp es 0=some r'→(r'=none∧Instr.findNow d kv arr.toList 0=some none) ∨ ∃j v a,r'=some (0+j,v)∧arr.toList[j]? = some a∧a.key=kv∧C7 m K v a.val∧Instr.findNow d kv arr.toList 0=some (some (0+j,a.val)):=
  fun r' h=>mb hkp arr.toList es 0 r' (by simpa using hl) (fun j e a he ha=>hr j e a he (by simpa using ha)) h
 split at h
 ·rename_i j v0 hf
  cases h
  rcases go _ hf with ⟨e,_⟩|⟨j',v',a,e,ha,hka,hva,hfn⟩
  ·cases e
  ·simp only[Nat.zero_add,Option.some.injEq,Prod.mk.injEq] at e hfn
   obtain ⟨rfl,rfl⟩:=e
   have ha':arr[j]? = some a:=by simpa using ha
   refine ⟨{ w with heap:=w.heap.setIfInBounds b (.map (arr.modify j fun e=>{ e with key:=kv,val:=vv }) clock) },?_,hB.set_map ho hb hh (by simpa using hl) fun i e a' he ha2=>?_⟩
   ·simp[Instr.mapUpdate,run_underlying hm,MapKept.run_getObj_map hh,hck,run_findKey hdu hfn,ha',hka,run_keyThatStays hik,MapKept.run_setObj_map _ hh,Result.andThen]
   ·rw[Array.getElem?_modify] at ha2
    by_cases hij:j=i
    ·subst hij
     have hlt:j<es.length:=by rw[hl];exact (Array.getElem?_eq_some_iff.1 ha').1
     rw[List.getElem?_set_self hlt] at he
     rw[if_pos rfl,ha'] at ha2
     cases he;cases ha2
     exact ⟨hkp,hv⟩
    ·rw[List.getElem?_set_ne hij] at he
     rw[if_neg hij] at ha2
     exact hr i e a' he ha2
 ·rename_i hf
  cases h
  rcases go _ hf with ⟨_,hfn⟩|⟨j',v',a,e,_⟩
  ·refine ⟨{ w with heap:=w.heap.setIfInBounds b (.map (arr.push { key:=kv,val:=vv,born:=clock }) (clock+1)) },?_,hB.set_map ho hb hh (by simpa using hl) fun i e a' he ha2=>?_⟩
   ·simp[Instr.mapUpdate,run_underlying hm,MapKept.run_getObj_map hh,hck,run_findKey hdu hfn,MapKept.run_setObj_map _ hh,Result.andThen]
   ·by_cases hi:i<es.length
    ·rw[List.getElem?_append_left hi] at he
     rw[Array.getElem?_push,if_neg (by omega)] at ha2
     exact hr i e a' he ha2
    ·rw[List.getElem?_append_right (by omega)] at he
     have hi2:i-es.length=0:=by
      have:=(List.getElem?_eq_some_iff.1 he).1
      simp at this;omega
     rw[hi2] at he
     rw[Array.getElem?_push,if_pos (by omega)] at ha2
     cases he;cases ha2
     exact ⟨hkp,hv⟩
  ·cases e
 ·cases h
end
section
open Go Go.RowKit
theorem qt{kd:IntKind}{a:AV}{k:Int→Prop}(h:isI kd a k):∃n,a = .pv (.int kd n)∧k n:=by
 unfold isI at h
 split at h
 ·split at h
  ·rename_i e;subst e;exact ⟨_,rfl,h⟩
  ·exact h.elim
 ·exact h.elim
theorem iy{a:AV}{k:Bool→Prop}(h:isB a k):∃b,a = .pv (.bool b)∧k b:=by
 unfold isB at h
 split at h
 ·exact ⟨_,rfl,h⟩
 ·exact h.elim
theorem isS_some{a:AV}{k:List UInt8→Prop}(h:isS a k):∃s,a = .pv (.str s)∧k s:=by
 unfold isS at h
 split at h
 ·exact ⟨_,rfl,h⟩
 ·exact h.elim
theorem ph{a:AV}{k:List AV→Prop}(h:isTup a k):∃vs,a = .tup vs∧k vs:=by
 unfold isTup at h
 split at h
 ·exact ⟨_,rfl,h⟩
 ·exact h.elim
theorem lq{m:Mp}{K:KS}{a r:AV}{x:Value}(hx:C7 m K a x)(h:B2 a=some r)(P:Program)(w:World)(xo:Operand)(ρ:Operand→Value)(o:Oper)(hρ:ρ xo=x)(ho:o.op = .nilCheck xo):
  (execOp ρ o).run P w = .ok (.value x) w∧r=a:=by
 unfold B2 at h
 unfold execOp
 simp only[ho,hρ]
 split at h<;>first|cases h|skip
 ·cases hx;exact ⟨rfl,rfl⟩
 ·cases hx;exact ⟨rfl,rfl⟩
 ·cases hx;exact ⟨rfl,rfl⟩
 ·cases hx;exact ⟨rfl,rfl⟩
 ·cases hx.pv_inv;exact ⟨rfl,rfl⟩
 ·cases hx;exact ⟨rfl,rfl⟩
 ·cases hx.pv_inv
  ·exact ⟨rfl,rfl⟩
theorem dg{m:Mp}{K:KS}{P:Program}{w:World}{f:AV→AV→Option AV}{g:Value→Value→Sem Value}(hf:∀{x y r:AV} {xv yv:Value},C7 m K x xv→C7 m K y yv→f x y=some r → ∃v,(g xv yv).run P w = .ok v w∧C7 m K r v)
  {e:Operand→AV} {ρ:Operand→Value} (he:∀x,C7 m K (e x) (ρ x)):∀(l:List Operand) (x r:AV) (xv:Value),C7 m K x xv→th f x (l.map e)=some r → ∃v,((l.map ρ).foldlM g xv).run P w = .ok v w∧C7 m K r v
 | [],x,r,xv,hx,h=>by
  simp only[List.map_nil,th,Option.some.injEq] at h
  subst h
  exact ⟨xv,rfl,hx⟩
 | y::l,x,r,xv,hx,h=>by
  simp only[List.map_cons,th] at h
  split at h
  ·rename_i z hz
   obtain ⟨v,hv,hr⟩:=hf hx (he y) hz
   obtain ⟨u,hu,hr'⟩:=dg hf he l z r v hr h
   exact ⟨u,by simp[List.foldlM_cons,hv,hu],hr'⟩
  ·cases h
theorem we{m:Mp}{K:KS}{P:Program}{w:World}{x y r:AV}{xv yv:Value}(hx:C7 m K x xv)(hy:C7 m K y yv)(h:aMin2 x y=some r):∃v,(Builtin.min2 xv yv).run P w = .ok v w∧C7 m K r v:=by
 unfold aMin2 at h
 split at h
 ·cases h
  cases hx.pv_inv
  cases hy.pv_inv
  exact ⟨_,rfl,.pv _ _ (.int _ _)⟩
 ·cases h
theorem max2_sound{m:Mp}{K:KS}{P:Program}{w:World}{x y r:AV}{xv yv:Value}(hx:C7 m K x xv)(hy:C7 m K y yv)(h:aMax2 x y=some r):∃v,(Builtin.max2 xv yv).run P w = .ok v w∧C7 m K r v:=by
 unfold aMax2 at h
 split at h
 ·cases h
  cases hx.pv_inv
  cases hy.pv_inv
  exact ⟨_,rfl,.pv _ _ (.int _ _)⟩
 ·cases h
theorem un_sound{m:Mp}{K:KS}{P:Program}{w:World}{op:UnOp}{x r:AV}{xv:Value}(hx:C7 m K x xv)(h:aUn op x=some r):∃v,(Op.unary op xv).run P w = .ok v w∧C7 m K r v:=by
 unfold aUn at h
 split at h
 ·cases h
  cases hx.pv_inv
  exact ⟨_,rfl,.pv _ _ (.int _ _)⟩
 ·cases h
  cases hx.pv_inv
  exact ⟨_,rfl,.pv _ _ (.bool _)⟩
 ·cases h
theorem tup2_rep{m:Mp}{K:KS}{a b:AV}{x y:Value}(h1:C7 m K a x)(h2:C7 m K b y):C7 m K (.tup [a,b]) (.tuple #[x,y]):=by
 refine .tup _ _ rfl (fun j p v hp hv=>?_)
 match j with
 | 0=>simp at hp hv;subst hp;subst hv;exact h1
 | 1=>simp at hp hv;subst hp;subst hv;exact h2
 | j+2=>simp at hp
theorem jn{C:Ctx}(hC:X1 C){m:Mp}{K:KS}{w:World}{a r:AV}{x:Value}(hx:C7 m K a x){xt t:TypeId}{ok:Bool}(h:gi C.tab a t ok=some r):∃v,(Instr.typeAssert x xt t ok).run C.P w = .ok v w∧C7 m K r v:=by
 unfold gi at h
 split at h
 ·cases h
 ·rename_i ti hti
  have hT:=hC _ _ hti
  obtain ⟨d,hu,hd⟩:=hT.under
  split at h
  ·cases h
  ·rename_i hnot
   have hni:∀ms,d ≠ .interface ms:=by
    intro ms e
    subst e
    exact hnot _ hd.symm
   have fails:(Instr.typeAssert .nilIface xt t true).run C.P w = .ok (.tuple #[ti.zero,.bool false]) w:=by
    cases d<;>first|exact absurd rfl (hni _)|simp[Instr.typeAssert,run_underlying hu,Y8 hT]
   have holds:∀(t':TypeId) (v:Value),(Instr.typeAssert (.iface t' v) xt t ok).run C.P w=if t'=t then .ok (if ok then .tuple #[v,.bool true] else v) w else (Instr.typeAssert (.iface t' v) xt t ok).run C.P w:=by
    intro t' v
    split
    ·rename_i e
     subst e
     cases d<;>first|exact absurd rfl (hni _)|simp[Instr.typeAssert,run_underlying hu]
    ·rfl
   have misses:∀(t':TypeId) (v:Value),t'≠t→(Instr.typeAssert (.iface t' v) xt t true).run C.P w = .ok (.tuple #[ti.zero,.bool false]) w:=by
    intro t' v e
    cases d<;>first|exact absurd rfl (hni _)|simp[Instr.typeAssert,run_underlying hu,e,Y8 hT]
   have zr:C7 m K (.tup [AV.ofValue ti.zero,.pv (.bool false)]) (.tuple #[ti.zero,.bool false]):=tup2_rep (U4 m K _) (.pv _ _ (.bool _))
   split at h
   ·rename_i t' p
    cases hx.pv_inv with
    | iface _ _ v hp=>
     split at h
     ·rename_i e
      cases h
      have:=holds t' v
      rw[if_pos e] at this
      refine ⟨_,this,?_⟩
      cases ok with
      | true=>exact tup2_rep (.pv _ _ hp) (.pv _ _ (.bool _))
      | false=>exact .pv _ _ hp
     ·rename_i e
      split at h
      ·rename_i hok
       cases h
       subst hok
       exact ⟨_,misses t' v e,zr⟩
      ·cases h
   ·rename_i t' a
    cases hx with
    | iface _ _ v hp=>
     split at h
     ·rename_i e
      cases h
      have:=holds t' v
      rw[if_pos e] at this
      refine ⟨_,this,?_⟩
      cases ok with
      | true=>exact tup2_rep hp (.pv _ _ (.bool _))
      | false=>exact hp
     ·rename_i e
      split at h
      ·rename_i hok
       cases h
       subst hok
       exact ⟨_,misses t' v e,zr⟩
      ·cases h
   ·split at h
    ·rename_i hok
     cases h
     subst hok
     cases hx.pv_inv
     exact ⟨_,fails,zr⟩
    ·cases h
   ·cases h
theorem dp{C:Ctx}(hC:X1 C){m:Mp}{K:KS}{w:World}{t:TypeId}{ti:TI}(hT:N0 C.P t ti)(hn:∀n,ti.td ≠ .iface n){a r:AV}{x:Value}(hx:C7 m K a x)(h:G4 t a=some r):
  ∃v,(Instr.makeInterface t x).run C.P w = .ok v w∧C7 m K r v:=by
 obtain ⟨d,hu,hd⟩:=hT.under
 have hni:∀ms,d ≠ .interface ms:=by
  intro ms e
  subst e
  exact hn _ hd.symm
 have hrun:(Instr.makeInterface t x).run C.P w = .ok (.iface t x) w:=by
  cases d<;>first|exact absurd rfl (hni _)|simp[Instr.makeInterface,run_underlying hu]
 refine ⟨_,hrun,?_⟩
 unfold G4 at h
 split at h
 ·cases h;exact .pv _ _ (.iface _ _ _ hx.pv_inv)
 ·cases h
 ·cases h;exact .iface _ _ _ hx
theorem jo{m:Mp}{K:KS}{e:Operand→AV}{ρ:Operand→Value}(he:∀x,C7 m K (e x) (ρ x))(xs:Array Operand):(xs.toList.map e).length=(xs.map ρ).size ∧ ∀(j:Nat) a v,(xs.toList.map e)[j]? = some a→(xs.map ρ)[j]? = some v→C7 m K a v:=by
 refine ⟨by simp,fun j a v ha hv=>?_⟩
 simp only[List.getElem?_map,Option.map_eq_some_iff,Array.getElem?_toList] at ha
 simp only[Array.getElem?_map,Option.map_eq_some_iff] at hv
 obtain ⟨x,hx,rfl⟩:=ha
 obtain ⟨y,hy,rfl⟩:=hv
 rw[hx] at hy;cases hy
 exact he x
theorem N7.bool_inv{K:KS}{b:Bool}{v:Value}(h:N7 K (.bool b) v):v = .bool b:=by cases h;rfl
theorem N7.int_inv{K:KS}{k:IntKind}{n:Int}{v:Value}(h:N7 K (.int k n) v):v = .int k n:=by cases h;rfl
theorem N7.str_inv{K:KS}{s:List UInt8}{v:Value}(h:N7 K (.str s) v):v = .string ⟨s.toArray⟩:=by cases h;rfl
theorem N4{P:Program}{w:World}{ρ:Operand→Value}{o:Oper}{b:Builtin}{args:Array Operand}{ts:Array TypeId}(ho:o.op = .call { callee:=.builtin b,args:=args,argTypes:=ts }):
  (execOp ρ o).run P w=(builtin b ts o.type (args.map fun| .const _=>true|_=>false) (args.map ρ)).run P w:=by
 simp[execOp,ho,resolve,invoke]
 rfl
theorem jr{α:Type}{a:Array α}{x y:α}(h:a.toList = [x,y]):a = #[x,y]:=by
 apply Array.ext';simpa using h
theorem C5.commit_first{C:Ctx}{m:Mp}{K:KS}{σ:A1}{w:World}(hB:C5 C m K σ w)(t:TypeId)(vs:Array Value)(fr:Nat×Nat)(n:Nat)(h1:∀(j:Nat) v,j<n→vs[j]? = some v→v.oneCell'=true):
  ∃K':KS,C5 C m K' σ (w.alloc (.cells vs t fr))∧Ext m K m K' ∧ ∀(j:Nat) v,j<n→vs[j]? = some v→K' w.heap.size j v:=by
 have hx:Ext m K m (fun b o v=>K b o v∨(b=w.heap.size∧o<n∧vs[o]? = some v)):=⟨fun _ _ _ h=>h,fun _ _ _ h=>.inl h⟩
 have hsz:C.w0.heap.size≤w.heap.size:=hB.below.size
 have hno:∀(id:Nat) x b,σ[id]? = some x→b∈blk m id x → ∀o v,(K b o v∨(b=w.heap.size∧o<n∧vs[o]? = some v))→K b o v:=by
  intro id x b h hb o v hK
  rcases hK with hK|⟨e,_⟩
  ·exact hK
  ·have:=hB.lt h hb;omega
 refine ⟨fun b o v=>K b o v∨(b=w.heap.size∧o<n∧vs[o]? = some v),⟨hB.below.alloc hsz _,fun b o v h=>?_,hB.dom,fun id x h=>?_,hB.base,hB.apart,fun g a h=>(hB.glob g a h).mono hx,fun b o v h=>h.elim (hB.old b o v) (fun h=>.inr (by rw[h.1];exact hsz))⟩,hx,fun j v hj h=>.inr ⟨rfl,hj,h⟩⟩
 ·rcases h with h|⟨rfl,hj,h⟩
  ·rw[S8 _ _ _ _ (hB.keep_lt h)]
   exact hB.keep b o v h
  ·rw[T3 _ _ _ (Q1 _ _)]
   exact ⟨h,h1 _ _ hj h⟩
 ·have hlt:∀b,b∈blk m id x→b<w.heap.size:=fun b hb=>hB.lt h hb
  have ho:=hB.obj id x h
  have hb:=hno id x
  cases x with
  | cells ty cs=>
   obtain ⟨b,cap,es,arr,hm,hh,hl,hr,hkk⟩:=ho
   have hm':b∈blk m id (.cells ty cs):=by simp[blk,Loc.blk,hm]
   exact ⟨b,cap,es,arr,hm,by rw[J4 _ _ _ (hlt b hm')];exact hh,hl,fun j a v x y=>⟨(hr j a v x y).1.mono hx,(hr j a v x y).2⟩,fun o v hK=>hkk o v (hb b h hm' o v hK)⟩
  | arr es xs fz=>
   obtain ⟨hver,ho⟩:=ho
   refine ⟨hver,?_⟩
   rcases ho with ⟨rfl,hm⟩|⟨b,cap,arr,ty,fr',hm,hh,k1,k2,k3,k4,k5,k6,k7⟩
   ·exact .inl ⟨rfl,hm⟩
   ·have hm':b∈blk m id (.arr es xs fz):=by simp[blk,Loc.blk,hm]
    exact .inr ⟨b,cap,arr,ty,fr',hm,by rw[J4 _ _ _ (hlt b hm')];exact hh,k1,k2,k3,k4,fun j p v x y=>⟨(k5 j p v x y).1.mono hx.2,(k5 j p v x y).2⟩,k6,fun j v hK=>k7 j v (hb b h hm' j v hK)⟩
  | bld ty el s=>
   obtain ⟨b,cap,es,p,v,hm,hh,hp,hkk,hver,ho⟩:=ho
   have hm':b∈blk m id (.bld ty el s):=by simp[blk,Loc.blk,hm]
   refine ⟨b,cap,es,p,v,hm,by rw[J4 _ _ _ (hlt b hm')];exact hh,hp,fun o v hK=>hkk o v (hb b h hm' o v hK),hver,?_⟩
   rcases ho with ho|⟨b2,cap2,arr,fr2,hm2,g1,g2,g3,g4,g5,g6,g7,g8,g9⟩
   ·exact .inl ho
   ·have hm2':b2∈blk m id (.bld ty el s):=by simp[blk,Loc.blk,hm2]
    exact .inr ⟨b2,cap2,arr,fr2,hm2,g1,g2,by rw[J4 _ _ _ (hlt b2 hm2')];exact g3,g4,g5,g6,g7,g8,fun o v hK=>g9 o v (hb b2 h hm2' o v hK)⟩
  | mp es=>
   obtain ⟨b,cap,s,arr,clock,hm,hh,hl,hr⟩:=ho
   have hm':b∈blk m id (.mp es):=by simp[blk,Loc.blk,hm]
   exact ⟨b,cap,s,arr,clock,hm,by rw[J4 _ _ _ (hlt b hm')];exact hh,hl,fun j e a x y=>⟨(hr j e a x y).1.mono hx.2,(hr j e a x y).2.mono hx⟩⟩
  | gone=>trivial
theorem lenS_sound{C:Ctx}{m:Mp}{K:KS}{σ:A1}{w:World}(hB:C5 C m K σ w){t ty:TypeId}{ti:TI}(hT:N0 C.P t ti){a:AV}{x:Value}(hx:C7 m K a x){r:AV}(h:aLenS σ ti.td a=some r){ts:Array TypeId}{xs:Array Value}(hts:ts[0]? = some t)(hxs:xs[0]? = some x):
  ∃v,(Builtin.len_ ts ty xs).run C.P w = .ok v w∧C7 m K r v:=by
 unfold aLenS at h
 split at h
 ·rename_i kt et hd
  split at h
  ·rename_i id
   split at h
   ·rename_i es ho
    cases h
    obtain ⟨b,cap,s,rfl,hb⟩:∃b cap s,x = .map (some b)∧m id 0=some (.at b cap s):=by cases hx with|mref _ b cap s h=>exact ⟨b,cap,s,rfl,h⟩
    obtain ⟨b',cap',s',arr,clock,hb',hh,hl,hr⟩:=hB.obj id _ ho
    rw[hb] at hb';cases hb'
    refine ⟨.int .i64 arr.size,by simp[Builtin.len_,hts,hxs,run_underlying (hT.map hd),MapKept.run_getObj_map hh,goInt,Result.andThen],?_⟩
    rw[hl]
    exact .pv _ _ (.int _ _)
   ·cases h
  ·cases h
 ·exact len_sound hT hx h hts hxs
theorem C5.away{C:Ctx}{m:Mp}{K:KS}{σ:A1}{w:World}(hB:C5 C m K σ w){id:Nat}(hid:id<σ.length):C5 C m K (σ.set id .gone) w:=by
 refine hB.step id .gone (fun i x h=>?_) (by simp) (by simpa using hid) (fun _ _ _ h=>h) (fun _ _=>rfl) hB.below (fun _ _ _ _=>rfl) (fun _ _ _ _ _ _=>rfl) trivial (fun b hb=>by simp[blk] at hb) (fun b hb=>by simp[blk] at hb)
 by_cases e:i=id
 ·subst e
  rw[List.getElem?_set_self hid] at h
  cases h;exact .inl ⟨rfl,rfl⟩
 ·rw[List.getElem?_set_ne (Ne.symm e)] at h
  exact .inr ⟨e,h⟩
theorem flat_take_get{xs:List PV}{k j:Nat}{p:PV}(h:(N8 (xs.take k))[j]? = some p):(N8 xs)[j]? = some p:=by
 have e:N8 xs=N8 (xs.take k)++N8 (xs.drop k):=by
  unfold N8
  rw[← List.flatMap_append,List.take_append_drop]
 rw[e,List.getElem?_append_left (List.getElem?_eq_some_iff.1 h).1]
 exact h
theorem C5.pop{C:Ctx}{m:Mp}{K:KS}{σ:A1}{w:World}(hB:C5 C m K σ w){id es ver k:Nat}{xs:List PV}(ho:σ[id]? = some (.arr es xs false))(hv:xs.length=ver)(hpos:0<ver){x0:Value}(hE0:C7 m K (.arr id ver 0 k) x0):
  ∃m',C5 C m' K (popS σ id es xs k) w∧Ext m K m' K∧C7 m' K (.arr σ.length k 0 k) x0:=by
 have hlt:=(List.getElem?_eq_some_iff.1 ho).1
 obtain ⟨hver,hoo⟩:=hB.obj id _ ho
 rcases hoo with ⟨e0,_⟩|⟨b,cap,arr,ty,fr,hm,hh,h1,h2,h3,h4,h5,h6,h7⟩
 ·rw[e0] at hv;simp at hv;omega
 have hk:k≤ver ∧ ∃c a,x0 = .slice a k c∧c=cap∧(c=0∨a=some ⟨b,0,none⟩):=by
  cases hE0 with
  | arr _ _ _ _ b' cap' es' c a h hc hl hv' ha=>
   rw[← hv,hm] at h
   cases h
   exact ⟨by omega,c,a,rfl,by omega,by simpa using ha⟩
  | arrNil _ _=>omega
 obtain ⟨hk,c0,a0,hx0,hc0,ha0⟩:=hk
 rw[← hv] at hk
 have hnone:∀v,m σ.length v=none:=fun v=>by
  cases h:m σ.length v with
  | none=>rfl
  | some l=>exact absurd (hB.dom _ _ _ h) (Nat.lt_irrefl _)
 have hB1:=hB.away hlt
 have hl1:(σ.set id M1.gone).length=σ.length:=List.length_set ..
 have hx:∀i v l,m i v=some l→L8 m σ.length k (.at b cap es) i v=some l:=T5 (hnone k)
 have hlk:(xs.take k).length=k:=by rw[List.length_take,Nat.min_eq_left hk]
 refine ⟨L8 m σ.length k (.at b cap es),hB1.step σ.length (.arr es (xs.take k) false) (fun i x h=>?_) (by simp[popS]) (by simp[popS]) hx (fun i h=>Q7 _ _ _ _ _ h) hB.below (fun _ _ _ _=>rfl) (fun _ _ _ _ _ _=>rfl) ?_ ?_ ?_,⟨hx,fun _ _ _ h=>h⟩,?_⟩
 ·have:=bf h
  rwa [hl1] at this
 ·refine ⟨fun ver l h=>?_,.inr ⟨b,cap,arr,ty,fr,by rw[hlk];exact I9 _ _ _ _,hh,by omega,h2,h3,fun x hx=>h4 x (List.mem_of_mem_take hx),fun j p v hp hv=>h5 j p v (flat_take_get hp) hv,fun j g1 g2=>h6 j (by simp) g2,fun j v hK=>?_⟩⟩
  ·unfold L8 at h
   split at h
   ·rename_i e;rw[hlk];exact Nat.le_of_eq e.2
   ·rw[hnone] at h;cases h
  ·exact absurd (h7 j v hK).1 (by decide)
 ·intro c hc
  simp only[blk,hlk,I9,Loc.blk,List.mem_singleton] at hc
  subst hc
  exact hB.base id _ c ho (by simp[blk,hm,Loc.blk])
 ·intro c hc i x hne' hi hcx
  simp only[blk,hlk,I9,Loc.blk,List.mem_singleton] at hc
  subst hc
  by_cases e:i=id
  ·subst e
   rw[List.getElem?_set_self hlt] at hi
   cases hi
   simp[blk] at hcx
  ·rw[List.getElem?_set_ne (Ne.symm e)] at hi
   exact e (hB.apart i x id _ c hi ho hcx (by simp[blk,hm,Loc.blk]))
 ·rw[hx0]
  exact .arr σ.length k 0 k b cap es c0 a0 (I9 _ _ _ _) (by omega) (by omega) (by omega) (by simpa using ha0)
theorem aAppendP_len{σ σ':A1}{ei:TI}{id ver len:Nat}{ys:List PV}{v:AV}(hl:∀{σ σ':A1} {ei:TI} {s x v:AV},L0 σ ei s x=some (v,σ')→σ.length≤σ'.length)(h:qg σ ei id ver len ys=some (v,σ')):σ.length≤σ'.length:=by
 unfold qg at h
 split at h
 ·split at h
  ·have:=hl h
   simp[popS] at this
   omega
  ·cases h
 ·cases h
theorem appendB_sound{C:Ctx}{m:Mp}{K:KS}{σ:A1}{w:World}(hB:C5 C m K σ w){t t2 ty el:TypeId}{ti ti2 ei:TI}(hT:N0 C.P t ti)(hd:ti.td = .slice el)(hE:N0 C.P el ei)(hT2:N0 C.P t2 ti2)(hn2:∀k,ti2.td ≠ .int k)
  {s x:AV} {sv xv:Value} (hs:C7 m K s sv) (hx:C7 m K x xv) {own:Bool} {r:AV} {σ':A1} (h:ik own σ ei s x=some (r,σ')):
  ∃v w' m' K',(Builtin.append_ #[t,t2] ty #[sv,xv]).run C.P w = .ok v w'∧C5 C m' K' σ' w'∧Ext m K m' K'∧C7 m' K' r v:=by
 cases own with
 | false=>exact kf hB hT hd hE hT2 hn2 hs hx h
 | true=>
  unfold ik at h
  simp only at h
  split at h
  ·rename_i id ver len
   split at h
   ·rename_i ys
    unfold qg at h
    split at h
    ·rename_i es zs ho
     split at h
     ·rename_i hc
      obtain ⟨m1,hB1,hx1,hs1⟩:=hB.pop ho hc.1 hc.2.1 hs
      obtain ⟨v,w',m',K',g1,g2,g3,g4⟩:=kf (ty:=ty) hB1 hT hd hE hT2 hn2 hs1 (hx.mono hx1) h
      exact ⟨v,w',m',K',g1,g2,hx1.trans g3,g4⟩
     ·cases h
    ·cases h
   ·cases h
  split at h
  ·rename_i ys hex hno
   split at h
   ·rename_i hc
    obtain ⟨hall,hroom⟩:=hc
    cases h
    obtain ⟨i,hi,hz,his,hib⟩:=hE.info
    obtain ⟨d2,hu2,hd2⟩:=hT2.notInt hn2
    have hu:=hT.slice hd
    have hys:=qd hall
    by_cases hy:ys = []
    ·subst hy
     have ha:L0 σ ei .nilsl x=some (.nilsl,σ):=by
      unfold L0
      rw[hex]
      simp[X6]
     obtain ⟨v,w',m',K',h1,h2,h3,h4⟩:=kf (ty:=ty) hB hT hd hE hT2 hn2 hs hx ha
     cases h4
     exact ⟨_,w',m',K',h1,h2,h3,.pv _ _ (.slNil _ _)⟩
    ·cases hs
     have hpos:0<ys.length:=List.length_pos_iff.2 hy
     obtain ⟨cap,vs,hrun,hle,hmax,hsz,hrep⟩:=sd (ty:=ty) (i:=i) hB hu hd2 hu2 hE (s:=.nilsl) (xs:=[]) rfl .nilsl (by simp) hex hx hys (by simp;omega) (by simpa using hroom)
     have hfl:=I6 hys
     simp only[List.nil_append] at hrep
     have hle':ys.length≤cap:=by simpa using hle
     have hmul:ys.length*ei.size≤cap*ei.size:=Nat.mul_le_mul_right _ hle'
     have hone:∀(j:Nat) v,j<ys.length*ei.size→vs[j]? = some v→v.oneCell'=true:=fun j v hj hv=>by
      have hp:(N8 ys)[j]? = some ((N8 ys)[j]'(by rw[hfl];exact hj)):=List.getElem?_eq_getElem _
      exact (hrep j _ v hp hv).2
     obtain ⟨K',h1,h2,h3⟩:=hB.drew.commit_first el vs (0,0) (ys.length*ei.size) hone
     refine ⟨_,_,m,K',by simpa using hrun,h1,h2,.pv _ _ ?_⟩
     have:=N7.sl (K:=K') ys ei.size w.drew.heap.size 0 cap ((vs.toList).take (ys.length*ei.size)) hle' hys (by
      have hv:vs.toList.length=cap*ei.size:=by rw[Array.length_toList];exact hsz
      rw[hfl,List.length_take,hv];omega) (fun j p v hp hv=>?_) (fun j v hv=>?_)
     ·simpa using this
     ·rw[List.getElem?_take] at hv
      split at hv
      ·exact (hrep j p v hp (by simpa using hv)).1.mono h2.2
      ·cases hv
     ·rw[List.getElem?_take] at hv
      split at hv
      ·rename_i hj
       have:=h3 j v hj (by simpa using hv)
       simpa using this
      ·cases hv
   ·cases h
  ·cases h
theorem aopK_sound{C:Ctx}(hC:Z5 C){m:Mp}{K:KS}{σ:A1}{w:World}(hB:C5 C m K σ w){e:Operand→AV}{ρ:Operand→Value}(he:∀x,C7 m K (e x) (ρ x)){o:Oper}{k:AV→A1→Prop}(h:Q3 C o e σ k):
  ∃v σ',k v σ'∧Ends C m K w (execOp ρ o) v σ':=by
 have hT:=hC.tab
 unfold Q3 at h
 split at h
 case h_1 x ho=>
  refine ⟨_,_,h,ρ x,w,m,K,.inl ?_,hB,Ext.refl _ _,he x⟩
  simp[execOp,ho]
 case h_2 x ho=>
  refine ⟨_,_,h,ρ x,w,m,K,.inl ?_,hB,Ext.refl _ _,he x⟩
  simp[execOp,ho]
 case h_3 c a b ho=>
  obtain ⟨t,ht,h⟩:=iy h
  have hc:=he c
  rw[ht] at hc
  have hcv:=hc.pv_inv.bool_inv
  cases t with
  | true=>exact ⟨_,_,h,ρ a,w,m,K,.inl (by simp[execOp,ho,hcv,asBool]),hB,Ext.refl _ _,he a⟩
  | false=>exact ⟨_,_,h,ρ b,w,m,K,.inl (by simp[execOp,ho,hcv,asBool]),hB,Ext.refl _ _,he b⟩
 case h_4 t ho=>
  obtain ⟨ti,hti,h⟩:=C4 h
  have hTI:=hT _ _ hti
  refine ⟨_,_,h,?_⟩
  have hrun:(execOp ρ o).run C.P w = .ok (.value (.pointer (some ⟨w.heap.size,0,none⟩))) (w.alloc (.cells ti.zero.cells t)):=by
   simp[execOp,ho,Instr.alloc,Y8 hTI,newVar,newRow]
  unfold newObj
  cases hb:C.isB t with
  | true=>
   have hz:=hC.bld t ti hb hti
   rw[hz] at hrun
   obtain ⟨m',h1,h2,h3⟩:=hB.alloc_bld t C.u8
   exact ⟨_,_,m',K,.inl hrun,h1,h2,h3⟩
  | false=>
   have hz:=rx (m:=m) (K:=K) hTI
   obtain ⟨m',h1,h2,h3⟩:=hB.alloc_cells t _ _ hz.1 hz.2
   exact ⟨_,_,m',K,.inl hrun,h1,h2,h3⟩
 case h_5 t x ho=>
  obtain ⟨h1,h⟩:=h
  refine ⟨_,_,h,?_⟩
  have hcr:=iv (he x) h1
  obtain ⟨m',h1,h2,h3⟩:=hB.alloc_cells t _ _ hcr.1 hcr.2
  exact ⟨_,_,m',K,.inl (by simp[execOp,ho,Instr.box,newVar,newRow]),h1,h2,h3⟩
 case h_6 t parts ho=>
  obtain ⟨ti,hti,h⟩:=C4 h
  obtain ⟨v,hv,h⟩:=C4 h
  obtain ⟨x,hx,hr⟩:=tu (w:=w) hT he (hT _ _ hti) hv
  refine ⟨_,_,h,x,w,m,K,.inl ?_,hB,Ext.refl _ _,hr⟩
  have e1:(parts.map fun (i,x)=>(i,ρ x))=(parts.toList.map fun p=>(p.1,ρ p.2)).toArray:=by
   apply Array.ext';simp
  simp only[execOp,ho,Sem.run_bind]
  rw[e1,hx]
  rfl
 case h_7 t len parts ho=>
  obtain ⟨ti,hti,h⟩:=C4 h
  split at h
  ·rename_i el hd
   obtain ⟨ei,hei,h⟩:=C4 h
   obtain ⟨v,σ',hv,h⟩:=ce h
   obtain ⟨x,w',m',K',hx,h1,h2,h3⟩:=sq hB he (hT _ _ hti) hd (hT _ _ hei) hv
   refine ⟨_,_,h,x,w',m',K',.inl ?_,h1,h2,h3⟩
   have e1:(parts.map fun (i,x)=>(i,ρ x))=(parts.toList.map fun p=>(p.1,ρ p.2)).toArray:=by
    apply Array.ext';simp
   simp only[execOp,ho,Sem.run_bind]
   rw[e1,hx]
   rfl
  ·exact h.elim
 case h_8 t a ho=>
  obtain ⟨ti,hti,h⟩:=C4 h
  obtain ⟨v,hv,h⟩:=C4 h
  obtain ⟨x,hx,hr⟩:=ox hB (hT _ _ hti) (he a) hv
  exact ⟨_,_,h,x,w,m,K,.inl (by simp[execOp,ho,hx]),hB,Ext.refl _ _,hr⟩
 case h_9 t a x ho=>
  obtain ⟨ti,hti,h⟩:=C4 h
  obtain ⟨σ',hs,h⟩:=C4 h
  obtain ⟨w',m',K',hrun,h1,h2⟩:=store_sound hB (hT _ _ hti) (he a) (he x) hs
  exact ⟨_,_,h,undef,w',m',K',.inr ⟨by simp[execOp,ho,hrun],rfl⟩,h1,h2,.dead _⟩
 case h_10 x ho=>
  obtain ⟨v,hv,h⟩:=C4 h
  obtain ⟨hrun,rfl⟩:=lq (he x) hv C.P w x ρ o rfl ho
  exact ⟨_,_,h,_,w,m,K,.inl hrun,hB,Ext.refl _ _,he x⟩
 case h_11 op t x y at_ ho=>
  obtain ⟨r,hk,v,hv,hr⟩:=ui (w:=w) hT (he x) (he y) h
  exact ⟨r,σ,hk,v,w,m,K,.inl (by simp only[execOp,ho];rw[Sem.run_bind,hv];rfl),hB,Ext.refl _ _,hr⟩
 case h_12 op t x ho=>
  obtain ⟨v,hv,h⟩:=C4 h
  obtain ⟨u,hu,hr⟩:=un_sound (P:=C.P) (w:=w) (he x) hv
  exact ⟨_,_,h,u,w,m,K,.inl (by simp[execOp,ho,hu]),hB,Ext.refl _ _,hr⟩
 case h_13 src dst x ho=>
  obtain ⟨ts,hts,h⟩:=C4 h
  obtain ⟨td,htd,h⟩:=C4 h
  obtain ⟨v,σ',hv,h⟩:=ce h
  obtain ⟨u,w',m',K',hu,h1,h2,h3⟩:=convert_sound hT hB (hT _ _ hts) (hT _ _ htd) (he x) hv
  exact ⟨_,_,h,u,w',m',K',.inl (by simp[execOp,ho,hu]),h1,h2,h3⟩
 case h_14 t x ho=>
  obtain ⟨ti,hti,h⟩:=C4 h
  split at h
  ·exact h.elim
  ·rename_i hn
   obtain ⟨v,hv,h⟩:=C4 h
   obtain ⟨u,hu,hr⟩:=dp (w:=w) hT (hT _ _ hti) hn (he x) hv
   exact ⟨_,_,h,u,w,m,K,.inl (by simp[execOp,ho,hu]),hB,Ext.refl _ _,hr⟩
 case h_15 fn first captured ho=>
  have r1:=jo he first
  have r2:=jo he captured
  exact ⟨_,_,h,_,w,m,K,.inl (by simp[execOp,ho,Instr.makeFunc]),hB,Ext.refl _ _,.func _ _ _ _ _ r1.1 r1.2 r2.1 r2.2⟩
 case h_16 t l c ho=>
  obtain ⟨ti,hti,h⟩:=C4 h
  split at h
  ·rename_i el hd
   obtain ⟨ei,hei,h⟩:=C4 h
   obtain ⟨n,hn,h⟩:=qt h
   obtain ⟨cc,hcc,h⟩:=qt h
   obtain ⟨v,σ',hv,h⟩:=ce h
   have hl:=he l
   have hc:=he c
   rw[hn] at hl
   rw[hcc] at hc
   obtain ⟨u,w',m',K',hu,h1,h2,h3⟩:=makeAny_sound (kl:=.i64) (kc:=.i64) hB (hT _ _ hti) hd (hT _ _ hei) hv
   exact ⟨_,_,h,u,w',m',K',.inl (by simp[execOp,ho,hl.pv_inv.int_inv,hc.pv_inv.int_inv,hu]),h1,h2,h3⟩
  ·exact h.elim
 case h_17 t x lo hi ho=>
  obtain ⟨ti,hti,h⟩:=C4 h
  obtain ⟨v,hv,h⟩:=C4 h
  obtain ⟨u,hu,hr⟩:=uf hT hB (hT _ _ hti) (he x) (lov:=lo.map ρ) (hiv:=hi.map ρ) (fun a ha=>by
   obtain ⟨y,rfl,rfl⟩:=Option.map_eq_some_iff.1 ha
   exact ⟨_,rfl,he y⟩) (fun hn=>by simpa using hn) (fun a ha=>by
   obtain ⟨y,rfl,rfl⟩:=Option.map_eq_some_iff.1 ha
   exact ⟨_,rfl,he y⟩) (fun hn=>by simpa using hn) hv
  exact ⟨_,_,h,u,w,m,K,.inl (by simp[execOp,ho,hu]),hB,Ext.refl _ _,hr⟩
 case h_18 t x f ho=>
  obtain ⟨ti,hti,h⟩:=C4 h
  obtain ⟨v,hv,h⟩:=C4 h
  obtain ⟨u,hu,hr⟩:=ky (w:=w) hT (hT _ _ hti) (he x) hv
  exact ⟨_,_,h,u,w,m,K,.inl (by simp[execOp,ho,hu]),hB,Ext.refl _ _,hr⟩
 case h_19 t x f ho=>
  obtain ⟨ti,hti,h⟩:=C4 h
  obtain ⟨v,hv,h⟩:=C4 h
  obtain ⟨u,hu,hr⟩:=tg (w:=w) hT (hT _ _ hti) (he x) hv
  exact ⟨_,_,h,u,w,m,K,.inl (by simp[execOp,ho,hu]),hB,Ext.refl _ _,hr⟩
 case h_20 t x i ho=>
  obtain ⟨ti,hti,h⟩:=C4 h
  split at h
  ·rename_i kd n hi
   obtain ⟨v,hv,h⟩:=C4 h
   have hix:=he i
   rw[hi] at hix
   obtain ⟨u,hu,hr⟩:=kx (k:=kd) hT hB (hT _ _ hti) (he x) hv
   exact ⟨_,_,h,u,w,m,K,.inl (by simp[execOp,ho,hix.pv_inv.int_inv,hu]),hB,Ext.refl _ _,hr⟩
  ·exact h.elim
 case h_21 t x i ho=>
  obtain ⟨ti,hti,h⟩:=C4 h
  split at h
  ·rename_i kd n hi
   obtain ⟨v,hv,h⟩:=C4 h
   have hix:=he i
   rw[hi] at hix
   obtain ⟨u,hu,hr⟩:=tv (k:=kd) (w:=w) hT (hT _ _ hti) (he x) hv
   exact ⟨_,_,h,u,w,m,K,.inl (by simp[execOp,ho,hix.pv_inv.int_inv,hu]),hB,Ext.refl _ _,hr⟩
  ·exact h.elim
 case h_22 x xt t ok ho=>
  obtain ⟨v,hv,h⟩:=C4 h
  obtain ⟨u,hu,hr⟩:=jn (w:=w) (xt:=xt) hT (he x) hv
  exact ⟨_,_,h,u,w,m,K,.inl (by simp[execOp,ho,hu]),hB,Ext.refl _ _,hr⟩
 case h_23 t i ho=>
  obtain ⟨vs,hvs,h⟩:=ph h
  obtain ⟨v,hv,h⟩:=C4 h
  have ht:=he t
  rw[hvs] at ht
  obtain ⟨u,hu,hr⟩:=ov (C:=C) (w:=w) ht hv
  exact ⟨_,_,h,u,w,m,K,.inl (by simp[execOp,ho,hu]),hB,Ext.refl _ _,hr⟩
 case h_24 args ts ho=>
  obtain ⟨t,ht,h⟩:=C4 h
  obtain ⟨x,hx,h⟩:=C4 h
  obtain ⟨ti,hti,h⟩:=C4 h
  obtain ⟨v,hv,h⟩:=C4 h
  obtain ⟨u,hu,hr⟩:=lenS_sound hB (ty:=o.type) (hT _ _ hti) (he x) hv ht (xs:=args.map ρ) (by simp[hx])
  refine ⟨_,_,h,u,w,m,K,.inl ?_,hB,Ext.refl _ _,hr⟩
  rw[N4 ho]
  simp[builtin,hu]
 case h_25 args ts ho=>
  split at h
  ·rename_i t t2 s x hts hargs
   obtain ⟨ti,hti,h⟩:=C4 h
   obtain ⟨ti2,hti2,h⟩:=C4 h
   split at h
   ·exact h.elim
   ·rename_i hni
    split at h
    ·rename_i el hd
     obtain ⟨ei,hei,h⟩:=C4 h
     obtain ⟨v,σ',hv,h⟩:=ce h
     obtain ⟨u,w',m',K',hu,h1,h2,h3⟩:=appendB_sound (ty:=o.type) hB (hT _ _ hti) hd (hT _ _ hei) (hT _ _ hti2) hni (he s) (he x) hv
     refine ⟨_,_,h,u,w',m',K',.inl ?_,h1,h2,h3⟩
     rw[N4 ho,jr hts,jr hargs]
     simp[builtin,hu]
    ·exact h.elim
  ·exact h.elim
 case h_26 args ts ho=>
  split at h
  ·rename_i t tr d x hts hargs
   obtain ⟨ti,hti,h⟩:=C4 h
   split at h
   ·rename_i el hd
    obtain ⟨ei,hei,h⟩:=C4 h
    obtain ⟨v,σ',hv,h⟩:=ce h
    obtain ⟨u,w',m',K',hu,h1,h2,h3⟩:=copy_sound (ty:=o.type) (t2:=tr) hB (hT _ _ hti) hd (hT _ _ hei) (he d) (he x) hv
    refine ⟨_,_,h,u,w',m',K',.inl ?_,h1,h2,h3⟩
    rw[N4 ho,jr hts,jr hargs]
    simp[builtin,hu]
   ·exact h.elim
  ·exact h.elim
 case h_27 args ts ho=>
  split at h
  ·rename_i x r hargs
   obtain ⟨v,hv,h⟩:=C4 h
   obtain ⟨u,hu,hr⟩:=dg (P:=C.P) (w:=w) (g:=Builtin.min2) we he r _ _ _ (he x) hv
   refine ⟨_,_,h,u,w,m,K,.inl ?_,hB,Ext.refl _ _,hr⟩
   rw[N4 ho]
   simp[builtin,Builtin.min_,hargs,hu]
  ·exact h.elim
 case h_28 args ts ho=>
  split at h
  ·rename_i x r hargs
   obtain ⟨v,hv,h⟩:=C4 h
   obtain ⟨u,hu,hr⟩:=dg (P:=C.P) (w:=w) (g:=Builtin.max2) max2_sound he r _ _ _ (he x) hv
   refine ⟨_,_,h,u,w,m,K,.inl ?_,hB,Ext.refl _ _,hr⟩
   rw[N4 ho]
   simp[builtin,Builtin.max_,hargs,hu]
  ·exact h.elim
 case h_29 t ho=>
  obtain ⟨m',h1,h2,h3⟩:=hB.alloc_map
  exact ⟨_,_,h,_,_,m',K,.inl (by simp[execOp,ho,uy]),h1,h2,h3⟩
 case h_30 t x i ok ho=>
  obtain ⟨ti,hti,h⟩:=C4 h
  obtain ⟨v,hv,h⟩:=C4 h
  obtain ⟨u,hu,hr⟩:=lookup_sound hT hB (hT _ _ hti) (he x) (he i) hv
  exact ⟨_,_,h,u,w,m,K,.inl (by simp[execOp,ho,hu]),hB,Ext.refl _ _,hr⟩
 case h_31 t x i v ho=>
  obtain ⟨ti,hti,h⟩:=C4 h
  obtain ⟨σ',hv,h⟩:=C4 h
  obtain ⟨w',hu,h1⟩:=mapUpd_sound hT hB (hT _ _ hti) (he x) (he i) (he v) hv
  exact ⟨_,_,h,undef,w',m,K,.inr ⟨by simp[execOp,ho,hu],rfl⟩,h1,Ext.refl _ _,.dead _⟩
 case h_32=>exact h.elim
end
section
open Go Go.RowKit
theorem ur{σ:A1}{ei:TI}{s x r:AV}{σ':A1}(h:L0 σ ei s x=some (r,σ')):σ.length≤σ'.length:=by
 unfold L0 at h
 split at h
 ·cases h
 ·split at h
  ·split at h
   ·split at h
    ·cases h;exact Nat.le_refl _
    ·split at h
     ·cases h;simp
     ·cases h
   ·split at h
    ·split at h
     ·cases h;simp
     ·cases h
    ·cases h
   ·cases h
  ·cases h
theorem aCopy_len{σ:A1}{ei:TI}{s x r:AV}{σ':A1}(h:aCopy σ ei s x=some (r,σ')):σ.length≤σ'.length:=by
 unfold aCopy at h
 split at h
 ·cases h
 ·split at h
  ·split at h
   ·split at h
    ·cases h;simp
    ·cases h
   ·cases h
  ·cases h
theorem aMakeSlice_len{σ:A1}{ei:TI}{n c:Int}{r:AV}{σ':A1}(h:ah σ ei n c=some (r,σ')):σ.length≤σ'.length:=by
 unfold ah at h
 split at h
 ·split at h
  ·cases h;simp
  ·cases h
 ·cases h
theorem aMakeAny_len{σ:A1}{el:TypeId}{ei:TI}{n c:Int}{r:AV}{σ':A1}(h:de σ el ei n c=some (r,σ')):σ.length≤σ'.length:=by
 unfold de at h
 split at h
 ·split at h
  ·simp only[Option.some.injEq,Prod.mk.injEq] at h
   obtain ⟨_,rfl⟩:=h
   simp
  ·cases h
 ·exact aMakeSlice_len h
theorem jf{σ:A1}{ei:TI}{own:Bool}{len:Nat}{l:List (Nat×AV)}{r:AV}{σ':A1}(h:R9 σ ei own len l=some (r,σ')):σ.length≤σ'.length:=by
 unfold R9 at h
 split at h
 ·cases h
 ·split at h
  ·cases h
  ·split at h
   ·split at h
    ·cases h;simp
    ·cases h;exact Nat.le_refl _
   ·cases h
theorem vc{σ:A1}{ei:TI}{own:Bool}{len:Nat}{l:List (Nat×AV)}{r:AV}{σ':A1}(h:H9 σ ei own len l=some (r,σ')):σ.length≤σ'.length:=by
 unfold H9 at h
 split at h
 ·rename_i e;cases h;exact jf e
 ·split at h
  ·rename_i e
   have:=jf h
   rw[qu e] at this
   exact this
  ·cases h
theorem aConvert_len{σ:A1}{tab:TypeId→Option TI}{s d:TD}{x r:AV}{σ':A1}(h:W4 σ tab s d x=some (r,σ')):σ.length≤σ'.length:=by
 unfold W4 at h
 split at h
 ·cases h;exact Nat.le_refl _
 ·cases h;exact Nat.le_refl _
 ·split at h
  ·split at h
   ·split at h
    ·cases h;simp
    ·cases h
   ·cases h
  ·cases h
 ·split at h
  ·split at h
   ·obtain ⟨s,_,e⟩:=Option.map_eq_some_iff.1 h
    cases e;exact Nat.le_refl _
   ·cases h;exact Nat.le_refl _
   ·split at h
    ·obtain ⟨s,_,e⟩:=Option.map_eq_some_iff.1 h
     cases e;exact Nat.le_refl _
    ·cases h
   ·cases h
  ·cases h
 ·cases h
theorem aStore_len{σ:A1}{ti:TI}{a v:AV}{σ':A1}(h:C2 σ ti a v=some σ'):σ.length≤σ'.length:=by
 unfold C2 at h
 simp only at h
 split at h
 ·split at h
  ·split at h
   ·split at h
    ·cases h;simp
    ·cases h
   ·cases h
  ·split at h
   ·split at h
    ·split at h
     ·split at h
      ·cases h;simp
      ·cases h
     ·split at h
      ·split at h
       ·cases h;simp
       ·cases h
      ·cases h
     ·cases h
    ·cases h
   ·cases h
  ·cases h
 ·cases h
theorem aMapUpd_len{σ σ':A1}{tab:TypeId→Option TI}{td:TD}{x key v:AV}(h:nh σ tab td x key v=some σ'):σ.length≤σ'.length:=by
 unfold nh at h
 split at h
 ·split at h
  ·split at h
   ·split at h
    ·split at h
     ·cases h;simp
     ·cases h;simp
     ·cases h
    ·cases h
   ·cases h
  ·cases h
 ·cases h
theorem aAppendB_len{own:Bool}{σ σ':A1}{ei:TI}{s x v:AV}(h:ik own σ ei s x=some (v,σ')):σ.length≤σ'.length:=by
 unfold ik at h
 split at h
 ·exact ur h
 ·split at h
  ·split at h
   ·exact aAppendP_len (fun h=>ur h) h
   ·cases h
  ·split at h
   ·split at h
    ·cases h;exact Nat.le_refl _
    ·cases h
   ·cases h
theorem E6{α:Type}{x:Option α}{k k':α→Prop}(h:opt x k)(hk:∀v,x=some v→k v→k' v):opt x k':=by
 cases x with
 | none=>exact h.elim
 | some v=>exact hk v rfl h
theorem iq{x:Option (AV×A1)}{k k':AV→A1→Prop}(h:opt2 x k)(hk:∀v σ,x=some (v,σ)→k v σ→k' v σ):opt2 x k':=by
 cases x with
 | none=>exact h.elim
 | some p=>exact hk p.1 p.2 rfl h
theorem isB_mono{a:AV}{k k':Bool→Prop}(h:isB a k)(hk:∀b,k b→k' b):isB a k':=by
 unfold isB at *
 split at h
 ·exact hk _ h
 ·exact h.elim
theorem isI_mono{kd:IntKind}{a:AV}{k k':Int→Prop}(h:isI kd a k)(hk:∀b,k b→k' b):isI kd a k':=by
 unfold isI at *
 split at h
 ·split at h
  ·rename_i e;rw[if_pos e];exact hk _ h
  ·exact h.elim
 ·exact h.elim
theorem xc{a:AV}{k k':List AV→Prop}(h:isTup a k)(hk:∀b,k b→k' b):isTup a k':=by
 unfold isTup at *
 split at h
 ·exact hk _ h
 ·exact h.elim
theorem aBinK_mono{tab:TypeId→Option TI}{t:TypeId}{lit:Bool}{op:BinOp}{x y:AV}{k k':AV→Prop}(h:Q9 tab t lit op x y k)(hk:∀v,k v→k' v):Q9 tab t lit op x y k':=by
 unfold Q9 at *
 split at h
 ·cases op
  case shl=>exact ⟨h.1,hk _ h.2⟩
  case shr=>exact ⟨h.1,hk _ h.2⟩
  all_goals
   simp only at h ⊢
   split at h
   ·rename_i e
    rw[if_pos e]
    first
     | exact h.elim
     | exact hk _ h
     | exact ⟨h.1,hk _ h.2⟩
   ·exact h.elim
 ·cases op
  case add=>exact ⟨h.1,hk _ h.2⟩
  all_goals first|exact h.elim|exact hk _ h
 ·unfold aEqK at *
  cases op<;>first|exact h.elim|exact E6 h fun _ _ h=>E6 h fun _ _ h=>hk _ h
theorem V2{C:Ctx}{o:Oper}{e:Operand→AV}{σ:A1}{k k':AV→A1→Prop}(h:Q3 C o e σ k)(hk:∀v σ',k v σ'→σ.length≤σ'.length→k' v σ'):Q3 C o e σ k':=by
 have hk0:∀v,k v σ→k' v σ:=fun v h=>hk v σ h (Nat.le_refl _)
 unfold Q3 at *
 split at h
 case h_1=>exact hk0 _ h
 case h_2=>exact hk0 _ h
 case h_3=>exact isB_mono h fun b h=>by cases b<;>exact hk0 _ h
 case h_4=>exact E6 h fun ti _ h=>hk _ _ h (by simp)
 case h_5=>exact ⟨h.1,hk _ _ h.2 (by simp)⟩
 case h_6=>exact E6 h fun ti _ h=>E6 h fun v _ h=>hk0 _ h
 case h_7=>
  refine E6 h fun ti _ h=>?_
  split at h
  ·exact E6 h fun ei _ h=>iq h fun v σ' e h=>hk _ _ h (vc e)
  ·exact h.elim
 case h_8=>exact E6 h fun ti _ h=>E6 h fun v _ h=>hk0 _ h
 case h_9=>exact E6 h fun ti _ h=>E6 h fun σ' e h=>hk _ _ h (aStore_len e)
 case h_10=>exact E6 h fun v _ h=>hk0 _ h
 case h_11=>exact aBinK_mono h fun v h=>hk0 _ h
 case h_12=>exact E6 h fun v _ h=>hk0 _ h
 case h_13=>exact E6 h fun s _ h=>E6 h fun d _ h=>iq h fun v σ' e h=>hk _ _ h (aConvert_len e)
 case h_14=>
  refine E6 h fun ti _ h=>?_
  split at h
  ·exact h.elim
  ·exact E6 h fun v _ h=>hk0 _ h
 case h_15=>exact hk0 _ h
 case h_16=>
  refine E6 h fun ti _ h=>?_
  split at h
  ·exact E6 h fun ei _ h=>isI_mono h fun n h=>isI_mono h fun c h=>iq h fun v σ' e h=>hk _ _ h (aMakeAny_len e)
  ·exact h.elim
 case h_17=>exact E6 h fun ti _ h=>E6 h fun v _ h=>hk0 _ h
 case h_18=>exact E6 h fun ti _ h=>E6 h fun v _ h=>hk0 _ h
 case h_19=>exact E6 h fun ti _ h=>E6 h fun v _ h=>hk0 _ h
 case h_20=>
  refine E6 h fun ti _ h=>?_
  split at h
  ·exact E6 h fun v _ h=>hk0 _ h
  ·exact h.elim
 case h_21=>
  refine E6 h fun ti _ h=>?_
  split at h
  ·exact E6 h fun v _ h=>hk0 _ h
  ·exact h.elim
 case h_22=>exact E6 h fun v _ h=>hk0 _ h
 case h_23=>exact xc h fun vs h=>E6 h fun v _ h=>hk0 _ h
 case h_24=>exact E6 h fun _ _ h=>E6 h fun _ _ h=>E6 h fun _ _ h=>E6 h fun v _ h=>hk0 _ h
 case h_25=>
  split at h
  ·refine E6 h fun _ _ h=>E6 h fun _ _ h=>?_
   split at h
   ·exact h.elim
   ·split at h
    ·exact E6 h fun _ _ h=>iq h fun v σ' e h=>hk _ _ h (aAppendB_len e)
    ·exact h.elim
  ·exact h.elim
 case h_26=>
  split at h
  ·refine E6 h fun _ _ h=>?_
   split at h
   ·exact E6 h fun _ _ h=>iq h fun v σ' e h=>hk _ _ h (aCopy_len e)
   ·exact h.elim
  ·exact h.elim
 case h_27=>
  split at h
  ·exact E6 h fun v _ h=>hk0 _ h
  ·exact h.elim
 case h_28=>
  split at h
  ·exact E6 h fun v _ h=>hk0 _ h
  ·exact h.elim
 case h_29=>exact hk _ _ h (by simp)
 case h_30=>exact E6 h fun ti _ h=>E6 h fun v _ h=>hk0 _ h
 case h_31=>exact E6 h fun ti _ h=>E6 h fun σ' e h=>hk _ _ h (aMapUpd_len e)
 case h_32=>exact h.elim
end
section
open Go Go.RowKit
theorem df{td:TD}{v:AV}{k:AV→Prop}(h:sn td v k):k v:=by
 unfold sn at h
 split at h
 ·obtain ⟨n,e,h⟩:=qt h;rw[e];exact h
 ·obtain ⟨b,e,h⟩:=iy h;rw[e];exact h
 ·obtain ⟨s,e,h⟩:=isS_some h;rw[e];exact h
 ·exact h
theorem cv{n:Bool}{v:AV}{k:AV→Prop}(h:rq n v k):k v:=by
 unfold rq at h
 split at h
 ·exact h
 ·obtain ⟨b,rfl,h⟩:=iy h
  cases b<;>exact h
theorem putK_elim{N:Nat}{env:Env}{dst:Option Tmp}{v:AV}{k:Env→Prop}(h:nt N env dst v k):
  (dst=none∧k env) ∨ ∃d,dst=some d∧d<N∧k (kz env d v):=by
 unfold nt at h
 split at h
 ·exact .inl ⟨rfl,h⟩
 ·rename_i d
  split at h
  ·rename_i hb
   exact .inr ⟨d,rfl,Nat.le_of_ble_eq_true hb,h⟩
  ·exact h.elim
theorem putK_put{m:Mp}{K:KS}{N:Nat}{env:Env}{dst:Option Tmp}{v:AV}{k:Env→Prop}(h:nt N env dst v k){a:Act}{x:Value}(hN:a.tmps.size=N)(hE:U8 m K env a.tmps)(hx:C7 m K v x):
  ∃env',k env'∧U8 m K env' (a.put dst x).tmps∧(a.put dst x).tmps.size=N∧(a.put dst x).defers=a.defers:=by
 rcases putK_elim h with ⟨rfl,h⟩|⟨d,rfl,hd,h⟩
 ·exact ⟨env,h,hE,hN,rfl⟩
 ·exact ⟨_,h,hE.put (by rw[hN];exact hd) hx,by simp[Act.put,hN],rfl⟩
theorem ww{P:Program}{o:Oper}{a:Act}{w:World}{next:Act→World→Prop}{Q:Exit→Act→World→Prop}{f:FuncId}{args:Array Value}(hrun:(execOp a.eval o).run P w=(callFunc f args).run P w)
  (h:O1 P f args w fun v w'=>next (a.put o.dst v) w'):o.wp P a w next Q:=by
 unfold Oper.wp
 rw[hrun]
 unfold O1 at h
 split at h
 ·rename_i v w' e;rw[e];exact h
 ·rename_i g as w' e
  rw[e]
  show Calls P g as w' _
  refine h.mono fun e w'' he=>?_
  obtain ⟨v,rfl,hR⟩:=he
  exact hR
 ·rename_i r as w' e
  rw[e]
  exact h
 ·exact h.elim
theorem O1.mono{P:Program}{f:FuncId}{args:Array Value}{w:World}{R R':Value→World→Prop}(h:O1 P f args w R)(hr:∀v w',R v w'→R' v w'):O1 P f args w R':=by
 unfold O1 at *
 split at h
 ·exact hr _ _ h
 ·exact h.mono fun e w'' ⟨v,e1,hR⟩=>⟨v,e1,hr _ _ hR⟩
 ·exact Rows.mono h hr
 ·exact h.elim
theorem oh{m:Mp}{K:KS}{f:AV}{fv:Value}{args:List AV}{vs:Array Value}(hf:C7 m K f fv)(ha:jb m K args vs){p:FuncId×List AV}(h:eg f args=some p):
  ∃us,jb m K p.2 us ∧ ∀(P:Program) (w:World),(do let d ←Deferred.ofValue fv vs;invoke d.target d.args:Sem Next).run P w=(callFunc p.1 us).run P w:=by
 unfold eg at h
 split at h
 ·rename_i g x y
  split at h
  ·rename_i hx hy
   cases h
   have e1:=Array.eq_empty_of_size_eq_zero (Nat.eq_of_beq_eq_true hx)
   have e2:=Array.eq_empty_of_size_eq_zero (Nat.eq_of_beq_eq_true hy)
   subst e1;subst e2
   have:=hf.pv_inv
   cases this with
   | raw v hv=>exact ⟨vs,ha,fun P w=>by simp[Deferred.ofValue,invoke]⟩
  ·cases h
 ·rename_i g first captured
  cases h
  cases hf with
  | func _ as bs us us' hl hr hl' hr'=>
   refine ⟨us++vs++us',⟨by simp[hl,hl',ha.1,Nat.add_assoc],fun j a v hj hv=>?_⟩,fun P w=>by simp[Deferred.ofValue,invoke]⟩
   by_cases h1:j<first.length
   ·rw[List.getElem?_append_left h1] at hj
    rw[Array.getElem?_append_left (by simp;omega),Array.getElem?_append_left (by omega)] at hv
    exact hr j a v hj hv
   ·rw[List.getElem?_append_right (by omega)] at hj
    by_cases h2:j<first.length+args.length
    ·rw[List.getElem?_append_left (by omega)] at hj
     rw[Array.getElem?_append_left (by have:=ha.1;simp;omega),Array.getElem?_append_right (by omega),←hl] at hv
     exact ha.2 _ a v hj hv
    ·rw[List.getElem?_append_right (by omega)] at hj
     rw[Array.getElem?_append_right (by have:=ha.1;simp;omega)] at hv
     have e:j-first.length-args.length=j-(us++vs).size:=by have:=ha.1;simp;omega
     rw[e] at hj
     exact hr' _ a v hj hv
 ·cases h
theorem op_sound{C:Ctx}(hC:Z5 C){m:Mp}{K:KS}{σ:A1}{w:World}(hB:C5 C m K σ w){a:Act}{o:Oper}{e:Operand→AV}(he:∀x,C7 m K (e x) (a.eval x)){k:AV→A1→Prop}(h:opK C o e σ k)
  {next:Act→World→Prop} {Q:Exit→Act→World→Prop}
  (hnext:∀v σ' m' K' w' x,k v σ'→C5 C m' K' σ' w'→σ.length≤σ'.length→Le σ.length m K m' K'→C7 m' K' v x→next (a.put o.dst x) w'):o.wp C.P a w next Q:=by
 unfold opK at h
 split at h
 ·obtain ⟨p,hp,h⟩:=C4 h
  unfold V1 at hp
  split at hp
  ·rename_i f args ts ho
   have hargs:jb m K (args.toList.map e) (args.map a.eval):=by
    obtain ⟨h1,h2⟩:=jo he args
    exact ⟨h1,h2⟩
   obtain ⟨us,hus,hrun⟩:=oh (he f) hargs hp
   refine ww (f:=p.1) (args:=us) ?_ ((h m K w us hB hus).mono fun v w' hR=>?_)
   ·have:=hrun C.P w
    simp only[execOp,ho,resolve]
    exact this
   ·obtain ⟨r,m',K',σ',h1,h2,h3,h4,h5⟩:=hR
    exact hnext r σ' m' K' w' v h5 h1 h2 h3 h4
  ·cases hp
 ·obtain ⟨v,σ',⟨hk,hlen⟩,x,w',m',K',hrun,h1,h2,h3⟩:=aopK_sound hC hB he (V2 h (k':=fun v σ'=>k v σ'∧σ.length≤σ'.length) fun v σ' h l=>⟨h,l⟩)
  have hn:=hnext v σ' m' K' w' x hk h1 hlen (h2.le _) h3
  unfold Oper.wp
  rcases hrun with hr|⟨hr,rfl⟩
  ·rw[hr];exact hn
  ·rw[hr];exact hn
end
end Go.Sv
