/- The library's functions as calls over stores, at this seat's numbers; and what a computed run does at them. -/
import Derived.Test.YtebgkjjbbnbnlaaGreatDoorSvT
import Derived.Test.YtebgkjjbbnbnlaaGreatDoorSvBf
import Derived.Test.YtebgkjjbbnbnlaaGreatDoorSvAs
import Derived.Test.YtebgkjjbbnbnlaaGreatDoorSvIx
import Derived.Lib.AppendIntMem
import Derived.Shelf.SlSorted.Search
set_option linter.unusedVariables false
set_option linter.unusedSimpArgs false
set_option maxRecDepth 100000
namespace Go.Sv
open Go Go.RowKit Go.Shelf Go.Proofs
structure Laid(w0:World):Prop where
 pow10:Lib.TabIs Tryz.prog w0 "internal/strconv.uint64pow10" .u64 Lib.pow10Tab
 errT:w0.cell? ⟨0,0,none⟩=some (.iface 158 (.agg #[.pointer (some ⟨9,29,none⟩)]))
theorem aw{f:FuncId}{fn:Func}(hf:Tryz.prog.funcs[f]? = some fn)(hn:(fn.name == "runtime.NumGoroutine")=false)(hb:fn.body=some (F3 fn)):∀(vs:Array Value) (w:World),(callFunc f vs).run Tryz.prog w = .ok (.enter f vs) w:=
 fun vs w=>Bw hf hn hb vs w
section
variable {w0:B5}{σ:A2}{R:AV→A2→Prop}{id:Nat}{s t:List UInt8}
theorem I6(ho:σ[id]? = some (.bld 58 5 s))(hlen:s.length+t.length≤140737488355328)(hR:R (.tup [.int t.length,.nilI]) (σ.set id (.bld 58 5 (s++t)))):A1 (cx w0) strings_Builder_WriteString.id [.ptr id 0,.pv (.str t)] σ R:=
 A1.WriteString (C:=cx w0) Tryz.bldn166 Tryz.bldX rfl rfl rfl (aw Tryz.func24 (by kernel_rfl) (by kernel_rfl)) ho hlen hR
theorem Y4{c:UInt8}(ho:σ[id]? = some (.bld 58 5 s))(hlen:s.length+1≤140737488355328)(hR:R .nilI (σ.set id (.bld 58 5 (s ++ [c])))):A1 (cx w0) strings_Builder_WriteByte.id [.ptr id 0,.pv (.int .u8 c.toNat)] σ R:=
 A1.WriteByte (C:=cx w0) Tryz.bldn167 Tryz.bldX rfl rfl rfl (aw Tryz.func66 (by kernel_rfl) (by kernel_rfl)) ho hlen hR
theorem de(ho:σ[id]? = some (.bld 58 5 s))(hR:R (.pv (.str s)) σ):A1 (cx w0) strings_Builder_String.id [.ptr id 0] σ R:=
 A1.BuilderString (C:=cx w0) Tryz.bldn169 Tryz.bldX rfl rfl rfl (aw Tryz.func25 (by kernel_rfl) (by kernel_rfl)) ho hR
theorem Pk{id2 es:Nat}{fz:Bool}(ho:σ[id]? = some (.bld 58 5 s))(ho2:σ[id2]? = some (.arr 1 (I1 t) fz))(hne:t ≠ [])(hlen:s.length+t.length≤140737488355328)(hR:R (.tup [.int t.length,.nilI]) (σ.set id (.bld 58 5 (s++t)))):
  A1 (cx w0) strings_Builder_Write.id [.ptr id 0,.arr id2 t.length 0 t.length] σ R:=by
 have hpos:0<t.length:=List.length_pos_iff.2 hne
 refine A1.BuilderWrite (C:=cx w0) Tryz.bld7n35 Tryz.bldn240 Tryz.bldX rfl rfl rfl rfl rfl rfl (aw Tryz.func135 (by kernel_rfl) (by kernel_rfl)) ho hne (fun m K w v hB hv=>?_) hlen hR
 rcases hv.arr_inv with ⟨b,cap,es',c,ad,rfl,hm,hcc,hl,hv2,ha⟩|⟨h0,_⟩
 ·have hm':m id2 (I1 t).length=some (.at b cap es'):=by rw[U0];exact hm
  obtain ⟨rfl,arr,ty,fr,hh,hcap,hmax,hasz,hes,hcr,_,_⟩:=hB.arr_open ho2 hm'
  have had:ad=some ⟨b,0*1,none⟩:=by
   rcases ha with h|h
   ·omega
   ·exact h
  subst had
  refine ⟨b,0*1,c,rfl,fun b2 cap2 es2 hm2 e=>?_,fun j u hj=>?_⟩
  ·subst e
   have hlt:id2≠id:=fun e=>by subst e;rw[ho] at ho2;cases ho2
   exact hlt (hB.apart id2 _ id _ b ho2 ho (by simp[blk,Loc.blk,hm']) (by simp[blk,Loc.blk,hm2]))
  ·have hjl:j<t.length:=by
    have:=(List.getElem?_eq_some_iff.1 hj).1
    rwa [Lib.byteCells_length] at this
   have hp:(T3 (I1 t))[j]? = some (.int .u8 (t[j].toNat:Int)):=by rw[Ju];simp[I1,hjl]
   have hu:u = .int .u8 (t[j].toNat:Int):=by simpa[Lib.byteCells,hjl] using hj.symm
   have hja:j<arr.size:=by rw[U0] at hcap;omega
   have:=(hcr j _ arr[j] hp (Array.getElem?_eq_getElem hja)).1
   rw[Nat.zero_mul,Nat.zero_add,X4 w b _ hh,Array.getElem?_eq_getElem hja,hu]
   revert this
   generalize arr[j]=x
   intro this
   cases this
   rfl
 ·omega
theorem eh(L:Laid w0.w){n:Int}(h0:-9223372036854775808≤n)(h1:n≤9223372036854775807)(hR:R (.pv (.str (Lib.itoa n))) σ):A1 (cx w0) strconv_Itoa.id [.pv (.int .i64 n)] σ R:=by
 refine A1.below (C:=cx w0) (aw Tryz.func65 (by kernel_rfl) (by kernel_rfl)) (fun m K w vs hB hv=>?_)
 obtain ⟨x,rfl,hx⟩:=hv.one
 obtain rfl:=hx.int_inv
 refine (Tryz.strconv_Itoa n h0 h1 w (Lib.tabBelow_of_tabIs L.pow10 w hB.below)).mono ?_
 rintro e w' ⟨rfl,k,os,rfl⟩
 exact ⟨_,_,rfl,below_grown_sl _ w k os (Nat.le_refl _),.pv _ _ (.str _),hR⟩
theorem A1.same{f:FuncId}{args:List AV}(hc:∀vs w,(callFunc f vs).run Tryz.prog w = .ok (.enter f vs) w){r:AV}(hR:R r σ)
  (h:∀m K w vs,D0 (cx w0) m K σ w→oz m K args vs → ∃v,D1 m K r v∧Calls Tryz.prog f vs w fun e w'=>e = .returned v∧w'=w):A1 (cx w0) f args σ R:=
 A1.below (C:=cx w0) hc fun m K w vs hB hv=>by
  obtain ⟨v,hr,hcl⟩:=h m K w vs hB hv
  exact hcl.mono fun e w' ⟨he,hw⟩=>⟨v,r,he,by rw[hw];exact Below.refl _ _,hr,hR⟩
theorem Z7(hR:R (.pv (.bool (Lib.hasPrefix s t))) σ):A1 (cx w0) strings_HasPrefix.id [.pv (.str s),.pv (.str t)] σ R:=
 A1.same (aw Tryz.func99 (by kernel_rfl) (by kernel_rfl)) hR fun m K w vs hB hv=>by
  obtain ⟨x,y,rfl,hx,hy⟩:=hv.two
  obtain rfl:=hx.str_inv
  obtain rfl:=hy.str_inv
  exact ⟨_,.pv _ _ (.bool _),Tryz.strings_HasPrefix ⟨s.toArray⟩ ⟨t.toArray⟩ w⟩
theorem pq(hs:s.length≤9223372036854775807)(hR:R (.pv (.bool (Lib.hasSuffix s t))) σ):A1 (cx w0) strings_HasSuffix.id [.pv (.str s),.pv (.str t)] σ R:=
 A1.same (aw Tryz.func73 (by kernel_rfl) (by kernel_rfl)) hR fun m K w vs hB hv=>by
  obtain ⟨x,y,rfl,hx,hy⟩:=hv.two
  obtain rfl:=hx.str_inv
  obtain rfl:=hy.str_inv
  exact ⟨_,.pv _ _ (.bool _),Tryz.strings_HasSuffix ⟨s.toArray⟩ ⟨t.toArray⟩ w (by simpa[ByteArray.size] using hs)⟩
theorem nj(hs:s.length≤9223372036854775807)(hR:R (.pv (.str (Lib.trimSuffix s t))) σ):A1 (cx w0) strings_TrimSuffix.id [.pv (.str s),.pv (.str t)] σ R:=
 A1.same (aw Tryz.func119 (by kernel_rfl) (by kernel_rfl)) hR fun m K w vs hB hv=>by
  obtain ⟨x,y,rfl,hx,hy⟩:=hv.two
  obtain rfl:=hx.str_inv
  obtain rfl:=hy.str_inv
  exact ⟨_,.pv _ _ (.str _),Tryz.strings_TrimSuffix ⟨s.toArray⟩ ⟨t.toArray⟩ w (by simpa[ByteArray.size] using hs)⟩
theorem du{s:List UInt8}{c:UInt8}(hR:R (.pv (.bool (s.contains c))) σ):A1 (cx w0) strings_Contains.id [.pv (.str s),.pv (.str [c])] σ R:=by
 rw[Lib.contains_iff_indexByte] at hR
 exact A1.same (aw Tryz.func63 (by kernel_rfl) (by kernel_rfl)) hR fun m K w vs hB hv=>by
  obtain ⟨x,y,rfl,hx,hy⟩:=hv.two
  obtain rfl:=hx.str_inv
  obtain rfl:=hy.str_inv
  exact ⟨_,.pv _ _ (.bool _),Tryz.strings_Contains_one ⟨s.toArray⟩ c w⟩
theorem ct(hR:R (.pv (.str (Lib.trimPrefix s t))) σ):A1 (cx w0) strings_TrimPrefix.id [.pv (.str s),.pv (.str t)] σ R:=
 A1.same (aw Tryz.func77 (by kernel_rfl) (by kernel_rfl)) hR fun m K w vs hB hv=>by
  obtain ⟨x,y,rfl,hx,hy⟩:=hv.two
  obtain rfl:=hx.str_inv
  obtain rfl:=hy.str_inv
  exact ⟨_,.pv _ _ (.str _),Tryz.strings_TrimPrefix ⟨s.toArray⟩ ⟨t.toArray⟩ w⟩
theorem iw{c:UInt8}(hR:R (.pv (.int .i64 (Lib.indexByte s c))) σ):A1 (cx w0) strings_IndexByte.id [.pv (.str s),.pv (.int .u8 c.toNat)] σ R:=
 A1.same (aw Tryz.func54 (by kernel_rfl) (by kernel_rfl)) hR fun m K w vs hB hv=>by
  obtain ⟨x,y,rfl,hx,hy⟩:=hv.two
  obtain rfl:=hx.str_inv
  obtain rfl:=hy.int_inv
  have:=Tryz.strings_IndexByte ⟨s.toArray⟩ (c.toNat:Int) w
  rw[show ((c.toNat:Int)).toNat.toUInt8=c by simp] at this
  exact ⟨_,.pv _ _ (.int _ _),this⟩
def Jc(t:List UInt8):Bool:=t.all fun b=>Nat.blt b.toNat 128
theorem Do(h:Jc t=true):∀(j:Nat) b,(ByteArray.mk t.toArray).data.toList[j]? = some b→b.toNat<128:=fun j b hj=>by
 have:=List.all_eq_true.1 h b (List.mem_of_getElem? hj)
 exact Nat.le_of_ble_eq_true this
theorem Um:(Tryz.prog.info? (Tryz.lays153_ren.t 116)).map (fun i=>(i.zero,i.size))=some (some (.agg (Array.replicate 256 (.bool false))),256):=by kernel_rfl
theorem rp(ha:Jc t=true)(hs:s.length<4294967281)(ht:t.length<4294967281)(hR:R (.pv (.int .i64 (Lib.indexAny s t))) σ):A1 (cx w0) strings_IndexAny.id [.pv (.str s),.pv (.str t)] σ R:=
 A1.below (C:=cx w0) (aw Tryz.func116 (by kernel_rfl) (by kernel_rfl)) fun m K w vs hB hv=>by
  obtain ⟨x,y,rfl,hx,hy⟩:=hv.two
  obtain rfl:=hx.str_inv
  obtain rfl:=hy.str_inv
  refine (Ix.IndexAny Tryz.lays153 (zero_of_info Um).1 (zero_of_info Um).2 ⟨s.toArray⟩ ⟨t.toArray⟩ w (by simpa[ByteArray.size] using hs) (by simpa[ByteArray.size] using ht) (Do ha)).mono ?_
  rintro e w' ⟨rfl,hb⟩
  exact ⟨_,_,rfl,hb,.pv _ _ (.int _ _),hR⟩
theorem Qy:(Tryz.prog.info? (Tryz.lays150_ren.t 116)).map (fun i=>(i.zero,i.size))=some (some (.agg (Array.replicate 256 (.bool false))),256):=by kernel_rfl
theorem lx(ha:Jc t=true)(hs:s.length<4294967281)(ht:t.length<4294967281)(hR:R (.pv (.bool (Lib.containsAny s t))) σ):A1 (cx w0) strings_ContainsAny.id [.pv (.str s),.pv (.str t)] σ R:=
 A1.below (C:=cx w0) (aw Tryz.func94 (by kernel_rfl) (by kernel_rfl)) fun m K w vs hB hv=>by
  obtain ⟨x,y,rfl,hx,hy⟩:=hv.two
  obtain rfl:=hx.str_inv
  obtain rfl:=hy.str_inv
  refine (Ix.ContainsAny Tryz.lays150 (zero_of_info Qy).1 (zero_of_info Qy).2 ⟨s.toArray⟩ ⟨t.toArray⟩ w (by simpa[ByteArray.size] using hs) (by simpa[ByteArray.size] using ht) (Do ha)).mono ?_
  rintro e w' ⟨rfl,hb⟩
  exact ⟨_,_,rfl,hb,.pv _ _ (.bool _),hR⟩
theorem Yv(L:Laid w0.w){n:Int}{ty:TypeId}{old:AV}(ho:σ[id]? = some (.cells ty [old]))(hR:R (.pv (.bool true)) (σ.set id (.cells ty [.int n]))):
  A1 (cx w0) errors_As.id [.pv (.iface 63 (.int .i64 n)),.iface 65 (.ptr id 0)] σ R:=by
 intro m K w vs hB hv
 obtain ⟨x,y,rfl,hx,hy⟩:=hv.two
 have hx':x = .iface 63 (.int .i64 n):=by
  cases hx with|pv p v hp=>cases hp with|iface t p v h=>cases h;rfl
 subst hx'
 obtain ⟨z,rfl,hz⟩:∃z,y = .iface 65 z∧D1 m K (.ptr id 0) z:=by
  cases hy with|iface t p v h=>exact ⟨v,rfl,h⟩
 obtain ⟨b,cap,es,rfl,hm⟩:=hz.ptr_inv
 obtain ⟨b',cap',es',arr,hm',hh,hl,hr,hk⟩:=hB.obj id _ ho
 rw[hm] at hm';cases hm'
 obtain ⟨u,hu⟩:∃u,arr[0]? = some u:=⟨arr[0]'(by simp at hl;omega),Array.getElem?_eq_getElem _⟩
 have h0:w.cell? ⟨b,0,none⟩=some u:=by rw[X4 w b 0 hh,hu]
 have hf:w.frozen? ⟨b,0,none⟩=false:=by rw[oc w b 0 hh];simp
 have hg:w.cell? ⟨0,0,none⟩=some (.iface 158 (.agg #[.pointer (some ⟨9,29,none⟩)])):=by
  have hlt:0<w0.w.heap.size:=by
   obtain ⟨cs,t,fr,hb,_⟩:=ia L.errT
   exact (Array.getElem?_eq_some_iff.1 hb).1
  rw[hB.below.cell (p:=⟨0,0,none⟩) hlt]
  exact L.errT
 refine R1.of_calls (aw Tryz.func27 (by kernel_rfl) (by kernel_rfl) _ w) ((Zp n ⟨b,0,none⟩ u w hg h0 hf).mono ?_)
 rintro e w' ⟨rfl,rfl⟩
 have hbig:∀{w1:World} (o:Obj),D0 (cx w0) m K σ w1→D0 (cx w0) m K σ (w1.alloc o):=fun o h=>h.grown ((Below.refl _ _).alloc (Nat.le_refl _) o)
 have hB4:=hbig (.cells #[.int .i64 n] 63) (hbig (.cells #[.pointer (some ⟨9,65,none⟩),.pointer (some ⟨w.heap.size,0,none⟩),.int .u64 150] 106) (hbig (.cells #[.pointer (some ⟨9,65,none⟩),.pointer (some ⟨w.heap.size,0,none⟩),.int .u64 150] 106) (hbig (.cells #[.pointer (some ⟨b,0,none⟩)] 65) hB)))
 have hB':=hB4.set_one ho hm (a:=.int n) (.pv _ _ (.int _ n)) rfl
 exact ⟨_,rfl,_,m,K,_,hB',by simp,Le.refl _ _ _,.pv _ _ (.bool true),hR⟩
end
def POK(C:Ctx)(f:FuncId)(p:List AV→A2→Option (AV×A2)):Prop:=∀args σ r σ',p args σ=some (r,σ') → ∀R:AV→A2→Prop,R r σ'→A1 C f args σ R
def iu:List (FuncId×(List AV→A2→Option (AV×A2)))→dq
 | [],_,_,_=>none
 | (g,p)::r,f,args,σ=>match Nat.beq g f with
  | true=>p args σ
  | false=>iu r f args σ
def Yc(C:Ctx):List (FuncId×(List AV→A2→Option (AV×A2)))→Prop
 | []=>True
 | (f,p)::r=>POK C f p∧Yc C r
theorem wq{C:Ctx}:∀(l:List (FuncId×(List AV→A2→Option (AV×A2)))),Yc C l→cp C (iu l)
 | [],_=>fun f args σ r σ' h=>by cases h
 | (g,p)::rest,hl=>fun f args σ r σ' h R hR=>by
  unfold iu at h
  split at h
  ·rename_i he
   rw[← Nat.eq_of_beq_eq_true he]
   exact hl.1 _ _ _ _ h R hR
  ·exact wq rest hl.2 f args σ r σ' h R hR
def Hc(ty el:TypeId):Bool:=Nat.beq ty 58&&Nat.beq el 5
def mv:List AV→A2→Option (AV×A2)
 | [.ptr id 0,.pv (.str t)],σ=>match σ[id]? with
  | some (.bld ty el s)=>match Hc ty el&&Nat.ble (s.length+t.length) 140737488355328 with
   | true=>some (.tup [.int t.length,.nilI],σ.set id (.bld ty el (s++t)))
   | false=>none
  | _=>none
 | _,_=>none
def sc:List AV→A2→Option (AV×A2)
 | [.ptr id 0,.pv (.int .u8 n)],σ=>match σ[id]? with
  | some (.bld ty el s)=>match Hc ty el&&Nat.ble (s.length+1) 140737488355328&&decide (0≤n)&&decide (n≤255) with
   | true=>some (.nilI,σ.set id (.bld ty el (s ++ [UInt8.ofNat n.toNat])))
   | false=>none
  | _=>none
 | _,_=>none
def Jm:List AV→A2→Option (AV×A2)
 | [.ptr id 0],σ=>match σ[id]? with
  | some (.bld ty el s)=>match Hc ty el with
   | true=>some (.pv (.str s),σ)
   | false=>none
  | _=>none
 | _,_=>none
def Wf:Nat→Nat→List UInt8
 | 0,_=>[]
 | f+1,u=>match Nat.ble 10 u with
  | false=>[UInt8.ofNat (48+u)]
  | true=>Wf f (u / 10) ++ [UInt8.ofNat (48+u % 10)]
theorem Ij:∀(f u:Nat),u<10 ^ f→0<f→Wf f u=Lib.decDigits u
 | 0,u,_,h0=>absurd h0 (Nat.lt_irrefl _)
 | f+1,u,h,_=>by
  unfold Wf
  rw[Lib.decDigits]
  by_cases hu:u<10
  ·rw[dif_pos hu]
   have:Nat.ble 10 u=false:=by
    cases hb:Nat.ble 10 u with
    | false=>rfl
    | true=>have:=Nat.le_of_ble_eq_true hb;omega
   rw[this]
  ·rw[dif_neg hu,Nat.ble_eq_true_of_le (show 10≤u by omega)]
   have hf:0<f:=by
    rcases Nat.eq_zero_or_pos f with h0|h0
    ·subst h0;simp at h;omega
    ·exact h0
   have:u / 10<10 ^ f:=by rw[Nat.pow_succ] at h;omega
   simp only[Ij f (u / 10) this hf]
def Wr(n:Int):List UInt8:=match n with
 | .ofNat u=>Wf 20 u
 | .negSucc u=>45::Wf 20 (u+1)
theorem Wp{n:Int}(h0:-9223372036854775808≤n)(h1:n≤9223372036854775807):Wr n=Lib.itoa n:=by
 unfold Wr Lib.itoa
 cases n with
 | ofNat u=>
  have:(Int.ofNat u)=(u:Int):=rfl
  rw[if_neg (by omega)]
  exact Ij 20 u (by omega) (by decide)
 | negSucc u=>
  rw[if_pos (by omega)]
  have:(Int.negSucc u).natAbs=u+1:=rfl
  rw[this]
  simp only[Ij 20 (u+1) (by omega) (by decide)]
def Xe:List AV→A2→Option (AV×A2)
 | [.pv (.int .i64 n)],σ=>match decide (-9223372036854775808≤n)&&decide (n≤9223372036854775807) with
  | true=>some (.pv (.str (Wr n)),σ)
  | false=>none
 | _,_=>none
def pAs:List AV→A2→Option (AV×A2)
 | [.pv (.iface t (.int .i64 n)),.iface u (.ptr id 0)],σ=>match Nat.beq t 63&&Nat.beq u 65 with
  | true=>match σ[id]? with
   | some (.cells ty [_])=>some (.pv (.bool true),σ.set id (.cells ty [.int n]))
   | _=>none
  | false=>none
 | _,_=>none
def gq(ok:List UInt8→List UInt8→Bool)(f:List UInt8→List UInt8→PV):List AV→A2→Option (AV×A2)
 | [.pv (.str s),.pv (.str t)],σ=>match ok s t with
  | true=>some (.pv (f s t),σ)
  | false=>none
 | _,_=>none
theorem je{C:Ctx}{g:FuncId}{ok:List UInt8→List UInt8→Bool}{f:List UInt8→List UInt8→PV}(h:∀(s t:List UInt8) (σ:A2) (R:AV→A2→Prop),ok s t=true→R (.pv (f s t)) σ→A1 C g [.pv (.str s),.pv (.str t)] σ R):POK C g (gq ok f):=by
 intro args σ r σ' h' R hR
 unfold gq at h'
 split at h'
 ·split at h'
  ·rename_i hc
   cases h'
   exact h _ _ _ _ hc hR
  ·cases h'
 ·cases h'
def Rt(s t:List UInt8):Bool:=Nat.ble s.length 140737488355328
def Zg(s:List UInt8):List UInt8→Bool
 | [_]=>true
 | _=>false
def fb:List AV→A2→Option (AV×A2)
 | [.pv (.str s),.pv (.int .u8 n)],σ=>match decide (0≤n)&&decide (n≤255) with
  | true=>some (.pv (.int .i64 (Lib.indexByte s (UInt8.ofNat n.toNat))),σ)
  | false=>none
 | _,_=>none
def Gv(s t:List UInt8):Bool:=Jc t&&Nat.blt s.length 4294967281&&Nat.blt t.length 4294967281
section
variable {w0:B5}
theorem zo:POK (cx w0) strings_Builder_WriteString.id mv:=by
 intro args σ r σ' h R hR
 unfold mv at h
 split at h
 ·rename_i id t
  split at h
  ·rename_i ty el s ho
   split at h
   ·rename_i hc
    simp only[Hc,Bool.and_eq_true] at hc
    obtain ⟨⟨h1,h2⟩,h3⟩:=hc
    obtain rfl:=Nat.eq_of_beq_eq_true h1
    obtain rfl:=Nat.eq_of_beq_eq_true h2
    cases h
    exact I6 ho (Nat.le_of_ble_eq_true h3) hR
   ·cases h
  ·cases h
 ·cases h
theorem Er:POK (cx w0) strings_Builder_WriteByte.id sc:=by
 intro args σ r σ' h R hR
 unfold sc at h
 split at h
 ·rename_i id n
  split at h
  ·rename_i ty el s ho
   split at h
   ·rename_i hc
    simp only[Hc,Bool.and_eq_true,decide_eq_true_eq] at hc
    obtain ⟨⟨⟨⟨h1,h2⟩,h3⟩,h4⟩,h5⟩:=hc
    obtain rfl:=Nat.eq_of_beq_eq_true h1
    obtain rfl:=Nat.eq_of_beq_eq_true h2
    cases h
    have e:((UInt8.ofNat n.toNat).toNat:Int)=n:=by
     rw[UInt8.toNat_ofNat'];omega
    have:=Y4 (w0:=w0) (c:=UInt8.ofNat n.toNat) ho (Nat.le_of_ble_eq_true h3) hR
    rw[e] at this
    exact this
   ·cases h
  ·cases h
 ·cases h
theorem Ob:POK (cx w0) strings_Builder_String.id Jm:=by
 intro args σ r σ' h R hR
 unfold Jm at h
 split at h
 ·rename_i id
  split at h
  ·rename_i ty el s ho
   split at h
   ·rename_i hc
    simp only[Hc,Bool.and_eq_true] at hc
    obtain rfl:=Nat.eq_of_beq_eq_true hc.1
    obtain rfl:=Nat.eq_of_beq_eq_true hc.2
    cases h
    exact de ho hR
   ·cases h
  ·cases h
 ·cases h
theorem Wq(L:Laid w0.w):POK (cx w0) strconv_Itoa.id Xe:=by
 intro args σ r σ' h R hR
 unfold Xe at h
 split at h
 ·split at h
  ·rename_i hc
   simp only[Bool.and_eq_true,decide_eq_true_eq] at hc
   cases h
   rw[Wp hc.1 hc.2] at hR
   exact eh L hc.1 hc.2 hR
  ·cases h
 ·cases h
theorem Zt(L:Laid w0.w):POK (cx w0) errors_As.id pAs:=by
 intro args σ r σ' h R hR
 unfold pAs at h
 split at h
 ·split at h
  ·rename_i hc
   simp only[Bool.and_eq_true] at hc
   obtain rfl:=Nat.eq_of_beq_eq_true hc.1
   obtain rfl:=Nat.eq_of_beq_eq_true hc.2
   split at h
   ·rename_i ho
    cases h
    exact Yv L ho hR
   ·cases h
  ·cases h
 ·cases h
theorem Ez:POK (cx w0) strings_HasPrefix.id (gq (fun _ _=>true) fun s t=>.bool (Lib.hasPrefix s t)):=je fun s t σ R _ hR=>Z7 hR
theorem Eh:POK (cx w0) strings_HasSuffix.id (gq Rt fun s t=>.bool (Lib.hasSuffix s t)):=je fun s t σ R h hR=>pq (Nat.le_trans (Nat.le_of_ble_eq_true h) (by decide)) hR
theorem Ch:POK (cx w0) strings_TrimSuffix.id (gq Rt fun s t=>.str (Lib.trimSuffix s t)):=je fun s t σ R h hR=>nj (Nat.le_trans (Nat.le_of_ble_eq_true h) (by decide)) hR
theorem Cx:POK (cx w0) strings_TrimPrefix.id (gq (fun _ _=>true) fun s t=>.str (Lib.trimPrefix s t)):=je fun s t σ R _ hR=>ct hR
theorem Jk:POK (cx w0) strings_Contains.id (gq Zg fun s t=>.bool (s.contains (t.headD 0))):=je fun s t σ R h hR=>by
 cases t with
 | nil=>cases h
 | cons c r=>
  cases r with
  | nil=>exact du hR
  | cons _ _=>cases h
theorem zm:POK (cx w0) strings_ContainsAny.id (gq Gv fun s t=>.bool (Lib.containsAny s t)):=je fun s t σ R h hR=>by
 simp only[Gv,Bool.and_eq_true] at h
 exact lx h.1.1 (Nat.le_of_ble_eq_true h.1.2) (Nat.le_of_ble_eq_true h.2) hR
theorem Jv:POK (cx w0) strings_IndexAny.id (gq Gv fun s t=>.int .i64 (Lib.indexAny s t)):=je fun s t σ R h hR=>by
 simp only[Gv,Bool.and_eq_true] at h
 exact rp h.1.1 (Nat.le_of_ble_eq_true h.1.2) (Nat.le_of_ble_eq_true h.2) hR
theorem Es:POK (cx w0) strings_IndexByte.id fb:=by
 intro args σ r σ' h R hR
 unfold fb at h
 split at h
 ·rename_i s n
  split at h
  ·rename_i hc
   simp only[Bool.and_eq_true,decide_eq_true_eq] at hc
   cases h
   have e:((UInt8.ofNat n.toNat).toNat:Int)=n:=by rw[UInt8.toNat_ofNat'];omega
   have:=iw (w0:=w0) (s:=s) (c:=UInt8.ofNat n.toNat) hR
   rw[e] at this
   exact this
  ·cases h
 ·cases h
end
def Fz:List (FuncId×(List AV→A2→Option (AV×A2))):=[(strings_Builder_WriteString.id,mv),(strings_Builder_WriteByte.id,sc),(strings_Builder_String.id,Jm),(strconv_Itoa.id,Xe),
 (strings_HasPrefix.id,gq (fun _ _=>true) fun s t=>.bool (Lib.hasPrefix s t)),
 (strings_HasSuffix.id,gq Rt fun s t=>.bool (Lib.hasSuffix s t)),
 (strings_TrimSuffix.id,gq Rt fun s t=>.str (Lib.trimSuffix s t)),
 (strings_TrimPrefix.id,gq (fun _ _=>true) fun s t=>.str (Lib.trimPrefix s t)),
 (strings_Contains.id,gq Zg fun s t=>.bool (s.contains (t.headD 0))),
 (strings_ContainsAny.id,gq Gv fun s t=>.bool (Lib.containsAny s t)),
 (strings_IndexAny.id,gq Gv fun s t=>.int .i64 (Lib.indexAny s t)),
 (strings_IndexByte.id,fb),
 (errors_As.id,pAs)]
theorem My{w0:B5}(L:Laid w0.w):Yc (cx w0) Fz:=⟨zo,Er,Ob,Wq L,
 Ez,
 Eh,
 Ch,
 Cx,
 Jk,
 zm,
 Jv,
 Es,
 Zt L,trivial⟩
def ox:List (FuncId×FE)→FuncId→Option FE
 | [],_=>none
 | (g,x)::r,f=>match Nat.beq g f with
  | true=>some x
  | false=>ox r f
def ut(C:Ctx):List (FuncId×FE)→Prop
 | []=>True
 | (f,x)::r=>FOK C f x∧ut C r
theorem Dh{C:Ctx}:∀(l:List (FuncId×FE)),ut C l → ∀f x,ox l f=some x→FOK C f x
 | [],_,f,x,h=>by cases h
 | (g,y)::r,hl,f,x,h=>by
  unfold ox at h
  split at h
  ·rename_i he
   cases h
   rw[← Nat.eq_of_beq_eq_true he];exact hl.1
  ·exact Dh r hl.2 f x h
theorem Hb{w0:B5}(L:Laid w0.w){T:List (FuncId×FE)}(hT:ut (cx w0) T){depth fuel:Nat}{f:FuncId}{args:List AV}{σ:A2}{r:AV}{σ':A2}(h:pb (cx w0) (ox T) (iu Fz) depth fuel f args σ=some (r,σ')){R:AV→A2→Prop}(hR:R r σ'):A1 (cx w0) f args σ R:=
 Bu (J9 w0) (cxG w0) (Dh T hT) (wq Fz (My L)) fuel f args σ r σ' h R hR
theorem Laid.mono{w0 w:World}(L:Laid w0)(hb:Below w0.heap.size w0 w):Laid w:=by
 refine ⟨Lib.tabBelow_of_tabIs L.pow10 w hb,?_⟩
 have hlt:0<w0.heap.size:=by
  obtain ⟨cs,t,fr,h,_⟩:=ia L.errT
  exact (Array.getElem?_eq_some_iff.1 h).1
 rw[hb.cell (p:=⟨0,0,none⟩) hlt]
 exact L.errT
theorem A1.alone{w0:B5}{f:FuncId}{args:List AV}{σ:A2}{R:AV→A2→Prop}{r:AV}(L:Laid w0.w)(ha:args.all AV.isPv=true)(h:∀w1:B5,Laid w1.w→A1 (cx w1) f args [] fun r' _=>r'=r)(hn:AV.under 0 r=true)(hR:R r σ):A1 (cx w0) f args σ R:=by
 intro m K w vs hB hv
 have hB1:D0 (cx ⟨w,K⟩) (fun _ _=>none) K [] w:=⟨Below.refl _ _,hB.keep,(fun _ _ _ h=>nomatch h),(fun id x h=>nomatch (show (none:Option P9)=some x from h)),(fun id x b h=>nomatch (show (none:Option P9)=some x from h)),(fun id x id' x' b h=>nomatch (show (none:Option P9)=some x from h)),(fun g a h=>nomatch (show (none:Option AV)=some a from h)),fun b o v h=>.inl h⟩
 have hv1:oz (fun _ _=>none) K args vs:=⟨hv.1,fun j a v hj hjv=>(hv.2 j a v hj hjv).pvs (List.all_eq_true.1 ha a (List.mem_of_getElem? hj))⟩
 refine R1.mono (h ⟨w,K⟩ (L.mono hB.below) _ K w vs hB1 hv1) fun v w' ⟨r',m',K',σ',hB',_,hle,hr,e⟩=>?_
 subst e
 have hK:=hle.2
 refine ⟨r',m,K',σ,hB.moreK hB'.below hK (fun b o v h=>hB'.old b o v h) hB'.keep,Nat.le_refl _,⟨fun _ _ _ _ h=>h,hK⟩,(hr.cut (k:=0) hn).mono ⟨fun id ver l h=>?_,fun _ _ _ h=>h⟩,hR⟩
 simp[W8] at h
end Go.Sv
