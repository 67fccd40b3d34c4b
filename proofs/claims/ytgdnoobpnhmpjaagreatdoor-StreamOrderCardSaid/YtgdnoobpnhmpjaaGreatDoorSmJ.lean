/- Lines put together again: the library's Join over a row of lines, as a call and as a step of a computed run. Package normal, reading: numbers, ranges, commands: what the code answers. Sections of a patch, as plain data: their names, what they come to, the other way round. What the code of Go functions comes to over abstract stores, piece by piece; each equation by the kernel. Printed by a program of this session. A store may be told anew: objects that nothing leads to are left out, the others get new numbers. Sections with memory of their own. -/
import Derived.Test.YtgdnoobpnhmpjaaGreatDoorSmR
import Derived.Test.YtgdnoobpnhmpjaaGreatDoorCxT
import Derived.Test.YtgdnoobpnhmpjaaGreatDoorNmP
import Derived.Test.YtgdnoobpnhmpjaaGreatDoorHk
import Derived.Test.YtgdnoobpnhmpjaaGreatDoorSvT
import Derived.KernelRfl
import Derived.Test.YtgdnoobpnhmpjaaGreatDoorSvBk
import Derived.Test.YtgdnoobpnhmpjaaGreatDoorUnU
set_option linter.unusedVariables false
set_option linter.unusedSimpArgs false
set_option maxRecDepth 100000
section
namespace Go.Sv
open Go Go.RowKit Go.Proofs
section
variable {w0:B4}{σ:A1}{R:AV→A1→Prop}
theorem flat_strs:∀L:List Ln,N8 (L.map PV.str)=L.map PV.str
 | []=>rfl
 | s::r=>by
  have ih:=flat_strs r
  unfold N8 at *
  rw[List.map_cons,List.flatMap_cons,ih]
  rfl
theorem join_flat:∀xs:List (List UInt8),Lib.join xs []=xs.flatten
 | []=>rfl
 | x::r=>by
  rw[Lib.join_cons,List.flatten_cons]
  congr 1
  unfold Lib.joinTail
  induction r with
  | nil=>rfl
  | cons y r ih=>rw[List.map_cons,List.flatten_cons,List.flatten_cons,ih,List.nil_append]
theorem bytes_of(L:List Ln):((L.map fun s=>(⟨s.toArray⟩:ByteArray)).map (·.data.toList))=L:=by
 rw[List.map_map]
 induction L with
 | nil=>rfl
 | cons x r ih=>rw[List.map_cons,ih];rfl
theorem sJoin_spec{id off len:Nat}{fz:Bool}{L:List Ln}(ho:σ[id]? = some (.arr 1 (L.map PV.str) fz))(hol:off+len≤L.length)(hN:L.length≤140737488355328)(hlen:((L.drop off).take len).flatten.length≤140737488355328)
  (hR:R (.pv (.str ((L.drop off).take len).flatten)) σ):A2 (cx w0) strings_Join.id [.arr id L.length off len,.pv (.str [])] σ R:=by
 refine A2.below (C:=cx w0) (Y2 Tryz.func83 (by kernel_rfl) (by kernel_rfl)) (fun m K w v hB hv=>?_)
 obtain ⟨x,y,rfl,hx,hy⟩:=hv.two
 obtain rfl:=hy.str_inv
 have none:∀a c,len=0→Calls (cx w0).P strings_Join.id #[.slice a 0 c,.string ⟨#[]⟩] w fun e w'=>∃v r,e = .returned v∧Below w.heap.size w w'∧C7 m K r v∧R r σ:=by
  intro a c h0
  subst h0
  refine (Tryz.strings_Join_none a c ⟨#[]⟩ w).mono ?_
  rintro e w' ⟨rfl,rfl⟩
  exact ⟨_,_,rfl,Below.refl _ _,.pv _ _ (.str _),hR⟩
 rcases hx.arr_inv with ⟨b,cap,es',c,ad,rfl,hm,hcc,hl,hv2,ha⟩|⟨_,_,h0,rfl,_⟩
 ·by_cases h0:len=0
  ·have:=none ad c h0
   rw[← h0] at this
   exact this
  ·have hm':m id (L.map PV.str).length=some (.at b cap es'):=by rw[List.length_map];exact hm
   obtain ⟨rfl,arr,ty,fr,hh,hcap,hmax,hasz,hes,hcr,_,_⟩:=hB.arr_open ho hm'
   rw[List.length_map] at hcap
   have had:ad=some ⟨b,off*1,Option.none⟩:=by
    rcases ha with h|h
    ·omega
    ·exact h
   subst had
   have hxl:(((L.drop off).take len).map fun s=>(⟨s.toArray⟩:ByteArray)).length=len:=by rw[List.length_map,List.length_take,List.length_drop];omega
   have key:=Tryz.strings_Join b (off*1) c (((L.drop off).take len).map fun s=>(⟨s.toArray⟩:ByteArray)) ⟨#[]⟩ w (fun j x hj=>by
    rw[List.getElem?_map,Option.map_eq_some_iff] at hj
    obtain ⟨s,hs,rfl⟩:=hj
    rw[List.getElem?_take] at hs
    split at hs
    ·rw[List.getElem?_drop] at hs
     have hp:(N8 (L.map PV.str))[off+j]? = some (.str s):=by rw[flat_strs,List.getElem?_map,hs];rfl
     have hja:off+j<arr.size:=by
      have:=(List.getElem?_eq_some_iff.1 hs).1
      omega
     have:=(hcr _ _ arr[off+j] hp (Array.getElem?_eq_getElem hja)).1
     rw[Nat.mul_one,T3 w b _ hh,Array.getElem?_eq_getElem hja]
     rw[this.str_inv]
    ·cases hs) (Array.getElem?_eq_some_iff.1 hh).1 (by rw[hxl];omega) (by rw[hxl];omega) (by rw[bytes_of,join_flat];exact hlen)
   rw[hxl,bytes_of,join_flat] at key
   refine key.mono ?_
   rintro e w' ⟨rfl,hb⟩
   exact ⟨_,_,rfl,hb,.pv _ _ (.str _),hR⟩
 ·exact none Option.none 0 h0
theorem Join_spec{id off len n:Nat}{fz:Bool}{L:List Ln}(ho:σ[id]? = some (.arr 1 (L.map PV.str) fz))(hn:L.length=n)(hol:off+len≤n)(hN:n≤140737488355328)(hlen:((L.drop off).take len).flatten.length≤140737488355328)
  (hR:R (.pv (.str ((L.drop off).take len).flatten)) σ):A2 (cx w0) R6.id [.arr id n off len] σ R:=by
 subst hn
 refine R6.calls ?_
 rw[R6.b0_eq]
 exact sJoin_spec ho hol hN hlen (F4 (D5 hR))
def strsOf:List PV→Option (List Ln)
 | []=>some []
 | .str s::r=>match strsOf r with
  | some L=>some (s::L)
  | none=>none
 | _=>none
theorem strsOf_map:∀{xs:List PV} {L:List Ln},strsOf xs=some L→xs=L.map PV.str
 | [],L,h=>by cases h;rfl
 | x::r,L,h=>by
  cases x with
  | str s=>
   simp only[strsOf] at h
   split at h
   ·rename_i L' e'
    cases h
    rw[strsOf_map e']
    rfl
   ·cases h
  | _=>exact nomatch (show (none:Option (List Ln))=some L from h)
def pJoin:List AV→A1→Option (AV×A1)
 | [.arr id ver off len,.pv (.str [])],σ=>match σ[id]? with
  | some (.arr 1 xs _)=>match Nat.beq xs.length ver&&Nat.ble (off+len) ver&&Nat.ble ver 1048576,strsOf xs with
   | true,some L=>match Nat.ble ((L.drop off).take len).flatten.length 1048576 with
    | true=>some (.pv (.str ((L.drop off).take len).flatten),σ)
    | false=>none
   | _,_=>none
  | _=>none
 | _,_=>none
theorem pJoin_ok:POK (cx w0) strings_Join.id pJoin:=by
 intro args σ r σ' h R hR
 unfold pJoin at h
 split at h
 ·rename_i id ver off len
  split at h
  ·rename_i xs fz ho
   split at h
   ·rename_i L hc hL
    split at h
    ·rename_i hf
     cases h
     have e:=strsOf_map hL
     subst e
     simp only[Bool.and_eq_true] at hc
     have h1:=Nat.eq_of_beq_eq_true hc.1.1
     have h2:=Nat.le_of_ble_eq_true hc.1.2
     have h3:=Nat.le_of_ble_eq_true hc.2
     have h4:=Nat.le_of_ble_eq_true hf
     rw[List.length_map] at h1
     subst h1
     exact sJoin_spec ho h2 (by omega) (by omega) hR
    ·cases h
   ·cases h
  ·cases h
 ·cases h
theorem uc{s:Ln}{c:UInt8}(hR:R (.pv (.int .i64 (s.count c:Nat))) σ):A2 (cx w0) bytealg_CountString.id [.pv (.str s),.pv (.int .u8 c.toNat)] σ R:=
 A2.prim fun m K w vs hB hv=>by
  obtain ⟨x,y,rfl,hx,hy⟩:=hv.two
  obtain rfl:=hx.str_inv
  obtain rfl:=hy.int_inv
  have h1:=run_callFunc_extern (e:=Extern.BytealgCount.count) Tryz.func163 (by kernel_rfl) (by kernel_rfl) (by kernel_rfl) (by kernel_rfl) #[.string ⟨s.toArray⟩,.int .u8 (c.toNat:Int)] w
  rw[Lib.run_countString,show ((c.toNat:Int)).toNat.toUInt8=c by simp] at h1
  exact ⟨_,_,w,h1,Below.refl _ _,.pv _ _ (.int _ _),hR⟩
def pCount:List AV→A1→Option (AV×A1)
 | [.pv (.str s),.pv (.int .u8 n)],σ=>match decide (0≤n)&&decide (n≤255) with
  | true=>some (.pv (.int .i64 (s.count (UInt8.ofNat n.toNat):Nat)),σ)
  | false=>none
 | _,_=>none
theorem pCount_ok:POK (cx w0) bytealg_CountString.id pCount:=by
 intro args σ r σ' h R hR
 unfold pCount at h
 split at h
 ·rename_i s n
  split at h
  ·rename_i hc
   simp only[Bool.and_eq_true,decide_eq_true_eq] at hc
   cases h
   have e:((UInt8.ofNat n.toNat).toNat:Int)=n:=by rw[UInt8.toNat_ofNat'];omega
   have:=uc (w0:=w0) (s:=s) (c:=UInt8.ofNat n.toNat) hR
   rw[e] at this
   exact this
  ·cases h
 ·cases h
def primsJ:List (FuncId×(List AV→A1→Option (AV×A1))):=(strings_Join.id,pJoin)::(bytealg_CountString.id,pCount)::lu
theorem primsJ_ok{w0:B4}(L:Laid w0.w):PsOK (cx w0) primsJ:=⟨pJoin_ok,pCount_ok,primsX_ok L⟩
theorem run_callsJ{w0:B4}(L:Laid w0.w){T:List (FuncId×FE)}(hT:oc (cx w0) T){depth fuel:Nat}{f:FuncId}{args:List AV}{σ:A1}{r:AV}{σ':A1}(h:ey (cx w0) (jl T) (au primsJ) depth fuel f args σ=some (r,σ')){R:AV→A1→Prop}(hR:R r σ'):A2 (cx w0) f args σ R:=
 (qy fuel (I4 w0) (cxG w0) (qz T hT) (rn L fun w1 L1=>primsJ_ok L1)).here f args σ r σ' h R hR
end
end Go.Sv
end
section
namespace Go.Sv.Nm
open Go Go.RowKit Go.Proofs
def pk(x:Int):Int:=if 2147483648<x then 2147483648 else x
def bg:Ln→Int→Int×Ln
 | [],n=>(n,[])
 | c::r,n=>if 48≤c.toNat∧c.toNat≤57 then bg r (pk (n*10+((c.toNat:Int)-48))) else (n,c::r)
def L4(s:Ln):Int×Ln×Bool:=((bg s 0).1,(bg s 0).2,decide ((bg s 0).2.length<s.length)&&decide ((bg s 0).1≤2147483647))
def M9(s:Ln):Int×Int×Bool×Ln×Bool:=
 if ((L4 s).2.2&&Lib.hasPrefix (L4 s).2.1 [44])=true then ((L4 s).1,(L4 ((L4 s).2.1.drop 1)).1-(L4 s).1+1,true,(L4 ((L4 s).2.1.drop 1)).2.1,(L4 ((L4 s).2.1.drop 1)).2.2&&decide ((L4 ((L4 s).2.1.drop 1)).1≥(L4 s).1))
 else ((L4 s).1,1,false,(L4 s).2.1,(L4 s).2.2)
theorem lw:∀(s:Ln) (n:Int),0≤n→n≤2147483648→0≤(bg s n).1∧(bg s n).1≤2147483648∧(bg s n).2.length≤s.length
 | [],n,h0,h1=>⟨h0,h1,Nat.le_refl _⟩
 | c::r,n,h0,h1=>by
  have hc:=c.toNat_lt
  unfold bg
  split
  ·obtain ⟨a,b,d⟩:=lw r (pk (n*10+((c.toNat:Int)-48))) (by unfold pk;split<;>omega) (by unfold pk;split<;>omega)
   exact ⟨a,b,by rw[List.length_cons];omega⟩
  ·exact ⟨h0,h1,Nat.le_refl _⟩
theorem ct(s:Ln):0≤(L4 s).1∧(L4 s).1≤2147483648∧(L4 s).2.1.length≤s.length:=lw s 0 (by omega) (by omega)
theorem jm{s p:Ln}(h:Lib.hasPrefix s p=true):p.length≤s.length:=by
 unfold Lib.hasPrefix at h
 rw[List.isPrefixOf_iff_prefix] at h
 exact h.length_le
theorem ranF_out(s:Ln):0≤(M9 s).1∧(M9 s).1≤2147483648 ∧ -4294967296≤(M9 s).2.1∧(M9 s).2.1≤4294967296∧(M9 s).2.2.2.1.length≤s.length:=by
 have h1:=ct s
 unfold M9
 split
 ·have h2:=ct ((L4 s).2.1.drop 1)
  rw[List.length_drop] at h2
  exact ⟨h1.1,h1.2.1,by show _≤_-_+(1:Int);omega,by show _-_+(1:Int)≤_;omega,by show (L4 _).2.1.length≤_;omega⟩
 ·exact ⟨h1.1,h1.2.1,by show _≤(1:Int);omega,by show (1:Int)≤_;omega,h1.2.2⟩
section
variable {w0:B4}{σ:A1}{R:AV→A1→Prop}
abbrev numA(x:Int×Ln×Bool):AV:=.tup [.pv (.int .i64 x.1),.pv (.str x.2.1),.pv (.bool x.2.2)]
theorem num_loop(s:Ln)(hs:s.length≤140737488355328)(v:AV):∀(r:Ln) (i:Nat) (n:Int),s.drop i=r→i≤s.length→0≤n→n≤2147483648 →
  v=numA ((bg r n).1,(bg r n).2,decide ((bg r n).2.length<s.length)&&decide ((bg r n).1≤2147483647)) →
  normal_number.n6 (normal_number.X w0 0) w0 0 (fun r' _=>r'=v) [] s n (i:Int):=by
 have stop:∀(r:Ln) (i:Nat) (n:Int),s.drop i=r→i≤s.length→v=numA (n,r,decide (r.length<s.length)&&decide (n≤2147483647))→normal_number.n17 (normal_number.X w0 0) w0 0 (fun r' _=>r'=v) [] s n (i:Int):=by
  intro r i n hd hi hv
  have hr:r.length=s.length-i:=by rw[← hd,List.length_drop]
  have fin:∀t,t=(decide (r.length<s.length)&&decide (n≤2147483647))→normal_number.n19 (normal_number.X w0 0) w0 0 (fun r' _=>r'=v) [] n r t:=by
   rintro t rfl
   refine normal_number.n19_in ?_
   rw[normal_number.b19_eq]
   exact D6 (Nat.zero_le _) hv.symm
  refine normal_number.n17_in ?_
  rw[normal_number.b17_eq]
  refine A0 (F5 hi) (F4 ?_)
  rw[hd,B0]
  refine B5 (fun g=>⟨A0 (F5 hi) (by rw[hd]),fin _ ?_⟩) (fun g=>⟨A0 (F5 hi) (by rw[hd]),fin _ ?_⟩)
  ·rw[decide_eq_true (show r.length<s.length by omega),Bool.true_and]
  ·rw[decide_eq_false (show ¬r.length<s.length by omega),Bool.false_and]
 intro r
 induction r with
 | nil=>
  intro i n hd hi h0 h1 hv
  have hk:=X7 hd
  refine normal_number.n6_in ?_
  rw[normal_number.b7_eq,B0,if_neg (by omega)]
  refine normal_number.n10_in ?_
  rw[normal_number.b10_eq,C3]
  exact stop [] i n hd hi hv
 | cons c r ih=>
  intro i n hd hi h0 h1 hv
  obtain ⟨g1,g2,hk⟩:=Q6 hd
  have hc:=c.toNat_lt
  have key:∀t,t=decide (48≤c.toNat∧c.toNat≤57)→normal_number.n10 (normal_number.X w0 0) w0 0 (fun r' _=>r'=v) [] s n (i:Int) t:=by
   rintro t rfl
   refine normal_number.n10_in ?_
   rw[normal_number.b10_eq,B0]
   rw[bg] at hv
   refine B5 (fun g=>?_) (fun g=>?_)
   ·rw[if_pos g] at hv
    refine A0 (M3 g1) (G2 ?_)
    rw[vj (n:=(c.toNat:Int)-48) (by omega) (by omega),D8 (n:=n*10) (by omega) (by omega),D8 (n:=(c.toNat:Int)-48) (by omega) (by omega),D8 (n:=n*10+((c.toNat:Int)-48)) (by omega) (by omega),K6 hk (by omega)]
    exact ih (i+1) (pk (n*10+((c.toNat:Int)-48))) g2 (by omega) (by unfold pk;split<;>omega) (by unfold pk;split<;>omega) hv
   ·rw[if_neg g] at hv
    exact stop (c::r) i n hd hi hv
  refine normal_number.n6_in ?_
  rw[normal_number.b7_eq,B0,if_pos (by omega)]
  refine A0 (M3 g1) (G2 ?_)
  rw[B0]
  refine B5 (fun g=>?_) (fun g=>key _ ?_)
  ·refine A0 (M3 g1) (G2 (key _ ?_))
   rw[decide_eq_decide];omega
  ·rw[decide_eq_false (by omega)]
theorem cw(L:Laid w0.w){s:Ln}(hs:s.length≤140737488355328)(hR:R (numA (L4 s)) σ):A2 (cx w0) normal_number.id [.pv (.str s)] σ R:=by
 refine A2.alone L rfl (fun w1 L1=>?_) rfl hR
 refine normal_number.calls ?_
 rw[normal_number.b0_eq]
 exact num_loop s hs _ s 0 0 rfl (Nat.zero_le _) (by omega) (by omega) rfl
abbrev ranA(x:Int×Int×Bool×Ln×Bool):AV:=.tup [.pv (.int .i64 x.1),.pv (.int .i64 x.2.1),.pv (.bool x.2.2.1),.pv (.str x.2.2.2.1),.pv (.bool x.2.2.2.2)]
theorem al(L:Laid w0.w){s:Ln}(hs:s.length≤140737488355328)(hR:R (ranA (M9 s)) σ):A2 (cx w0) normal_ranged.id [.pv (.str s)] σ R:=by
 refine A2.alone L rfl (fun w1 L1=>?_) rfl hR
 have hn:=ct s
 have key:∀t,t = !((L4 s).2.2&&Lib.hasPrefix (L4 s).2.1 [44])→normal_ranged.n7 (normal_ranged.X w1 0) w1 0 (fun r' _=>r'=ranA (M9 s)) [] (L4 s).2.1 (L4 s).1 (L4 s).2.2 t:=by
  rintro t rfl
  refine normal_ranged.n7_in ?_
  rw[normal_ranged.b7_eq,E9]
  refine A4 (fun g=>?_) (fun g=>?_)
  ·have g':=g
   rw[Bool.and_eq_true] at g'
   have hle:=jm g'.2
   refine A0 (F5 (k:=1) (by simpa using hle)) (F4 ?_)
   refine cw L1 (by rw[List.length_drop];omega) ?_
   have h2:=ct ((L4 s).2.1.drop 1)
   repeat ((with_reducible first|apply A0|apply wI|apply wT|apply wP|apply wS|apply wB);exact rfl)
   rw[D8 (n:=(L4 ((L4 s).2.1.drop 1)).1-(L4 s).1) (by omega) (by omega),D8 (n:=(L4 ((L4 s).2.1.drop 1)).1-(L4 s).1+1) (by omega) (by omega)]
   have fin:∀t,t=((L4 ((L4 s).2.1.drop 1)).2.2&&decide ((L4 ((L4 s).2.1.drop 1)).1≥(L4 s).1))→normal_ranged.n16 (normal_ranged.X w1 0) w1 0 (fun r' _=>r'=ranA (M9 s)) [] (L4 s).1 ((L4 ((L4 s).2.1.drop 1)).1-(L4 s).1+1) true (L4 ((L4 s).2.1.drop 1)).2.1 t:=by
    rintro t rfl
    refine normal_ranged.n16_in ?_
    rw[normal_ranged.b16_eq]
    refine D6 (Nat.zero_le _) ?_
    unfold M9
    rw[if_pos g]
   refine A4 (fun g2=>fin _ ?_) (fun g2=>fin _ ?_)
   ·rw[g2,Bool.true_and]
   ·rw[g2,Bool.false_and]
  ·refine D6 (Nat.zero_le _) ?_
   unfold M9
   rw[if_neg (by rw[g];decide)]
 refine normal_ranged.calls ?_
 rw[normal_ranged.b0_eq]
 refine cw L1 hs ?_
 repeat ((with_reducible first|apply A0|apply wI|apply wT|apply wP|apply wS|apply wB);exact rfl)
 rw[E9]
 refine A4 (fun g=>?_) (fun g=>key _ ?_)
 ·refine O3 (E5 (key _ ?_))
  rw[g,Bool.true_and]
 ·rw[g];rfl
def X3:Hnk:=⟨0,0,0,0,[],[]⟩
abbrev hC(h:Hnk)(a:AV):List AV:=[.pv (.int .i64 h.a),.pv (.int .i64 h.n),.pv (.int .i64 h.b),.pv (.int .i64 h.m),.pv (.str h.head),a]
def cmdF(s:Ln):Hnk×Bool:=
 if ((M9 s).2.2.2.2 && !((M9 s).2.2.2.1 == []))=true then
  if ((M9 ((M9 s).2.2.2.1.drop 1)).2.2.2.2&&((M9 ((M9 s).2.2.2.1.drop 1)).2.2.2.1 == []))=true then
   if (M9 s).2.2.2.1.headD 0=97 then (⟨(M9 s).1,0,(M9 ((M9 s).2.2.2.1.drop 1)).1,(M9 ((M9 s).2.2.2.1.drop 1)).2.1,[],[]⟩,!(M9 s).2.2.1&&decide ((M9 ((M9 s).2.2.2.1.drop 1)).1>0))
   else if (M9 s).2.2.2.1.headD 0=100 then (⟨(M9 s).1,(M9 s).2.1,(M9 ((M9 s).2.2.2.1.drop 1)).1,0,[],[]⟩,!(M9 ((M9 s).2.2.2.1.drop 1)).2.2.1&&decide ((M9 s).1>0))
   else if (M9 s).2.2.2.1.headD 0=99 then (⟨(M9 s).1,(M9 s).2.1,(M9 ((M9 s).2.2.2.1.drop 1)).1,(M9 ((M9 s).2.2.2.1.drop 1)).2.1,[],[]⟩,decide ((M9 s).1>0)&&decide ((M9 ((M9 s).2.2.2.1.drop 1)).1>0))
   else (X3,false)
  else (X3,false)
 else (X3,false)
abbrev cmdA(x:Hnk×Bool):AV:=.tup [.agg (hC x.1 .nilsl),.pv (.bool x.2)]
abbrev cmS:A1:=[.cells 46 (hC X3 .nilsl),.cells 46 (hC X3 .nilsl)]
theorem my{s:Ln}{p n q m:Int}{ok:Bool}(he:cmdF s=(⟨p,n,q,m,[],[]⟩,ok)):normal_command.n47 (normal_command.X w0 0) w0 0 (fun r' _=>r'=cmdA (cmdF s)) cmS (.ptr 0 0) p n ok q m:=by
 refine normal_command.n47_in ?_
 rw[normal_command.b47_eq]
 refine A0 (v:=.agg (hC ⟨p,n,q,m,[],[]⟩ .nilsl)) rfl ?_
 refine A0 (v:=[.cells 46 (hC ⟨p,n,q,m,[],[]⟩ .nilsl),.cells 46 (hC X3 .nilsl)]) rfl ?_
 refine A0 (v:=.agg (hC ⟨p,n,q,m,[],[]⟩ .nilsl)) rfl ?_
 refine D6 (Nat.zero_le _) ?_
 rw[he]
theorem ar(L:Laid w0.w){s:Ln}(hs:s.length≤140737488355328)(hR:R (cmdA (cmdF s)) σ):A2 (cx w0) normal_command.id [.pv (.str s)] σ R:=by
 refine A2.alone L rfl (fun w1 L1=>?_) rfl hR
 obtain ⟨o1,o2,o3,o4,o5⟩:=ranF_out s
 have bad:cmdF s=(X3,false)→opt (A6 cmS G1 (.ptr 1 0)) fun t27=>opt (C2 cmS G1 (.ptr 0 0) t27) fun σ'=>opt (A6 σ' G1 (.ptr 0 0)) fun v=>D9 (cx w1) 0 (.tup [v,(.pv (.bool false))]) σ' (fun r' _=>r'=cmdA (cmdF s)):=by
  intro he
  refine A0 (v:=.agg (hC X3 .nilsl)) rfl ?_
  refine A0 (v:=cmS) rfl ?_
  refine A0 (v:=.agg (hC X3 .nilsl)) rfl ?_
  refine D6 (Nat.zero_le _) ?_
  rw[he]
 have h11:∀t,t = !((M9 s).2.2.2.2 && !((M9 s).2.2.2.1 == []))→normal_command.n11 (normal_command.X w1 0) w1 0 (fun r' _=>r'=cmdA (cmdF s)) cmS (M9 s).2.2.2.1 (.ptr 0 0) (.ptr 1 0) (M9 s).2.2.1 (M9 s).1 (M9 s).2.1 t:=by
  rintro t rfl
  refine normal_command.n11_in ?_
  rw[normal_command.b11_eq,E9]
  refine A4 (fun g=>?_) (fun g=>bad ?_)
  ·have g':=g
   simp only[Bool.and_eq_true,Bool.not_eq_true',beq_eq_false_iff_ne] at g'
   obtain ⟨c,r1,hr⟩:∃c r1,(M9 s).2.2.2.1=c::r1:=List.exists_cons_of_ne_nil g'.2
   rw[hr] at o5 ⊢
   rw[List.length_cons] at o5
   refine A0 (M3 (k:=0) (s:=c::r1) rfl) (G2 ?_)
   refine A0 (F5 (k:=1) (by rw[List.length_cons];omega)) (F4 ?_)
   rw[List.drop_succ_cons,List.drop_zero]
   refine al L1 (by omega) ?_
   repeat ((with_reducible first|apply A0|apply wI|apply wT|apply wP|apply wS|apply wB);exact rfl)
   have e:cmdF s=if ((M9 r1).2.2.2.2&&((M9 r1).2.2.2.1 == []))=true then
     if c=97 then (⟨(M9 s).1,0,(M9 r1).1,(M9 r1).2.1,[],[]⟩,!(M9 s).2.2.1&&decide ((M9 r1).1>0))
     else if c=100 then (⟨(M9 s).1,(M9 s).2.1,(M9 r1).1,0,[],[]⟩,!(M9 r1).2.2.1&&decide ((M9 s).1>0))
     else if c=99 then (⟨(M9 s).1,(M9 s).2.1,(M9 r1).1,(M9 r1).2.1,[],[]⟩,decide ((M9 s).1>0)&&decide ((M9 r1).1>0))
     else (X3,false) else (X3,false):=by
    unfold cmdF
    rw[if_pos g,hr]
    rfl
   have h23:∀t,t = !((M9 r1).2.2.2.2&&((M9 r1).2.2.2.1 == []))→normal_command.n23 (normal_command.X w1 0) w1 0 (fun r' _=>r'=cmdA (cmdF s)) cmS (.ptr 0 0) (.ptr 1 0) (M9 s).2.2.1 (M9 r1).2.2.1 (M9 s).1 (M9 s).2.1 (c.toNat:Nat) (M9 r1).1 (M9 r1).2.1 t:=by
    rintro t rfl
    refine normal_command.n23_in ?_
    rw[normal_command.b23_eq,E9]
    refine A4 (fun g2=>?_) (fun g2=>bad ?_)
    ·rw[if_pos g2] at e
     have hc:=c.toNat_lt
     have cc:∀k:Nat,k<256→(((c.toNat:Nat):Int)=(k:Int)↔c=UInt8.ofNat k):=by
      intro k hk
      constructor
      ·intro h
       have:c.toNat=k:=by omega
       rw[← this];simp
      ·intro h
       subst h
       rw[UInt8.toNat_ofNat']
       omega
     have c97:((c.toNat:Nat):Int)=97↔c=97:=cc 97 (by omega)
     have c100:((c.toNat:Nat):Int)=100↔c=100:=cc 100 (by omega)
     have c99:((c.toNat:Nat):Int)=99↔c=99:=cc 99 (by omega)
     rw[G6]
     refine B5 (fun k1=>?_) (fun k1=>?_)
     ·rw[if_pos (c97.1 k1)] at e
      rw[E9]
      refine A4 (fun k2=>my ?_) (fun k2=>my ?_)
      ·rw[e,k2];rfl
      ·rw[e,k2,Bool.not_false,Bool.true_and]
     ·rw[if_neg (fun h=>k1 (c97.2 h))] at e
      rw[G6]
      refine B5 (fun k2=>?_) (fun k2=>?_)
      ·rw[if_pos (c100.1 k2)] at e
       rw[E9]
       refine A4 (fun k3=>my ?_) (fun k3=>my ?_)
       ·rw[e,k3];rfl
       ·rw[e,k3,Bool.not_false,Bool.true_and]
      ·rw[if_neg (fun h=>k2 (c100.2 h))] at e
       rw[G6]
       refine B5 (fun k3=>?_) (fun k3=>bad ?_)
       ·rw[if_pos (c99.1 k3)] at e
        refine A4 (fun k4=>my ?_) (fun k4=>my ?_)
        ·rw[e,k4,Bool.true_and]
        ·rw[e,k4,Bool.false_and]
       ·rw[if_neg (fun h=>k3 (c99.2 h))] at e
        exact e
    ·rw[g2,if_neg (by decide)] at e
     exact e
   rw[E9]
   refine A4 (fun g2=>h23 _ ?_) (fun g2=>h23 _ ?_)
   ·rw[g2,Bool.true_and]
   ·rw[g2,Bool.false_and];rfl
  ·unfold cmdF
   rw[if_neg (by rw[g];decide)]
 refine normal_command.calls ?_
 rw[normal_command.b0_eq]
 refine al L1 hs ?_
 repeat ((with_reducible first|apply A0|apply wI|apply wT|apply wP|apply wS|apply wB);exact rfl)
 rw[E9]
 refine A4 (fun g=>h11 _ ?_) (fun g=>h11 _ ?_)
 ·rw[g,Bool.true_and,Bool.not_not]
 ·rw[g,Bool.false_and];rfl
end
end Go.Sv.Nm
end
section
namespace Go.Sv
open Go
structure Sec where
 f:Int
 op:List UInt8
 os:List UInt8
 np:List UInt8
 ns:List UInt8
 ix:List UInt8
 hs:List Hnk
 ed:List UInt8
 ln:Int
abbrev fy(s:Sec):PV:=.agg [.int .i64 s.f,.str s.op,.str s.os,.str s.np,.str s.ns,.str s.ix,.sl (s.hs.map O2),.str s.ed,.int .i64 s.ln]
def devN:List UInt8:=[47,100,101,118,47,110,117,108,108]
def isNm(s:List UInt8):Bool:=!(s == []) && !(s==devN)
def ua(s:Sec):List UInt8:=if isNm s.np=true then s.np else if isNm s.op=true then s.op else if isNm s.ix=true then s.ix else []
end Go.Sv
end
section
namespace Go.Sv
open Go Go.Proofs
namespace pj
variable {Z:XT}{w0:B4}{n:Nat}{R:RT}{σ τ:A1}{l_ out s h_ l_' out' s' h_':AV}{i k i' k':Int}
end pj
namespace I2
def lvs:List (List Nat):=[[0],[0],[0],[0],[0],[0,5],[],[],[2],[0],[0],[0],[0,3],[0,3],[0,3],[3,9],[],[],[2],[3],[3],[3],[2]]
def lv:Nat→List Nat:=J8 lvs
noncomputable def code:Code:=F0 Tryz.f9
noncomputable def fe:FE:=⟨Tryz.f9,code,lv⟩
def A7:List Nat:=[]
abbrev X(w0:B4)(n:Nat):XT:=xr (cx w0) 11 lv n
theorem ok(w0:B4):FOK (cx w0) I2.id fe:=⟨Tryz.func9,by kernel_rfl,by kernel_rfl⟩
section
variable (Z:XT)(w0:B4)(n:Nat)(R:RT)(σ:A1)(e_:AV)
def b0:Prop:=
 A5 (cx w0) 11 lv n A7 Z code 0 (H3 0 [e_]) σ (B9 (cx w0) Tryz.f9 n R)
end
variable {Z:XT}{w0:B4}{n:Nat}{R:RT}{σ τ:A1}{e_:AV}
theorem b0_eq:b0 Z w0 n R σ e_=(
 Q9 B3 24 true .eql e_ (.pv (.raw .nilIface)) fun v=>isB v fun b=>B1 b (D9 (cx w0) n (.pv (.int .i64 0)) σ R) (opt (G4 75 (.ptr (List.length σ) 0)) fun t7=>A2 (cx w0) errors_As.id [e_,t7] (σ ++ [.cells 61 (AV.ofValue ti61.zero).cells]) fun r σ'=>isB r fun t8=>B1 (!t8) (D9 (cx w0) n (.pv (.int .i64 (-1))) σ' R) (opt (A6 σ' ti61 (.ptr (List.length σ) 0)) fun t10=>isI .i64 t10 fun t10_1=>D9 (cx w0) n (.pv (.int .i64 t10_1)) σ' R))):=by kernel_rfl
theorem calls(h:b0 (X w0 (List.length σ)) w0 (List.length σ) R σ e_):A2 (cx w0) I2.id [e_] σ R:=
 D0 (I4 w0) (x:=fe) (S:=A7) (I2.ok w0) (by kernel_rfl) @h
attribute [irreducible] b0
end I2
namespace fx
variable {Z:XT}{w0:B4}{n:Nat}{R:RT}{σ τ:A1}{l_ a e_ b c l_' a' e_' b' c':AV}{t34 t70 t108 t2:Bool}{i i':Int}
end fx
end Go.Sv
end
section
namespace Go.Sv
open Go Go.RowKit
theorem alone_in{w0:B4}(L:Laid w0.w){f:FuncId}{args:List AV}{k:AV→Prop}{a:AV}(ha:args.all AV.isPv=true)(hu:AV.under 0 a=true)(h:∀w1:B4,Laid w1.w→A2 (cx w1) f args [] fun r _=>r=a)(hk:k a):aloneK (cx w0) f args k:=
 ⟨ha,fun r=>r=a,fun w K hb=>(h ⟨w,K⟩ (L.mono hb)).mono (fun r _ e=>by subst e;exact ⟨hu,rfl⟩),fun r e=>by subst e;exact hk⟩
end Go.Sv
end
section
namespace Go.Sv
open Go Go.RowKit Go.Proofs
theorem qf{n b B:Nat}(h:n≤B)(h1:B≤140737488355328)(h2:B*b≤140737488355328):gp n b:=⟨Nat.le_trans h h1,Nat.le_trans (Nat.mul_le_mul_right _ h) h2⟩
theorem row_appendX{σ:A1}{es:Nat}{xs ys:List PV}{x:AV}{id k:Nat}{ei:TI}{fz:Bool}(ho:σ[id]? = some (.arr es xs fz))(he:es=ei.size)(hk:xs.length=k)(hx:elems σ x=some ys)(hsz:X6 ei.size ys=true)(hroom:gp (xs.length+ys.length) ei.bytes):
  L0 σ ei (.arr id k 0 k) x=some (.arr id (xs++ys).length 0 (xs++ys).length,σ.set id (.arr es (xs++ys) fz)):=by
 subst hk
 unfold L0
 simp only[hx,hsz,if_true,ho]
 rw[if_pos (by exact ⟨trivial,trivial,trivial,he,hroom⟩),List.length_append]
theorem jp{σ:A1}{es:Nat}{xs ys:List PV}{id k:Nat}{ei:TI}{fz:Bool}(ho:σ[id]? = some (.arr es xs fz))(he:es=ei.size)(hk:xs.length=k)(hsz:X6 ei.size ys=true)(hroom:gp (xs.length+ys.length) ei.bytes):
  L0 σ ei (.arr id k 0 k) (.pv (.sl ys))=some (.arr id (xs++ys).length 0 (xs++ys).length,σ.set id (.arr es (xs++ys) fz)):=row_appendX ho he hk rfl hsz hroom
theorem tt(σ:A1):∀ps:List PV,Y4 σ (ps.map .pv)=some (ps,σ)
 | []=>rfl
 | p::r=>by
  rw[List.map_cons,Y4]
  simp only[frz1,tt σ r]
theorem ri{σ:A1}{id es k:Nat}{xs:List PV}{fz:Bool}(ho:σ[id]? = some (.arr es xs fz))(hk:xs.length=k)(post:List PV):∀pre:List PV,Y4 σ (pre.map AV.pv ++ .arr id k 0 k::post.map AV.pv)=some (pre ++ .sl xs::post,σ.set id (.arr es xs true))
 | []=>by
  rw[List.map_nil,List.nil_append,Y4]
  simp only[frz1,ho]
  rw[if_pos (by exact ⟨hk,trivial,trivial⟩)]
  simp only[tt,List.nil_append]
 | p::r=>by
  rw[List.map_cons,List.cons_append,Y4]
  simp only[frz1,ri ho hk post r,List.cons_append]
theorem lit_row{σ:A1}{ei:TI}{pre post:List PV}{id es k:Nat}{xs:List PV}{fz:Bool}(ho:σ[id]? = some (.arr es xs fz))(hk:xs.length=k)(hn:(pre++PV.sl xs::post).length=ei.size)(hb:1*ei.size≤16777216){q:PV}(hq:q = .agg (pre ++ .sl xs::post)):
  H9 σ ei false 1 [(0,.agg (pre.map AV.pv ++ .arr id k 0 k::post.map AV.pv))]=some (.pv (.sl [q]),σ.set id (.arr es xs true)):=by
 subst hq
 have h1:R9 σ ei false 1 [(0,.agg (pre.map AV.pv ++ .arr id k 0 k::post.map AV.pv))]=none:=by
  simp only[R9,ke,if_true,aw]
 have h2:cy σ [(0,.agg (pre.map AV.pv ++ .arr id k 0 k::post.map AV.pv))]=some ([(0,.pv (.agg (pre ++ .sl xs::post)))],σ.set id (.arr es xs true)):=by
  simp only[cy,frzV,ri ho hk post pre]
 have h3:R9 (σ.set id (.arr es xs true)) ei false 1 [(0,.pv (.agg (pre ++ .sl xs::post)))]=some (.pv (.sl [.agg (pre ++ .sl xs::post)]),σ.set id (.arr es xs true)):=by
  simp only[R9,ke,if_true,aw,List.length_singleton]
  rw[if_pos]
  ·rfl
  ·refine ⟨trivial,?_,hb,?_⟩
   ·simp only[X6,List.all_cons,List.all_nil,Bool.and_true,PV.cells,beq_iff_eq]
    exact hn
   ·rw[← hn,List.length_append,List.length_cons];omega
 unfold H9
 rw[h1]
 simp only[h2,h3]
theorem allPv_mk:∀ps:List PV,aw (ps.map AV.pv)=some ps
 | []=>rfl
 | p::r=>by rw[List.map_cons,aw,allPv_mk r]
theorem sealVs_pv(k:Nat)(σ:A1):∀ps:List PV,ic k σ (ps.map AV.pv)=some (ps.map AV.pv)
 | []=>rfl
 | p::r=>by
  rw[List.map_cons,ic,sealVs_pv k σ r]
  rfl
theorem sealVs_row{σ:A1}{k id es n:Nat}{xs:List PV}{fz:Bool}(ho:σ[id]? = some (.arr es xs fz))(hn:xs.length=n)(hid:Nat.ble k id=true)(post:List PV):∀pre:List PV,ic k σ (pre.map AV.pv ++ .arr id n 0 n::post.map AV.pv)=some ((pre ++ .sl xs::post).map AV.pv)
 | []=>by
  subst hn
  rw[List.map_nil,List.nil_append,ic,sealVs_pv]
  have:gd k σ (.arr id xs.length 0 xs.length)=some (.pv (.sl xs)):=by
   simp only[gd,hid,ho]
   rw[if_pos ⟨trivial,by omega⟩,List.drop_zero,List.take_of_length_le (Nat.le_refl _)]
  rw[this]
  rfl
 | p::r=>by
  rw[List.map_cons,List.cons_append,ic,sealVs_row ho hn hid post r]
  rfl
theorem qr{σ:A1}{k id es n:Nat}{xs:List PV}{fz:Bool}(ho:σ[id]? = some (.arr es xs fz))(hn:xs.length=n)(hid:Nat.ble k id=true):kq k σ (.arr id n 0 n)=some (.pv (.sl xs)):=by
 subst hn
 simp only[kq,gd,hid,ho]
 rw[if_pos ⟨trivial,by omega⟩,List.drop_zero,List.take_of_length_le (Nat.le_refl _)]
theorem iw{σ:A1}{k id es n:Nat}{xs:List PV}{fz:Bool}{p:PV}(ho:σ[id]? = some (.arr es xs fz))(hn:xs.length=n)(hid:Nat.ble k id=true):bp k σ (.tup [.arr id n 0 n,.pv p])=some (.tup [.pv (.sl xs),.pv p]):=by
 simp only[bp,ii,qr ho hn hid]
 rfl
theorem vt{σ:A1}{k id es n:Nat}{xs:List PV}{fz:Bool}{pre post:List PV}(ho:σ[id]? = some (.arr es xs fz))(hn:xs.length=n)(hid:Nat.ble k id=true){q:PV}(hq:q = .agg (pre ++ .sl xs::post)):bp k σ (.agg (pre.map AV.pv ++ .arr id n 0 n::post.map AV.pv))=some (.pv q):=by
 subst hq
 simp only[bp,kq,sealVs_row ho hn hid post pre,Option.map_some,em,allPv_mk]
section
variable {w0:B4}{σ:A1}{R:AV→A1→Prop}
abbrev secC(s:Sec):List AV:=[.pv (.int .i64 s.f),.pv (.str s.op),.pv (.str s.os),.pv (.str s.np),.pv (.str s.ns),.pv (.str s.ix),.pv (.sl (s.hs.map O2)),.pv (.str s.ed),.pv (.int .i64 s.ln)]
end
end Go.Sv
end
