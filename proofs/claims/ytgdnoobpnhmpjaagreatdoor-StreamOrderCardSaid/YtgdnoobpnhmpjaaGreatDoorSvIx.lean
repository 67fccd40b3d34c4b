/- strings.IndexAny and ContainsAny at any text, the chars ASCII (the shelf's own contracts ask for an ASCII text). The library's functions as calls over stores, at this seat's numbers; and what a computed run does at them. -/
import Derived.Shelf.Strings.IndexAnyAll
import Derived.Lib.OthersKept
import Derived.Shelf.Small.Utf8
import Derived.Deep.LoopGhost
import Derived.Laws.Runes
import Derived.Handy
import Derived.WalkMore
import Derived.Laws.Strings3
import Derived.Lib.IndexBytes
import Derived.Test.YtgdnoobpnhmpjaaGreatDoorSvT
import Derived.Test.YtgdnoobpnhmpjaaGreatDoorUnB
import Derived.Lib.AppendIntMem
import Derived.Shelf.SlSorted.Search
set_option linter.unusedVariables false
set_option linter.unusedSimpArgs false
set_option maxRecDepth 100000
section
namespace Go.Proofs
open Go.Shelf Go.RowKit Go.Lib
variable {P:Program}{ρ:Ren}
set_option maxHeartbeats 2000000 in
set_option maxRecDepth 1000000 in
theorem Ix.IndexRune_inv(L:Lays.n152 P ρ)(s:ByteArray)(r:Int)(w:World)(h0:128≤r)(h1:r≠65533)(h2:Lib.validRune r=false):
  Calls P (ρ.f 152) #[.string s,.int .i32 r] w fun e w'=>e = .returned (.int .i64 (-1))∧w'=w:=by
 have h128:¬(r<128):=by omega
 have t3:=L.t3;have a3:=L.a3;have z3:=L.z3;have v3:=L.v3
 have t4:=L.t4;have a4:=L.a4;have z4:=L.z4;have v4:=L.v4
 have t5:=L.t5;have a5:=L.a5;have z5:=L.z5;have v5:=L.v5
 have t9:=L.t9;have a9:=L.a9;have z9:=L.z9;have v9:=L.v9
 have t21:=L.t21;have a21:=L.a21;have z21:=L.z21;have v21:=L.v21
 have e119:∀args w,(callFunc (ρ.f 119) args).run P w = .ok (.enter (ρ.f 119) args) w:=enters_of L.f119 (by kernel_rfl) rfl
 go_enter L.f152,Body.n152_ntmps ρ
 go_wp2_with (go_at_fn (ρ.f 119);refine (Any.utf8_ValidRune { L with } _ _).mono ?_;rintro e w' ⟨rfl,hw⟩;simp only[h2] at hw ⊢;rw[hw])
 go_ret
 exact ⟨rfl,rfl⟩
set_option maxHeartbeats 2000000 in
set_option maxRecDepth 1000000 in
theorem Ix.IndexRune_bad(L:Lays.n152 P ρ)(s:ByteArray)(w:World)(hascii:∀(j:Nat) b,s.data.toList[j]? = some b→b.toNat<128):
  Calls P (ρ.f 152) #[.string s,.int .i32 65533] w fun e w'=>e = .returned (.int .i64 (-1)) ∧ ∃pos,w'=w.iter s pos:=by
 have HA:Aside (∀ (j:Nat) b,s.data.toList[j]? = some b→b.toNat<128):=hascii
 clear hascii
 have t3:=L.t3;have a3:=L.a3;have z3:=L.z3;have v3:=L.v3
 have t4:=L.t4;have a4:=L.a4;have z4:=L.z4;have v4:=L.v4
 have t5:=L.t5;have a5:=L.a5;have z5:=L.z5;have v5:=L.v5
 have t9:=L.t9;have a9:=L.a9;have z9:=L.z9;have v9:=L.v9
 have t21:=L.t21;have a21:=L.a21;have z21:=L.z21;have v21:=L.v21
 go_enter L.f152,Body.n152_ntmps ρ
 go_wp2
 go_loopg [5,6] s.size (fun g _ _ wx=>∃i:Nat,i+g=s.size∧wx=w.iter s i)
 case atStart=>exact ⟨0,by omega,rfl⟩
 case round=>
  obtain ⟨i,hig,rfl⟩:=hrel
  cases gk with
  | zero=>
   obtain rfl:i=s.size:=by omega
   have hnx:=run_next_end (P:=P) w s s.size
   go_wp2
   go_ret
   exact ⟨rfl,_,rfl⟩
  | succ g=>
   have hi:i<s.size:=by omega
   obtain ⟨x,hx⟩:∃x:UInt8,s[i]'hi=x:=⟨_,rfl⟩
   have hxl:s.data.toList[i]? = some x:=by rw[← hx];exact Lib.data_getElem? s i hi
   have hx128:x.toNat<128:=HA.out i x hxl
   have hnx:=fun ty=>run_next_ascii (P:=P) w s i ty hi (by rw[hx];exact hx128)
   rw[hx] at hnx
   have hne:((x.toNat:Int)==65533)=false:=beq_eq_false_iff_ne.2 (by omega)
   clear hxl hx
   go_wp2
   go_roundg g
   case measure=>omega
   case rel=>exact ⟨i+1,by omega,rfl⟩
theorem Ix.indexByte_none:∀{l:List UInt8} {x:UInt8},128≤x.toNat→(∀ (j:Nat) b,l[j]? = some b→b.toNat<128)→Lib.indexByte l x = -1
 | [],_,_,_=>rfl
 | b::l,x,hx,h=>by
  have hb:=h 0 b rfl
  have ih:=Ix.indexByte_none (l:=l) hx (fun j b hj=>h (j+1) b (by simpa using hj))
  have hne:(b==x)=false:=beq_eq_false_iff_ne.2 (fun e=>by subst e;omega)
  rw[Lib.indexByte,hne,ih]
  rfl
set_option maxHeartbeats 2000000 in
set_option maxRecDepth 1000000 in
theorem Ix.IndexRune_ok(L:Lays.n152 P ρ)(s:ByteArray)(r:Int)(w:World)(h0:128≤r)(h1:(r==65533)=false)(h2:Lib.validRune r=true)(hv:Utf8.valid r=true)(hascii:∀(j:Nat) b,s.data.toList[j]? = some b→b.toNat<128)(hs:s.size<4294967281):
  Calls P (ρ.f 152) #[.string s,.int .i32 r] w fun e w'=>e = .returned (.int .i64 (-1))∧Below w.heap.size w w':=by
 have h128:¬(r<128):=by omega
 obtain ⟨f1,f2,f3⟩:=encode_facts r hv h0
 obtain ⟨t,ht⟩:∃t,Utf8.encode r=t:=⟨_,rfl⟩
 rw[ht] at f1 f2 f3
 obtain ⟨n,hn⟩:∃n,t.size=n+1:=⟨t.size-1,by omega⟩
 obtain ⟨x,hx⟩:∃x:UInt8,t[n]'(by omega)=x:=⟨_,rfl⟩
 have hx1:128≤x.toNat:=by have:=f3 (by omega);simp only[hn,Nat.add_sub_cancel] at this;rw[hx] at this;exact this
 have hidx:∀l:List UInt8,(∀ (j:Nat) b,l[j]? = some b→b.toNat<128)→Lib.indexByte l x = -1:=fun l h=>Ix.indexByte_none hx1 h
 have HA:Aside (∀ (j:Nat) b,s.data.toList[j]? = some b→b.toNat<128):=hascii
 have HI:Aside (∀ l:List UInt8,(∀ (j:Nat) b,l[j]? = some b→b.toNat<128)→Lib.indexByte l x = -1):=hidx
 clear hascii f3 hidx
 have t3:=L.t3;have a3:=L.a3;have z3:=L.z3;have v3:=L.v3
 have t4:=L.t4;have a4:=L.a4;have z4:=L.z4;have v4:=L.v4
 have t5:=L.t5;have a5:=L.a5;have z5:=L.z5;have v5:=L.v5
 have t9:=L.t9;have a9:=L.a9;have z9:=L.z9;have v9:=L.v9
 have t21:=L.t21;have a21:=L.a21;have z21:=L.z21;have v21:=L.v21
 have s21:(P.underlying (ρ.t 21)).isSome=true:=by rw[t21];rfl
 have hcv:=fun w=>run_convert_int_string (P:=P) w (ρ.t 21) (ρ.t 9) .i32 r s21 t9
 rw[ht] at hcv
 have e119:∀args w,(callFunc (ρ.f 119) args).run P w = .ok (.enter (ρ.f 119) args) w:=enters_of L.f119 (by kernel_rfl) rfl
 have e137:∀args w,(callFunc (ρ.f 137) args).run P w = .ok (.enter (ρ.f 137) args) w:=enters_of L.f137 (by kernel_rfl) rfl
 have hw1:IntKind.i64.wrap ((t.size:Int)-1)=(n:Int):=by rw[hn];exact (wrap_small _ (by omega) (by omega)).trans (by omega)
 go_enter L.f152,Body.n152_ntmps ρ
 go_wp2_with (go_at_fn (ρ.f 119);refine (Any.utf8_ValidRune { L with } _ _).mono ?_;rintro e w' ⟨rfl,hw⟩;simp only[h2] at hw ⊢;rw[hw])
 go_step3
 go_wp2
 refine wp_loop_rounds 1 ?_
 rw[rounds_succ]
 by_cases hi:n<s.size
 ·obtain ⟨y,hy⟩:∃y:UInt8,s[n]'hi=y:=⟨_,rfl⟩
  have hyl:s.data.toList[n]? = some y:=by rw[← hy];exact Lib.data_getElem? s n hi
  have hy128:y.toNat<128:=HA.out n y hyl
  have hne:(((y.toNat:Int))==((x.toNat:Int)))=false:=beq_eq_false_iff_ne.2 (by omega)
  have hn':n<t.size:=by omega
  have hii:(n:Int)<(s.size:Int):=by omega
  have hwn:IntKind.i64.wrap ((n:Int)+1)=((n:Int)+1):=wrap_small _ (by omega) (by omega)
  clear hyl
  go_wp2
  go_step3
  have mixed:=L.mixed
  have hnl:(n:Int)<(n:Int)+1:=by omega
  go_wp2
  go_region_o
  go_wp2
  have hext:∀(j:Nat) b,(List.take (s.size-(n+1)) (List.drop (n+1) s.data.toList))[j]? = some b→b.toNat<128:=fun j b hj=>by
   rw[List.getElem?_take] at hj
   split at hj
   ·rw[List.getElem?_drop] at hj
    exact HA.out (n+1+j) b hj
   ·cases hj
  have hcl:=HI.out _ hext
  clear hext
  go_region_with_o (refine (Any.strings_IndexByte { L with } _ _ _).mono ?_;rintro e w' ⟨rfl,hw⟩;rw[hw])
  all_goals (try rw[hcl])
  all_goals go_wp2
  all_goals simp only[Exit.noGoto,Exit.inBlock,Exit.then]
  all_goals go_ret
  all_goals exact ⟨rfl,((Below.refl _ _).drew).drew⟩
 ·have hii:¬((n:Int)<(s.size:Int)):=by omega
  go_wp2
  go_ret
  exact ⟨rfl,Below.refl _ _⟩
theorem Ix.IndexRune_high(L:Lays.n152 P ρ)(s:ByteArray)(r:Int)(w:World)(h0:128≤r)(hascii:∀(j:Nat) b,s.data.toList[j]? = some b→b.toNat<128)(hs:s.size<4294967281):
  Calls P (ρ.f 152) #[.string s,.int .i32 r] w fun e w'=>e = .returned (.int .i64 (-1))∧Below w.heap.size w w':=by
 by_cases h1:r=65533
 ·subst h1
  exact (Ix.IndexRune_bad L s w hascii).mono fun e w' ⟨h,pos,h2⟩=>⟨h,by rw[h2];exact (Below.refl _ _).alloc (Nat.le_refl _) _⟩
 cases hv:Lib.validRune r with
 | false=>exact (Ix.IndexRune_inv L s r w h0 h1 hv).mono fun e w' ⟨h,h2⟩=>⟨h,by rw[h2];exact Below.refl _ _⟩
 | true=>exact Ix.IndexRune_ok L s r w h0 (beq_eq_false_iff_ne.2 h1) hv (by simp[Lib.validRune,Utf8.valid] at hv ⊢;omega) hascii hs
theorem Ix.skip(s:ByteArray)(pos:Nat)(h:pos<s.size)(ha:128≤(s[pos]'h).toNat):pos+(Utf8.decode s pos).2≤s.size ∧ ∀j,pos≤j→j<pos+(Utf8.decode s pos).2 → ∀hj:j<s.size,128≤(s[j]'hj).toNat:=by
 have hn:¬(s[pos]'h).toNat<128:=by omega
 have key:∀k,(decide (pos+k<s.size)&&(s.get! (pos+k)).toNat / 64==2)=true→pos+k<s.size ∧ ∀hj:pos+k<s.size,128≤(s[pos+k]'hj).toNat:=by
  intro k hk
  simp only[Bool.and_eq_true,decide_eq_true_eq,beq_iff_eq] at hk
  refine ⟨hk.1,fun hj=>?_⟩
  have:=get_at s (pos+k) hj
  rw[Nat.add_zero] at this
  rw[this] at hk
  omega
 have k1:=key 1
 have k2:=key 2
 have k3:=key 3
 have one:pos+1≤s.size ∧ ∀j,pos≤j→j<pos+1 → ∀hj:j<s.size,128≤(s[j]'hj).toNat:=⟨by omega,fun j h1 h2 hj=>by
  obtain rfl:pos=j:=by omega
  exact ha⟩
 simp only[Utf8.decode,get_at s pos h,hn,if_false]
 split
 ·rename_i h2
  rw[Bool.and_eq_true] at h2
  obtain ⟨a1,b1⟩:=k1 h2.2
  split
  ·refine ⟨by show pos+2≤_;omega,fun j hj1 hj2 hj=>?_⟩
   have:j<pos+2:=hj2
   rcases (show j=pos∨j=pos+1 by omega) with e|e<;>subst e
   ·exact ha
   ·exact b1 hj
  ·exact one
 ·split
  ·rename_i h2
   rw[Bool.and_eq_true,Bool.and_eq_true] at h2
   obtain ⟨a1,b1⟩:=k1 h2.1.2
   obtain ⟨a2,b2⟩:=k2 h2.2
   split
   ·refine ⟨by show pos+3≤_;omega,fun j hj1 hj2 hj=>?_⟩
    have:j<pos+3:=hj2
    rcases (show j=pos∨j=pos+1∨j=pos+2 by omega) with e|e|e<;>subst e
    ·exact ha
    ·exact b1 hj
    ·exact b2 hj
   ·exact one
  ·split
   ·rename_i h2
    rw[Bool.and_eq_true,Bool.and_eq_true,Bool.and_eq_true] at h2
    obtain ⟨a1,b1⟩:=k1 h2.1.1.2
    obtain ⟨a2,b2⟩:=k2 h2.1.2
    obtain ⟨a3,b3⟩:=k3 h2.2
    split
    ·refine ⟨by show pos+4≤_;omega,fun j hj1 hj2 hj=>?_⟩
     have:j<pos+4:=hj2
     rcases (show j=pos∨j=pos+1∨j=pos+2∨j=pos+3 by omega) with e|e|e|e<;>subst e
     ·exact ha
     ·exact b1 hj
     ·exact b2 hj
     ·exact b3 hj
    ·exact one
   ·exact one
set_option maxHeartbeats 8000000 in
set_option maxRecDepth 1000000 in
theorem Ix.IndexAny_short(L:Lays.n153 P ρ)(s chars:ByteArray)(w:World)(h2:2≤chars.size)(h8:s.size≤8)(hcs:chars.size<4294967281)(hascii:∀(j:Nat) b,chars.data.toList[j]? = some b→b.toNat<128):
  Calls P (ρ.f 153) #[.string s,.string chars] w fun e w'=>e = .returned (.int .i64 (Lib.indexAny s.data.toList chars.data.toList))∧Below w.heap.size w w':=by
 have hno:∀b:UInt8,128≤b.toNat→chars.data.toList.contains b=false:=fun b hb=>by
  cases hc:chars.data.toList.contains b with
  | false=>rfl
  | true=>
   rw[List.contains_iff_mem] at hc
   obtain ⟨j,hj,e⟩:=List.getElem_of_mem hc
   have:=hascii j b (by rw[List.getElem?_eq_getElem hj,e])
   omega
 have HA:Aside (∀ (j:Nat) b,chars.data.toList[j]? = some b→b.toNat<128):=hascii
 have HO:Aside (∀ b:UInt8,128≤b.toNat→chars.data.toList.contains b=false):=hno
 clear hascii hno
 have hemp:chars.toList.isEmpty=false:=by
  rw[Lib.toList_data]
  cases h:chars.data.toList with
  | nil=>have:=Lib.size_eq chars;rw[h,List.length_nil] at this;omega
  | cons _ _=>rfl
 have hn1:((chars.size:Int)==1)=false:=beq_eq_false_iff_ne.2 (by omega)
 have h8z:decide ((8:Int)<(s.size:Int))=false:=decide_eq_false (by omega)
 have t3:=L.t3;have a3:=L.a3;have z3:=L.z3;have v3:=L.v3
 have t4:=L.t4;have a4:=L.a4;have z4:=L.z4;have v4:=L.v4
 have t5:=L.t5;have a5:=L.a5;have z5:=L.z5;have v5:=L.v5
 have t9:=L.t9;have a9:=L.a9;have z9:=L.z9;have v9:=L.v9
 have t21:=L.t21;have a21:=L.a21;have z21:=L.z21;have v21:=L.v21
 have e152:∀args w,(callFunc (ρ.f 152) args).run P w = .ok (.enter (ρ.f 152) args) w:=enters_of L.f152 (by kernel_rfl) rfl
 have e226:∀args w,(callFunc (ρ.f 226) args).run P w = .ok (.enter (ρ.f 226) args) w:=enters_of L.f226 (by kernel_rfl) rfl
 go_enter L.f153,Body.n153_ntmps ρ
 go_wp2_with (go_at_fn (ρ.f 226);refine (Any.strings_shouldUseASCIISet { L with } _ _).mono ?_;rintro e w' ⟨rfl,hw⟩;rw[hw,h8z])
 go_loopg [9,10] s.size (fun g _ _ wx=>∃i:Nat,s.size≤i+g∧i≤s.size∧wx.heap[w.heap.size]? = some (.stringIter s i)∧Below w.heap.size w wx∧Lib.NoAny s.data.toList chars.data.toList i)
 case atStart=>exact ⟨0,by omega,by omega,World.iter_heap w s 0,(Below.refl _ _).alloc (Nat.le_refl _) _,Lib.NoAny.zero _ _⟩
 case round=>
  obtain ⟨i,hig,his,hit,hbl,hno⟩:=hrel
  have HB:=hbl
  have HN:Aside (Lib.NoAny s.data.toList chars.data.toList i):=hno
  clear hno
  by_cases hi:i<s.size
  ·cases gk with
   | zero=>exact absurd hig (by omega)
   | succ g=>
    obtain ⟨x,hx⟩:∃x:UInt8,s[i]'hi=x:=⟨_,rfl⟩
    have hxl:s.data.toList[i]? = some x:=by rw[← hx];exact Lib.data_getElem? s i hi
    by_cases hx128:x.toNat<128
    ·have hnx:=fun ty=>run_next_ascii_at (P:=P) wr w.heap.size s i ty hit hi (by rw[hx];exact hx128)
     rw[hx] at hnx
     have Hx:Aside (s.data.toList[i]? = some x):=hxl
     clear hxl hx
     have hcon:=Lib.contains_iff_indexByte chars.data.toList x
     have hback:((x.toNat:Int)).toNat.toUInt8=x:=by simp
     have hb2:=below_iterAt hbl (Nat.le_refl w.heap.size) s (i+1)
     have hh2:=iterAt_heap wr w.heap.size s i (i+1) hit
     cases hin:chars.data.toList.contains x
     ·rw[hin] at hcon
      have hlt:¬((0:Int)≤Lib.indexByte chars.data.toList x):=of_decide_eq_false hcon.symm
      clear hcon
      go_wp2_with (go_at_fn (ρ.f 152);refine (Any.strings_IndexRune_ascii { L with } _ _ _ (by omega) (by omega)).mono ?_;rintro e w' ⟨rfl,hw⟩;rw[hw,hback])
      go_roundg g
      case measure=>omega
      case rel=>exact ⟨i+1,by omega,by omega,hh2,hb2,HN.out.succ Hx.out hin⟩
     ·rw[hin] at hcon
      have hge:(0:Int)≤Lib.indexByte chars.data.toList x:=of_decide_eq_true hcon.symm
      clear hcon
      go_wp2_with (go_at_fn (ρ.f 152);refine (Any.strings_IndexRune_ascii { L with } _ _ _ (by omega) (by omega)).mono ?_;rintro e w' ⟨rfl,hw⟩;rw[hw,hback])
      go_ret
      exact ⟨by rw[Lib.indexAny_hit HN.out Hx.out hin];rfl,hb2⟩
    ·have hhi:=decode_high s i hi (by rw[hx];omega)
     have hsk:=Ix.skip s i hi (by rw[hx];omega)
     have hnx:=fun ty=>run_next_any_at (P:=P) wr w.heap.size s i ty hit hi
     obtain ⟨r,hr⟩:∃r,(Utf8.decode s i).1=r:=⟨_,rfl⟩
     obtain ⟨n,hn⟩:∃n,(Utf8.decode s i).2=n:=⟨_,rfl⟩
     rw[hr] at hnx hhi
     rw[hn] at hnx hhi hsk
     obtain ⟨wi,hwi⟩:∃wi,wr.iterAt w.heap.size s (i+n)=wi:=⟨_,rfl⟩
     rw[hwi] at hnx
     have hb2:=below_iterAt hbl (Nat.le_refl w.heap.size) s (i+n)
     have hh2:=iterAt_heap wr w.heap.size s i (i+n) hit
     rw[hwi] at hb2 hh2
     have hsz2:w.heap.size<wi.heap.size:=(Array.getElem?_eq_some_iff.1 hh2).1
     have hno2:Lib.NoAny s.data.toList chars.data.toList (i+n):=by
      intro j b hj hb
      by_cases hji:j<i
      ·exact HN.out j b hji hb
      ·have hjs:j<s.size:=by omega
       have:=hsk.2 j (by omega) hj hjs
       rw[Lib.data_getElem? s j hjs] at hb
       cases hb
       exact HO.out _ this
     have HN2:Aside (Lib.NoAny s.data.toList chars.data.toList (i+n)):=hno2
     have hsk1:=hsk.1
     clear hxl hx hno2 hsk hwi hr hn
     have hfar:∀w',Below wi.heap.size wi w'→w'.heap[w.heap.size]? = some (.stringIter s (i+n))∧Below w.heap.size w w':=fun w' hb=>⟨(hb.block _ hsz2).trans hh2,hb2.trans ⟨hb.os,hb.tape,hb.output,hb.size,fun k hk=>hb.block k (by omega)⟩⟩
     have HF:Aside (∀ w',Below wi.heap.size wi w'→w'.heap[w.heap.size]? = some (.stringIter s (i+n))∧Below w.heap.size w w'):=hfar
     clear hfar
     have hcall:=Ix.IndexRune_high { L with } chars r wi (by omega) HA.out hcs
     go_wp2_with (go_at_fn (ρ.f 152);refine hcall.mono ?_;rintro e w' ⟨rfl,hw⟩)
     go_roundg g
     case measure=>omega
     case rel=>exact ⟨i+n,by omega,by omega,(HF.out _ hw).1,(HF.out _ hw).2,HN2.out⟩
  ·obtain rfl:i=s.size:=by omega
   have hnx:=fun ty=>run_next_end_at (P:=P) wr w.heap.size s s.size ty hit (by omega)
   go_wp2
   go_ret
   exact ⟨by rw[Lib.indexAny_none (by rw[← Lib.size_eq];exact HN.out)];rfl,hbl⟩
theorem Ix.IndexAny(L:Lays.n153 P ρ)(hv116:∀w,(zeroValue (ρ.t 116)).run P w = .ok (.agg (Array.replicate 256 (.bool false))) w)(hi116:(P.info? (ρ.t 116)).map (·.size)=some 256)(s chars:ByteArray)(w:World)(hs:s.size<4294967281)(hcs:chars.size<4294967281)
  (hac:∀(j:Nat) b,chars.data.toList[j]? = some b→b.toNat<128):
  Calls P (ρ.f 153) #[.string s,.string chars] w fun e w'=>e = .returned (.int .i64 (Lib.indexAny s.data.toList chars.data.toList))∧Below w.heap.size w w':=by
 by_cases h0:chars.size=0
 ·exact (Any.strings_IndexAny_none L s chars w h0).mono fun e w' ⟨h1,h2⟩=>⟨h1,h2 ▸ Below.refl _ _⟩
 by_cases h1:chars.size=1
 ·exact (Any.strings_IndexAny_one L s chars w h1 hac).mono fun e w' ⟨h1,h2⟩=>⟨h1,h2 ▸ Below.refl _ _⟩
 by_cases h8:s.size≤8
 ·exact Ix.IndexAny_short L s chars w (by omega) h8 hcs hac
 ·refine (Any.strings_IndexAny_long L hv116 hi116 s chars w (by omega) (by omega) hs hcs hac).mono fun e w' ⟨h1,h2⟩=>⟨h1,?_⟩
  rw[h2]
  exact ((Below.refl _ _).alloc (Nat.le_refl _) _).alloc (by simp) _
end Go.Proofs
end
section
namespace Go.Sv
attribute [local semireducible] A2
open Go Go.RowKit Go.Shelf Go.Proofs
structure Laid(w0:World):Prop where
 pow10:Lib.TabIs Tryz.prog w0 "internal/strconv.uint64pow10" .u64 Lib.pow10Tab
 errT:w0.cell? ⟨0,0,none⟩=some (.iface 184 (.agg #[.pointer (some ⟨9,24,none⟩)]))
theorem Y2{f:FuncId}{fn:Func}(hf:Tryz.prog.funcs[f]? = some fn)(hn:(fn.name == "runtime.NumGoroutine")=false)(hb:fn.body=some (F0 fn)):∀(vs:Array Value) (w:World),(callFunc f vs).run Tryz.prog w = .ok (.enter f vs) w:=
 fun vs w=>callFunc_enter hf hn hb vs w
section
variable {w0:B4}{σ:A1}{R:AV→A1→Prop}{id:Nat}{s t:List UInt8}
theorem mo(L:Laid w0.w){n:Int}(h0:-9223372036854775808≤n)(h1:n≤9223372036854775807)(hR:R (.pv (.str (Lib.itoa n))) σ):A2 (cx w0) strconv_Itoa.id [.pv (.int .i64 n)] σ R:=by
 refine A2.below (C:=cx w0) (Y2 Tryz.func82 (by kernel_rfl) (by kernel_rfl)) (fun m K w vs hB hv=>?_)
 obtain ⟨x,rfl,hx⟩:=hv.one
 obtain rfl:=hx.int_inv
 refine (Tryz.strconv_Itoa n h0 h1 w (Lib.tabBelow_of_tabIs L.pow10 w hB.below)).mono ?_
 rintro e w' ⟨rfl,k,os,rfl⟩
 exact ⟨_,_,rfl,below_grown_sl _ w k os (Nat.le_refl _),.pv _ _ (.str _),hR⟩
theorem A2.same{f:FuncId}{args:List AV}(hc:∀vs w,(callFunc f vs).run Tryz.prog w = .ok (.enter f vs) w){r:AV}(hR:R r σ)
  (h:∀m K w vs,C5 (cx w0) m K σ w→jb m K args vs → ∃v,C7 m K r v∧Calls Tryz.prog f vs w fun e w'=>e = .returned v∧w'=w):A2 (cx w0) f args σ R:=
 A2.below (C:=cx w0) hc fun m K w vs hB hv=>by
  obtain ⟨v,hr,hcl⟩:=h m K w vs hB hv
  exact hcl.mono fun e w' ⟨he,hw⟩=>⟨v,r,he,by rw[hw];exact Below.refl _ _,hr,hR⟩
theorem O3(hR:R (.pv (.bool (Lib.hasPrefix s t))) σ):A2 (cx w0) strings_HasPrefix.id [.pv (.str s),.pv (.str t)] σ R:=
 A2.same (Y2 Tryz.func79 (by kernel_rfl) (by kernel_rfl)) hR fun m K w vs hB hv=>by
  obtain ⟨x,y,rfl,hx,hy⟩:=hv.two
  obtain rfl:=hx.str_inv
  obtain rfl:=hy.str_inv
  exact ⟨_,.pv _ _ (.bool _),Tryz.strings_HasPrefix ⟨s.toArray⟩ ⟨t.toArray⟩ w⟩
theorem lj(hs:s.length≤9223372036854775807)(hR:R (.pv (.bool (Lib.hasSuffix s t))) σ):A2 (cx w0) strings_HasSuffix.id [.pv (.str s),.pv (.str t)] σ R:=
 A2.same (Y2 Tryz.func54 (by kernel_rfl) (by kernel_rfl)) hR fun m K w vs hB hv=>by
  obtain ⟨x,y,rfl,hx,hy⟩:=hv.two
  obtain rfl:=hx.str_inv
  obtain rfl:=hy.str_inv
  exact ⟨_,.pv _ _ (.bool _),Tryz.strings_HasSuffix ⟨s.toArray⟩ ⟨t.toArray⟩ w (by simpa[ByteArray.size] using hs)⟩
theorem km(hs:s.length≤9223372036854775807)(hR:R (.pv (.str (Lib.trimSuffix s t))) σ):A2 (cx w0) strings_TrimSuffix.id [.pv (.str s),.pv (.str t)] σ R:=
 A2.same (Y2 Tryz.func81 (by kernel_rfl) (by kernel_rfl)) hR fun m K w vs hB hv=>by
  obtain ⟨x,y,rfl,hx,hy⟩:=hv.two
  obtain rfl:=hx.str_inv
  obtain rfl:=hy.str_inv
  exact ⟨_,.pv _ _ (.str _),Tryz.strings_TrimSuffix ⟨s.toArray⟩ ⟨t.toArray⟩ w (by simpa[ByteArray.size] using hs)⟩
theorem ba{s:List UInt8}{c:UInt8}(hR:R (.pv (.bool (s.contains c))) σ):A2 (cx w0) K7.id [.pv (.str s),.pv (.str [c])] σ R:=by
 rw[Lib.contains_iff_indexByte] at hR
 exact A2.same (Y2 Tryz.func92 (by kernel_rfl) (by kernel_rfl)) hR fun m K w vs hB hv=>by
  obtain ⟨x,y,rfl,hx,hy⟩:=hv.two
  obtain rfl:=hx.str_inv
  obtain rfl:=hy.str_inv
  exact ⟨_,.pv _ _ (.bool _),Tryz.strings_Contains_one ⟨s.toArray⟩ c w⟩
theorem ae(hR:R (.pv (.str (Lib.trimPrefix s t))) σ):A2 (cx w0) strings_TrimPrefix.id [.pv (.str s),.pv (.str t)] σ R:=
 A2.same (Y2 Tryz.func97 (by kernel_rfl) (by kernel_rfl)) hR fun m K w vs hB hv=>by
  obtain ⟨x,y,rfl,hx,hy⟩:=hv.two
  obtain rfl:=hx.str_inv
  obtain rfl:=hy.str_inv
  exact ⟨_,.pv _ _ (.str _),Tryz.strings_TrimPrefix ⟨s.toArray⟩ ⟨t.toArray⟩ w⟩
theorem ax{c:UInt8}(hR:R (.pv (.int .i64 (Lib.indexByte s c))) σ):A2 (cx w0) strings_IndexByte.id [.pv (.str s),.pv (.int .u8 c.toNat)] σ R:=
 A2.same (Y2 Tryz.func53 (by kernel_rfl) (by kernel_rfl)) hR fun m K w vs hB hv=>by
  obtain ⟨x,y,rfl,hx,hy⟩:=hv.two
  obtain rfl:=hx.str_inv
  obtain rfl:=hy.int_inv
  have:=Tryz.strings_IndexByte ⟨s.toArray⟩ (c.toNat:Int) w
  rw[show ((c.toNat:Int)).toNat.toUInt8=c by simp] at this
  exact ⟨_,.pv _ _ (.int _ _),this⟩
def asciiB(t:List UInt8):Bool:=t.all fun b=>Nat.blt b.toNat 128
theorem asciiB_get(h:asciiB t=true):∀(j:Nat) b,(ByteArray.mk t.toArray).data.toList[j]? = some b→b.toNat<128:=fun j b hj=>by
 have:=List.all_eq_true.1 h b (List.mem_of_getElem? hj)
 exact Nat.le_of_ble_eq_true this
theorem set116:(Tryz.prog.info? (Tryz.lays153_ren.t 116)).map (fun i=>(i.zero,i.size))=some (some (.agg (Array.replicate 256 (.bool false))),256):=by kernel_rfl
theorem od(ha:asciiB t=true)(hs:s.length<4294967281)(ht:t.length<4294967281)(hR:R (.pv (.int .i64 (Lib.indexAny s t))) σ):A2 (cx w0) strings_IndexAny.id [.pv (.str s),.pv (.str t)] σ R:=
 A2.below (C:=cx w0) (Y2 Tryz.func106 (by kernel_rfl) (by kernel_rfl)) fun m K w vs hB hv=>by
  obtain ⟨x,y,rfl,hx,hy⟩:=hv.two
  obtain rfl:=hx.str_inv
  obtain rfl:=hy.str_inv
  refine (Ix.IndexAny Tryz.lays153 (zero_of_info set116).1 (zero_of_info set116).2 ⟨s.toArray⟩ ⟨t.toArray⟩ w (by simpa[ByteArray.size] using hs) (by simpa[ByteArray.size] using ht) (asciiB_get ha)).mono ?_
  rintro e w' ⟨rfl,hb⟩
  exact ⟨_,_,rfl,hb,.pv _ _ (.int _ _),hR⟩
theorem As_spec(L:Laid w0.w){n:Int}{ty:TypeId}{old:AV}(ho:σ[id]? = some (.cells ty [old]))(hR:R (.pv (.bool true)) (σ.set id (.cells ty [.int n]))):
  A2 (cx w0) errors_As.id [.pv (.iface 61 (.int .i64 n)),.iface 75 (.ptr id 0)] σ R:=by
 intro m K w vs hB hv
 obtain ⟨x,y,rfl,hx,hy⟩:=hv.two
 have hx':x = .iface 61 (.int .i64 n):=by
  cases hx with|pv p v hp=>cases hp with|iface t p v h=>cases h;rfl
 subst hx'
 obtain ⟨z,rfl,hz⟩:∃z,y = .iface 75 z∧C7 m K (.ptr id 0) z:=by
  cases hy with|iface t p v h=>exact ⟨v,rfl,h⟩
 obtain ⟨b,cap,es,rfl,hm⟩:=hz.ptr_inv
 obtain ⟨b',cap',es',arr,hm',hh,hl,hr,hk⟩:=hB.obj id _ ho
 rw[hm] at hm';cases hm'
 obtain ⟨u,hu⟩:∃u,arr[0]? = some u:=⟨arr[0]'(by simp at hl;omega),Array.getElem?_eq_getElem _⟩
 have h0:w.cell? ⟨b,0,none⟩=some u:=by rw[T3 w b 0 hh,hu]
 have hf:w.frozen? ⟨b,0,none⟩=false:=by rw[ly w b 0 hh];simp
 have hg:w.cell? ⟨0,0,none⟩=some (.iface 184 (.agg #[.pointer (some ⟨9,24,none⟩)])):=by
  have hlt:0<w0.w.heap.size:=by
   obtain ⟨cs,t,fr,hb,_⟩:=dq L.errT
   exact (Array.getElem?_eq_some_iff.1 hb).1
  rw[hB.below.cell (p:=⟨0,0,none⟩) hlt]
  exact L.errT
 refine O1.of_calls (Y2 Tryz.func32 (by kernel_rfl) (by kernel_rfl) _ w) ((as_hit n ⟨b,0,none⟩ u w hg h0 hf).mono ?_)
 rintro e w' ⟨rfl,rfl⟩
 have hbig:∀{w1:World} (o:Obj),C5 (cx w0) m K σ w1→C5 (cx w0) m K σ (w1.alloc o):=fun o h=>h.grown ((Below.refl _ _).alloc (Nat.le_refl _) o)
 have hB4:=hbig (.cells #[.int .i64 n] 61) (hbig (.cells #[.pointer (some ⟨9,75,none⟩),.pointer (some ⟨w.heap.size,0,none⟩),.int .u64 150] 133) (hbig (.cells #[.pointer (some ⟨9,75,none⟩),.pointer (some ⟨w.heap.size,0,none⟩),.int .u64 150] 133) (hbig (.cells #[.pointer (some ⟨b,0,none⟩)] 75) hB)))
 have hB':=hB4.set_one ho hm (a:=.int n) (.pv _ _ (.int _ n)) rfl
 exact ⟨_,rfl,_,m,K,_,hB',by simp,Le.refl _ _ _,.pv _ _ (.bool true),hR⟩
end
def POK(C:Ctx)(f:FuncId)(p:List AV→A1→Option (AV×A1)):Prop:=∀args σ r σ',p args σ=some (r,σ') → ∀R:AV→A1→Prop,R r σ'→A2 C f args σ R
def au:List (FuncId×(List AV→A1→Option (AV×A1)))→W0
 | [],_,_,_=>none
 | (g,p)::r,f,args,σ=>match Nat.beq g f with
  | true=>p args σ
  | false=>au r f args σ
def PsOK(C:Ctx):List (FuncId×(List AV→A1→Option (AV×A1)))→Prop
 | []=>True
 | (f,p)::r=>POK C f p∧PsOK C r
theorem primOf_ok{C:Ctx}:∀(l:List (FuncId×(List AV→A1→Option (AV×A1)))),PsOK C l→ff C (au l)
 | [],_=>fun f args σ r σ' h=>by cases h
 | (g,p)::H8,hl=>fun f args σ r σ' h R hR=>by
  unfold au at h
  split at h
  ·rename_i he
   rw[← Nat.eq_of_beq_eq_true he]
   exact hl.1 _ _ _ _ h R hR
  ·exact primOf_ok H8 hl.2 f args σ r σ' h R hR
def digF:Nat→Nat→List UInt8
 | 0,_=>[]
 | f+1,u=>match Nat.ble 10 u with
  | false=>[UInt8.ofNat (48+u)]
  | true=>digF f (u / 10) ++ [UInt8.ofNat (48+u % 10)]
theorem digF_eq:∀(f u:Nat),u<10 ^ f→0<f→digF f u=Lib.decDigits u
 | 0,u,_,h0=>absurd h0 (Nat.lt_irrefl _)
 | f+1,u,h,_=>by
  unfold digF
  rw[Lib.decDigits]
  by_cases hu:u<10
  ·rw[dif_pos hu]
   have:Nat.ble 10 u=false:=by
    cases hb:Nat.ble 10 u with
    | false=>rfl
    | true=>have:=Nat.le_of_ble_eq_true hb;omega
   rw[this]
  ·rw[dif_neg hu,Nat.ble_eq_true_of_le (show 10≤u by omega)]
   have hf:0<f:=by
    rcases Nat.eq_zero_or_pos f with h0|h0
    ·subst h0;simp at h;omega
    ·exact h0
   have:u / 10<10 ^ f:=by rw[Nat.pow_succ] at h;omega
   simp only[digF_eq f (u / 10) this hf]
def itoaF(n:Int):List UInt8:=match n with
 | .ofNat u=>digF 20 u
 | .negSucc u=>45::digF 20 (u+1)
theorem itoaF_eq{n:Int}(h0:-9223372036854775808≤n)(h1:n≤9223372036854775807):itoaF n=Lib.itoa n:=by
 unfold itoaF Lib.itoa
 cases n with
 | ofNat u=>
  have:(Int.ofNat u)=(u:Int):=rfl
  rw[if_neg (by omega)]
  exact digF_eq 20 u (by omega) (by decide)
 | negSucc u=>
  rw[if_pos (by omega)]
  have:(Int.negSucc u).natAbs=u+1:=rfl
  rw[this]
  simp only[digF_eq 20 (u+1) (by omega) (by decide)]
def pItoa:List AV→A1→Option (AV×A1)
 | [.pv (.int .i64 n)],σ=>match decide (-9223372036854775808≤n)&&decide (n≤9223372036854775807) with
  | true=>some (.pv (.str (itoaF n)),σ)
  | false=>none
 | _,_=>none
def pAs:List AV→A1→Option (AV×A1)
 | [.pv (.iface t (.int .i64 n)),.iface u (.ptr id 0)],σ=>match Nat.beq t 61&&Nat.beq u 75 with
  | true=>match σ[id]? with
   | some (.cells ty [_])=>some (.pv (.bool true),σ.set id (.cells ty [.int n]))
   | _=>none
  | false=>none
 | _,_=>none
def gu(ok:List UInt8→List UInt8→Bool)(f:List UInt8→List UInt8→PV):List AV→A1→Option (AV×A1)
 | [.pv (.str s),.pv (.str t)],σ=>match ok s t with
  | true=>some (.pv (f s t),σ)
  | false=>none
 | _,_=>none
theorem jc{C:Ctx}{g:FuncId}{ok:List UInt8→List UInt8→Bool}{f:List UInt8→List UInt8→PV}(h:∀(s t:List UInt8) (σ:A1) (R:AV→A1→Prop),ok s t=true→R (.pv (f s t)) σ→A2 C g [.pv (.str s),.pv (.str t)] σ R):POK C g (gu ok f):=by
 intro args σ r σ' h' R hR
 unfold gu at h'
 split at h'
 ·split at h'
  ·rename_i hc
   cases h'
   exact h _ _ _ _ hc hR
  ·cases h'
 ·cases h'
def okLen(s t:List UInt8):Bool:=Nat.ble s.length 140737488355328
def okOne(s:List UInt8):List UInt8→Bool
 | [_]=>true
 | _=>false
def bx:List AV→A1→Option (AV×A1)
 | [.pv (.str s),.pv (.int .u8 n)],σ=>match decide (0≤n)&&decide (n≤255) with
  | true=>some (.pv (.int .i64 (Lib.indexByte s (UInt8.ofNat n.toNat))),σ)
  | false=>none
 | _,_=>none
def okAny(s t:List UInt8):Bool:=asciiB t&&Nat.blt s.length 4294967281&&Nat.blt t.length 4294967281
section
variable {w0:B4}
theorem pItoa_ok(L:Laid w0.w):POK (cx w0) strconv_Itoa.id pItoa:=by
 intro args σ r σ' h R hR
 unfold pItoa at h
 split at h
 ·split at h
  ·rename_i hc
   simp only[Bool.and_eq_true,decide_eq_true_eq] at hc
   cases h
   rw[itoaF_eq hc.1 hc.2] at hR
   exact mo L hc.1 hc.2 hR
  ·cases h
 ·cases h
theorem pAs_ok(L:Laid w0.w):POK (cx w0) errors_As.id pAs:=by
 intro args σ r σ' h R hR
 unfold pAs at h
 split at h
 ·split at h
  ·rename_i hc
   simp only[Bool.and_eq_true] at hc
   obtain rfl:=Nat.eq_of_beq_eq_true hc.1
   obtain rfl:=Nat.eq_of_beq_eq_true hc.2
   split at h
   ·rename_i ho
    cases h
    exact As_spec L ho hR
   ·cases h
  ·cases h
 ·cases h
theorem pHasPrefix_ok:POK (cx w0) strings_HasPrefix.id (gu (fun _ _=>true) fun s t=>.bool (Lib.hasPrefix s t)):=jc fun s t σ R _ hR=>O3 hR
theorem pHasSuffix_ok:POK (cx w0) strings_HasSuffix.id (gu okLen fun s t=>.bool (Lib.hasSuffix s t)):=jc fun s t σ R h hR=>lj (Nat.le_trans (Nat.le_of_ble_eq_true h) (by decide)) hR
theorem pTrimSuffix_ok:POK (cx w0) strings_TrimSuffix.id (gu okLen fun s t=>.str (Lib.trimSuffix s t)):=jc fun s t σ R h hR=>km (Nat.le_trans (Nat.le_of_ble_eq_true h) (by decide)) hR
theorem pTrimPrefix_ok:POK (cx w0) strings_TrimPrefix.id (gu (fun _ _=>true) fun s t=>.str (Lib.trimPrefix s t)):=jc fun s t σ R _ hR=>ae hR
theorem pContains_ok:POK (cx w0) K7.id (gu okOne fun s t=>.bool (s.contains (t.headD 0))):=jc fun s t σ R h hR=>by
 cases t with
 | nil=>cases h
 | cons c r=>
  cases r with
  | nil=>exact ba hR
  | cons _ _=>cases h
theorem pIndexAny_ok:POK (cx w0) strings_IndexAny.id (gu okAny fun s t=>.int .i64 (Lib.indexAny s t)):=jc fun s t σ R h hR=>by
 simp only[okAny,Bool.and_eq_true] at h
 exact od h.1.1 (Nat.le_of_ble_eq_true h.1.2) (Nat.le_of_ble_eq_true h.2) hR
theorem pIndexByte_ok:POK (cx w0) strings_IndexByte.id bx:=by
 intro args σ r σ' h R hR
 unfold bx at h
 split at h
 ·rename_i s n
  split at h
  ·rename_i hc
   simp only[Bool.and_eq_true,decide_eq_true_eq] at hc
   cases h
   have e:((UInt8.ofNat n.toNat).toNat:Int)=n:=by rw[UInt8.toNat_ofNat'];omega
   have:=ax (w0:=w0) (s:=s) (c:=UInt8.ofNat n.toNat) hR
   rw[e] at this
   exact this
  ·cases h
 ·cases h
end
def prims:List (FuncId×(List AV→A1→Option (AV×A1))):=[
 (strconv_Itoa.id,pItoa),
 (strings_HasPrefix.id,gu (fun _ _=>true) fun s t=>.bool (Lib.hasPrefix s t)),
 (strings_HasSuffix.id,gu okLen fun s t=>.bool (Lib.hasSuffix s t)),
 (strings_TrimSuffix.id,gu okLen fun s t=>.str (Lib.trimSuffix s t)),
 (strings_TrimPrefix.id,gu (fun _ _=>true) fun s t=>.str (Lib.trimPrefix s t)),
 (K7.id,gu okOne fun s t=>.bool (s.contains (t.headD 0))),
 (strings_IndexAny.id,gu okAny fun s t=>.int .i64 (Lib.indexAny s t)),
 (strings_IndexByte.id,bx),
 (errors_As.id,pAs)]
theorem prims_ok{w0:B4}(L:Laid w0.w):PsOK (cx w0) prims:=⟨
 pItoa_ok L,
 pHasPrefix_ok,
 pHasSuffix_ok,
 pTrimSuffix_ok,
 pTrimPrefix_ok,
 pContains_ok,
 pIndexAny_ok,
 pIndexByte_ok,
 pAs_ok L,trivial⟩
def jl:List (FuncId×FE)→FuncId→Option FE
 | [],_=>none
 | (g,x)::r,f=>match Nat.beq g f with
  | true=>some x
  | false=>jl r f
def oc(C:Ctx):List (FuncId×FE)→Prop
 | []=>True
 | (f,x)::r=>FOK C f x∧oc C r
theorem qz{C:Ctx}:∀(l:List (FuncId×FE)),oc C l → ∀f x,jl l f=some x→FOK C f x
 | [],_,f,x,h=>by cases h
 | (g,y)::r,hl,f,x,h=>by
  unfold jl at h
  split at h
  ·rename_i he
   cases h
   rw[← Nat.eq_of_beq_eq_true he];exact hl.1
  ·exact qz r hl.2 f x h
theorem Laid.mono{w0 w:World}(L:Laid w0)(hb:Below w0.heap.size w0 w):Laid w:=by
 refine ⟨Lib.tabBelow_of_tabIs L.pow10 w hb,?_⟩
 have hlt:0<w0.heap.size:=by
  obtain ⟨cs,t,fr,h,_⟩:=dq L.errT
  exact (Array.getElem?_eq_some_iff.1 h).1
 rw[hb.cell (p:=⟨0,0,none⟩) hlt]
 exact L.errT
theorem rn{w0:B4}(L:Laid w0.w){l:List (FuncId×(List AV→A1→Option (AV×A1)))}(h:∀w1:B4,Laid w1.w→PsOK (cx w1) l):U2 (cx w0) (au l):=fun w K hb=>primOf_ok l (h ⟨w,K⟩ (L.mono hb))
theorem run_calls{w0:B4}(L:Laid w0.w){T:List (FuncId×FE)}(hT:oc (cx w0) T){depth fuel:Nat}{f:FuncId}{args:List AV}{σ:A1}{r:AV}{σ':A1}(h:ey (cx w0) (jl T) (au prims) depth fuel f args σ=some (r,σ')){R:AV→A1→Prop}(hR:R r σ'):A2 (cx w0) f args σ R:=
 (qy fuel (I4 w0) (cxG w0) (qz T hT) (rn L fun w1 L1=>prims_ok L1)).here f args σ r σ' h R hR
theorem A2.alone{w0:B4}{f:FuncId}{args:List AV}{σ:A1}{R:AV→A1→Prop}{r:AV}(L:Laid w0.w)(ha:args.all AV.isPv=true)(h:∀w1:B4,Laid w1.w→A2 (cx w1) f args [] fun r' _=>r'=r)(hn:AV.under 0 r=true)(hR:R r σ):A2 (cx w0) f args σ R:=by
 intro m K w vs hB hv
 have hB1:C5 (cx ⟨w,K⟩) (fun _ _=>none) K [] w:=⟨Below.refl _ _,hB.keep,(fun _ _ _ h=>nomatch h),(fun id x h=>nomatch (show (none:Option M1)=some x from h)),(fun id x b h=>nomatch (show (none:Option M1)=some x from h)),(fun id x id' x' b h=>nomatch (show (none:Option M1)=some x from h)),(fun g a h=>nomatch (show (none:Option AV)=some a from h)),fun b o v h=>.inl h⟩
 have hv1:jb (fun _ _=>none) K args vs:=⟨hv.1,fun j a v hj hjv=>(hv.2 j a v hj hjv).pvs (List.all_eq_true.1 ha a (List.mem_of_getElem? hj))⟩
 refine O1.mono (h ⟨w,K⟩ (L.mono hB.below) _ K w vs hB1 hv1) fun v w' ⟨r',m',K',σ',hB',_,hle,hr,e⟩=>?_
 subst e
 have hK:=hle.2
 refine ⟨r',m,K',σ,hB.moreK hB'.below hK (fun b o v h=>hB'.old b o v h) hB'.keep,Nat.le_refl _,⟨fun _ _ _ _ h=>h,hK⟩,(hr.cut (k:=0) hn).mono ⟨fun id ver l h=>?_,fun _ _ _ h=>h⟩,hR⟩
 simp[R8] at h
end Go.Sv
end
