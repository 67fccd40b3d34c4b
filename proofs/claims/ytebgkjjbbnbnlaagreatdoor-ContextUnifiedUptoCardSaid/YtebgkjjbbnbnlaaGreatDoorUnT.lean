/- What the code of reading answers: a prefix cut off. Functions of the library that package context calls, as calls over stores: Cut and CutSuffix, Trim and TrimLeft at digits, Atoi of few digits. A context diff, read: as plain lists. -/
import Derived.Test.YtebgkjjbbnbnlaaGreatDoorUnP
import Derived.Test.YtebgkjjbbnbnlaaGreatDoorCxT
import Derived.Lib.AtoiErrMem
import Derived.Test.YtebgkjjbbnbnlaaGreatDoorUnL
set_option linter.unusedVariables false
set_option linter.unusedSimpArgs false
set_option maxRecDepth 100000
section
namespace Go.Sv
open Go Go.RowKit Go.Proofs
section
variable {w0:B5}{σ:A2}{R:AV→A2→Prop}
theorem Gf{s p:Ln}(h:Lib.hasPrefix s p=true):p.length≤s.length:=(List.isPrefixOf_iff_prefix.1 h).length_le
theorem Pg{s p:Ln}(hs:s.length≤140737488355328)(hR:R (.pv (.bool (Lib.hasPrefix s p))) σ):A1 (cx w0) H0.id [.pv (.str s),.pv (.str p)] σ R:=by
 have fin:∀t,t=Lib.hasPrefix s p→H0.n4 (H0.X w0 σ.length) w0 σ.length R σ t:=by
  rintro t rfl
  refine H0.n4_in ?_
  rw[H0.b4_eq]
  exact P8 hR
 have e:=Lib.hasPrefix_of_take s p
 refine H0.calls ?_
 rw[H0.b0_eq,A8]
 refine B6 (fun g=>?_) (fun g=>fin _ ?_)
 ·refine A0 (cw (by omega)) (K9 (fin _ ?_))
  rw[← e,decide_eq_true (by omega),Bool.true_and]
 ·rw[← e,decide_eq_false (by omega),Bool.false_and]
theorem On{s p:Ln}(hs:s.length≤140737488355328)(hR:R (.tup [.pv (.str (X8 s p).1),.pv (.bool (X8 s p).2)]) σ):A1 (cx w0) L0.id [.pv (.str s),.pv (.str p)] σ R:=by
 refine L0.calls ?_
 rw[L0.b0_eq]
 refine Pg hs (F0 ?_)
 rw[E3]
 unfold X8 at hR
 refine A7 (fun g=>?_) (fun g=>?_)
 ·rw[if_pos g] at hR
  have hle:=Gf g
  exact A0 (K8 hle) (K9 (P8 hR))
 ·rw[if_neg (by rw[g];decide)] at hR
  exact P8 hR
theorem io{s p:Ln}(hs:s.length≤140737488355328)(hR:R (.tup [.pv (.str (X8 s p).1),.pv (.bool (X8 s p).2)]) σ):A1 (cx w0) I4.id [.pv (.str s),.pv (.str p)] σ R:=by
 refine I4.calls ?_
 rw[I4.b0_eq]
 refine On hs ?_
 repeat ((with_reducible first|apply A0|apply wI|apply wT|apply wP|apply wS|apply wB);exact rfl)
 exact P8 hR
end
end Go.Sv
end
section
namespace Go.Sv
section
open Go Go.RowKit Go.Proofs
variable {w0:B5}{σ:A2}{R:AV→A2→Prop}
theorem Ex(L:Laid w0.w){s p:Ln}(hs:s.length≤140737488355328)(hR:R (.pv (.bool (Lib.hasSuffix s p))) σ):A1 (cx w0) H1.id [.pv (.str s),.pv (.str p)] σ R:=by
 refine A1.alone L rfl (fun w1 L1=>?_) rfl hR
 have fin:∀t,t=Lib.hasSuffix s p→H1.n4 (H1.X w1 0) w1 0 (fun r _=>r = .pv (.bool (Lib.hasSuffix s p))) [] t:=by
  rintro t rfl
  refine H1.n4_in ?_
  rw[H1.b4_eq]
  exact C4 (Nat.zero_le _) rfl
 refine H1.calls ?_
 rw[H1.b0_eq,A8]
 refine B6 (fun g=>?_) (fun g=>?_)
 ·rw[F8 (by omega) (by omega),show (s.length:Int)-(p.length:Int)=((s.length-p.length:Nat):Int) by omega]
  refine A0 (K8 (by omega)) (K9 (fin _ ?_))
  rw[Bool.eq_iff_iff,beq_iff_eq]
  unfold Lib.hasSuffix
  rw[List.isSuffixOf_iff_suffix]
  constructor
  ·intro e
   have h3:=List.take_append_drop (s.length-p.length) s
   rw[e] at h3
   exact ⟨_,h3⟩
  ·rintro ⟨q,rfl⟩
   simp
 ·generalize hb:false=b
  refine fin b ?_
  rw[← hb]
  cases h:Lib.hasSuffix s p with
  | false=>rfl
  | true=>
   unfold Lib.hasSuffix at h
   obtain ⟨q,rfl⟩:=List.isSuffixOf_iff_suffix.1 h
   simp at g
   omega
def dk(s p:Ln):Ln×Bool:=if Lib.hasSuffix s p=true then (s.take (s.length-p.length),true) else (s,false)
theorem An(L:Laid w0.w){s p:Ln}(hs:s.length≤140737488355328)(hR:R (.tup [.pv (.str (dk s p).1),.pv (.bool (dk s p).2)]) σ):A1 (cx w0) O2.id [.pv (.str s),.pv (.str p)] σ R:=by
 refine A1.alone L rfl (fun w1 L1=>?_) rfl hR
 have in1:A1 (cx w1) L2.id [.pv (.str s),.pv (.str p)] [] fun r _=>r = .tup [.pv (.str (dk s p).1),.pv (.bool (dk s p).2)]:=by
  refine L2.calls ?_
  rw[L2.b0_eq]
  refine Ex L1 hs (F0 ?_)
  rw[E3]
  refine A7 (fun g=>?_) (fun g=>?_)
  ·have hle:p.length≤s.length:=by
    unfold Lib.hasSuffix at g
    exact (List.isSuffixOf_iff_suffix.1 g).length_le
   rw[F8 (by omega) (by omega),show (s.length:Int)-(p.length:Int)=((s.length-p.length:Nat):Int) by omega]
   refine A0 (cw (by omega)) (K9 (C4 (Nat.zero_le _) ?_))
   rw[dk,if_pos g]
  ·refine C4 (Nat.zero_le _) ?_
   rw[dk,if_neg (by rw[g];decide)]
 refine O2.calls ?_
 rw[O2.b0_eq]
 refine in1.mono fun r σ' e=>?_
 subst e
 repeat ((with_reducible first|apply A0|apply wI|apply wT|apply wP|apply wS|apply wB);exact rfl)
 exact C4 (Nat.zero_le _) rfl
def Y7(s:Ln)(c:UInt8):Ln×Ln×Bool:=if 0≤Lib.indexByte s c then (s.take (Lib.indexByte s c).toNat,s.drop ((Lib.indexByte s c).toNat+1),true) else (s,[],false)
theorem Ey{s:Ln}{c:UInt8}(hR:R (.pv (.int .i64 (Lib.indexByte s c))) σ):A1 (cx w0) T4.id [.pv (.str s),.pv (.str [c])] σ R:=
 A1.same (aw Tryz.func139 (by kernel_rfl) (by kernel_rfl)) hR fun m K w vs hB hv=>by
  obtain ⟨x,y,rfl,hx,hy⟩:=hv.two
  obtain rfl:=hx.str_inv
  obtain rfl:=hy.str_inv
  exact ⟨_,.pv _ _ (.int _ _),Tryz.stringslite_Index_one ⟨s.toArray⟩ c w⟩
theorem Tl(L:Laid w0.w){s:Ln}{c:UInt8}(hs:s.length≤140737488355328)(hR:R (.tup [.pv (.str (Y7 s c).1),.pv (.str (Y7 s c).2.1),.pv (.bool (Y7 s c).2.2)]) σ):A1 (cx w0) W1.id [.pv (.str s),.pv (.str [c])] σ R:=by
 refine A1.alone L rfl (fun w1 L1=>?_) rfl hR
 have hlt:0≤Lib.indexByte s c→Lib.indexByte s c<s.length:=fun h=>by
  obtain ⟨k,hk⟩:∃k:Nat,Lib.indexByte s c=(k:Int):=⟨(Lib.indexByte s c).toNat,by omega⟩
  have:=(List.getElem?_eq_some_iff.1 (Lib.indexByte_some hk).1).1
  omega
 have in1:A1 (cx w1) P6.id [.pv (.str s),.pv (.str [c])] [] fun r _=>r = .tup [.pv (.str (Y7 s c).1),.pv (.str (Y7 s c).2.1),.pv (.bool (Y7 s c).2.2)]:=by
  refine P6.calls ?_
  rw[P6.b0_eq]
  refine Ey (L3 ?_)
  rw[A8]
  refine B6 (fun g=>?_) (fun g=>?_)
  ·have h1:=hlt g
   obtain ⟨k,hk⟩:∃k:Nat,Lib.indexByte s c=(k:Int):=⟨(Lib.indexByte s c).toNat,by omega⟩
   have h0:0≤Lib.indexByte s c:=g
   unfold Y7
   rw[if_pos h0]
   rw[hk] at h1 ⊢
   have hl:List.length ([c]:List UInt8)=1:=rfl
   rw[hl,F8 (by omega) (by omega),show (k:Int)+((1:Nat):Int)=((k+1:Nat):Int) by omega]
   refine A0 (cw (by omega)) (K9 (A0 (K8 (by omega)) (K9 ⟨A0 (K8 (by omega)) rfl,C4 (Nat.zero_le _) ?_⟩)))
   rw[Int.toNat_natCast]
  ·refine C4 (Nat.zero_le _) ?_
   rw[Y7,if_neg g]
 refine W1.calls ?_
 rw[W1.b0_eq]
 refine in1.mono fun r σ' e=>?_
 subst e
 repeat ((with_reducible first|apply A0|apply wI|apply wT|apply wP|apply wS|apply wB);exact rfl)
 exact C4 (Nat.zero_le _) rfl
theorem De{s:Ln}{c:UInt8}(hc:c.toNat<128)(hR:R (.pv (.str (s.dropWhile (· == c)))) σ):A1 (cx w0) U8.id [.pv (.str s),.pv (.str [c])] σ R:=
 A1.same (aw Tryz.func149 (by kernel_rfl) (by kernel_rfl)) hR fun m K w vs hB hv=>by
  obtain ⟨x,y,rfl,hx,hy⟩:=hv.two
  obtain rfl:=hx.str_inv
  obtain rfl:=hy.str_inv
  exact ⟨_,.pv _ _ (.str _),Tryz.strings_TrimLeft_one ⟨s.toArray⟩ c hc w⟩
theorem Tu{s:Ln}{n:Int}(hl:s.length≤18)(h:Lib.atoi s=some n)(hR:R (.tup [.pv (.int .i64 n),.pv (.raw .nilIface)]) σ):A1 (cx w0) strconv_Atoi.id [.pv (.str s)] σ R:=
 A1.below (aw Tryz.func150 (by kernel_rfl) (by kernel_rfl)) fun m K w vs hB hv=>by
  obtain ⟨x,rfl,hx⟩:=hv.one
  obtain rfl:=hx.str_inv
  refine (Tryz.strconv_Atoi ⟨s.toArray⟩ n (by simpa[ByteArray.size] using hl) h w).mono fun e w' ⟨he,t,hw⟩=>⟨_,_,he,by rw[hw];exact Lib.bytesWorld_below _ _ _,?_,hR⟩
  refine .tup _ _ rfl (fun j p v hp hv=>?_)
  match j with
  | 0=>simp at hp hv;subst hp;subst hv;exact .pv _ _ (.int _ _)
  | 1=>simp at hp hv;subst hp;subst hv;exact .pv _ _ (.raw _ rfl)
  | j+2=>simp at hp
def Z1(c:UInt8):Bool:=decide (48≤c.toNat)&&decide (c.toNat≤57)
def asP:List PV:=(List.range 256).map fun k=>.bool (Nat.ble 48 k&&Nat.ble k 57)
def asS:A2:=[.cells 207 (asP.map .pv)]
theorem uq:List.length asS=1:=rfl
noncomputable def feA:List (FuncId×FE):=[(M4.id,M4.fe),(H2.id,H2.fe)]
theorem Vu(w0:B5):ut (cx w0) feA:=⟨M4.ok w0,H2.ok w0,trivial⟩
theorem Ws(w0:B5):pb (cx w0) (ox feA) (iu sy) 1000 60 M4.id [.pv (.str [48,49,50,51,52,53,54,55,56,57])] []=some (.tup [.pv (.agg asP),.pv (.bool true)],[]):=by kernel_rfl
theorem Yj(w0:B5):(List.range 256).map (fun k=>pb (cx w0) (ox feA) (iu sy) 1000 40 H2.id [.ptr 0 0,.pv (.int .u8 (Int.ofNat k))] asS)=(List.range 256).map (fun k=>some (.pv (.bool (Nat.ble 48 k&&Nat.ble k 57)),asS)):=by kernel_rfl
theorem Ki(L:Laid w0.w){c:UInt8}(hR:R (.pv (.bool (Z1 c))) asS):A1 (cx w0) H2.id [.ptr 0 0,.pv (.int .u8 c.toNat)] asS R:=by
 have e:Z1 c=(Nat.ble 48 c.toNat&&Nat.ble c.toNat 57):=by
  unfold Z1
  have h:∀a b:Nat,decide (a≤b)=Nat.ble a b:=fun a b=>by
   rw[Bool.eq_iff_iff,decide_eq_true_eq,Nat.ble_eq]
  rw[h,h]
 rw[e] at hR
 exact mu L (Vu w0) (qj (Yj w0) c.toNat_lt) hR
def ew:Ln→Ln:=fun s=>(s.reverse.dropWhile Z1).reverse
theorem Oa(L:Laid w0.w):∀(n:Nat) (s:Ln),s.length≤n→s.length≤140737488355328→R (.pv (.str (ew s))) asS→E2.n4 (E2.X w0 1) w0 1 R asS s (.ptr 0 0):=by
 have stop:∀s:Ln,ew s=s→R (.pv (.str (ew s))) asS→E2.n19 (E2.X w0 1) w0 1 R asS s:=by
  intro s hs hR
  refine E2.n19_in ?_
  rw[E2.b19_eq]
  refine C4 (Nat.le_of_eq uq.symm) ?_
  rw[← hs];exact hR
 intro n
 induction n with
 | zero=>
  intro s hn hs hR
  have:s = []:=List.length_eq_zero_iff.1 (by omega)
  subst this
  refine E2.n4_in ?_
  rw[E2.b5_eq,A8,if_neg (by simp)]
  exact stop [] rfl hR
 | succ n ih=>
  intro s hn hs hR
  refine E2.n4_in ?_
  rw[E2.b5_eq,A8]
  rcases List.eq_nil_or_concat s with rfl|⟨q,c,rfl⟩
  ·rw[if_neg (by simp)]
   exact stop [] rfl hR
  ·rw[List.concat_eq_append] at *
   have hl:(q ++ [c]).length=q.length+1:=by simp
   have wl:IntKind.wrap .i64 ((((q ++ [c]).length:Nat):Int)-1)=(q.length:Int):=by rw[hl,F8 (by omega) (by omega)];omega
   rw[if_pos (by omega),wl]
   refine A0 (R4 (k:=q.length) (c:=c) (by simp)) (L3 ?_)
   refine Ki L (F0 ?_)
   rw[E3]
   have et:ew (q ++ [c])=if Z1 c=true then ew q else q ++ [c]:=by
    unfold ew
    rw[List.reverse_append,List.reverse_singleton,List.singleton_append,List.dropWhile_cons]
    split
    ·rfl
    ·simp
   refine A7 (fun g=>?_) (fun g=>?_)
   ·rw[et,if_pos g] at hR
    refine A0 (cw (by omega)) (K9 ?_)
    have e2:(q ++ [c]).take q.length=q:=by simp
    rw[e2]
    exact ih q (by omega) (by omega) hR
   ·exact stop _ (by rw[et,if_neg (by rw[g];decide)]) hR
theorem Ab(L:Laid w0.w):∀(s:Ln),s.length≤140737488355328→R (.pv (.str (s.dropWhile Z1))) asS→E6.n4 (E6.X w0 1) w0 1 R asS s (.ptr 0 0)
 | [],hs,hR=>by
  refine E6.n4_in ?_
  rw[E6.b5_eq,A8,if_neg (by simp)]
  refine E6.n19_in ?_
  rw[E6.b19_eq]
  exact C4 (Nat.le_of_eq uq.symm) hR
 | c::s,hs,hR=>by
  simp only[List.length_cons] at hs
  refine E6.n4_in ?_
  rw[E6.b5_eq,A8,if_pos (by simp only[List.length_cons];omega)]
  refine A0 (R4 (k:=0) (c:=c) rfl) (L3 ?_)
  refine Ki L (F0 ?_)
  rw[E3]
  rw[List.dropWhile_cons] at hR
  refine A7 (fun g=>?_) (fun g=>?_)
  ·rw[if_pos g] at hR
   refine A0 (K8 (k:=1) (by simp)) (K9 ?_)
   exact Ab L s (by omega) hR
  ·rw[if_neg (by rw[g];decide)] at hR
   refine E6.n19_in ?_
   rw[E6.b19_eq]
   exact C4 (Nat.le_of_eq uq.symm) hR
def oy(s:Ln):Ln:=(ew s).dropWhile Z1
theorem Nz(s:Ln):(ew s).length≤s.length:=by
 unfold ew
 rw[List.length_reverse]
 have:=(List.dropWhile_sublist (p:=Z1) (l:=s.reverse)).length_le
 rw[List.length_reverse] at this
 exact this
theorem Pp(L:Laid w0.w){s:Ln}(hs:s.length≤140737488355328)(hR:R (.pv (.str (oy s))) σ):A1 (cx w0) M9.id [.pv (.str s),.pv (.str [48,49,50,51,52,53,54,55,56,57])] σ R:=by
 refine A1.alone L rfl (fun w1 L1=>?_) rfl hR
 have h13:∀t,t=false→M9.n13 (M9.X w1 0) w1 0 (fun r _=>r = .pv (.str (oy s))) [] s [48,49,50,51,52,53,54,55,56,57] t:=by
  rintro t rfl
  refine M9.n13_in ?_
  rw[M9.b13_eq,I7]
  refine mu L1 (Vu w1) (Ws w1) ?_
  refine Mr (A0 rfl (Mr (A0 rfl (F0 ?_))))
  refine A0 (v:=asS) (by kernel_rfl) ?_
  rw[L4]
  refine E2.calls ?_
  rw[E2.b0_eq,uq]
  refine Oa L1 s.length s (Nat.le_refl _) hs (K9 ?_)
  refine E6.calls ?_
  rw[E6.b0_eq,uq]
  refine Ab L1 (ew s) (Nat.le_trans (Nz s) hs) (K9 (C4 (Nat.zero_le _) rfl))
 have h5:∀t,(t=true→s = [])→M9.n5 (M9.X w1 0) w1 0 (fun r _=>r = .pv (.str (oy s))) [] s [48,49,50,51,52,53,54,55,56,57] t:=by
  intro t ht
  refine M9.n5_in ?_
  rw[M9.b5_eq]
  refine A7 (fun g=>?_) (fun g=>?_)
  ·rw[ht g]
   exact C4 (Nat.zero_le _) rfl
  ·rw[H6,if_neg (by decide)]
   exact h13 _ rfl
 refine M9.calls ?_
 rw[M9.b0_eq,U5]
 refine B6 (fun g=>h5 _ (fun _=>g)) (fun g=>h5 _ (fun e=>by cases e))
theorem Pu(s:Ln):oy s = []↔s.all Z1=true:=by
 have h1:∀l:Ln,l.dropWhile Z1 = []↔l.all Z1=true:=by
  intro l
  induction l with
  | nil=>simp
  | cons c l ih=>
   rw[List.dropWhile_cons,List.all_cons,Bool.and_eq_true]
   split
   ·rename_i h;rw[ih];simp[h]
   ·rename_i h;simp[h]
 constructor
 ·intro h
  unfold oy at h
  rw[h1] at h
  unfold ew at h
  rw[List.all_reverse] at h
  rw[← List.all_reverse,←h1]
  cases e:s.reverse.dropWhile Z1 with
  | nil=>rfl
  | cons c r=>
   have hc:Z1 c=false:=by
    have:=List.head?_dropWhile_not Z1 s.reverse
    rw[e] at this
    simpa using this
   rw[e] at h
   simp[hc] at h
 ·intro h
  have:ew s = []:=by
   unfold ew
   rw[(h1 s.reverse).2 (by rw[List.all_reverse];exact h)]
   rfl
  unfold oy
  rw[this];rfl
end
end Go.Sv
end
section
namespace Go.Sv
def ah:List Ln→Ln×Bool
 | []=>([],false)
 | l::_=>(N7 l,true)
def am(mark:Ln)(r:List Ln):Option (Ln×Ln):=
 if (X8 (ah r).1 mark).2=false then none else match tc (X8 (ah r).1 mark).1 with
 | none=>none
 | some (p,rest)=>if rest ≠ []∧(X8 rest [9]).2=false then none else some (p,(X8 rest [9]).1)
def Ue(s:Ln):Nat:=s.foldl (fun a c=>a*10+(c.toNat-48)) 0
def Z4(s:Ln):Int×Bool:=
 if s = []∨s.all Z1=false then (0,false)
 else if 10<(s.dropWhile (· == 48)).length then (0,false)
 else ((Ue (s.dropWhile (· == 48)):Int),decide ((Ue (s.dropWhile (· == 48)):Int)≤2147483647))
structure Rng where
 at_:Int
 count:Int
 two:Bool
def av(r:Rng)(n:Int):Bool:=decide (n=r.count)||(!r.two&&decide (n=0))
def dx(before behind:Ln)(r:List Ln):Ln×Bool:=if (X8 (ah r).1 before).2=true then dk (X8 (ah r).1 before).1 behind else X8 (ah r).1 before
def pi(s:Ln):Ln:=if (Y7 s 44).2.2=true then (Y7 s 44).2.1 else (Y7 s 44).1
def cd(before behind:Ln)(r:List Ln):Option Rng:=
 if (dx before behind r).2=true∧(Z4 (Y7 (dx before behind r).1 44).1).2=true∧(Z4 (pi (dx before behind r).1)).2=true ∧ ¬(Z4 (pi (dx before behind r).1)).1<(Z4 (Y7 (dx before behind r).1 44).1).1 then
  some ⟨(Z4 (Y7 (dx before behind r).1 44).1).1,(Z4 (pi (dx before behind r).1)).1-(Z4 (Y7 (dx before behind r).1 44).1).1+1,(Y7 (dx before behind r).1 44).2.2⟩
 else none
structure Mkd where
 m:UInt8
 t:Ln
def bw(l:List Mkd):List Mkd:=match l.getLast? with
 | none=>l
 | some x=>l.dropLast ++ [⟨x.m,N7 x.t⟩]
def rb(kind:UInt8)(l:Ln):Option Mkd:=match N7 l with
 | a::b::_=>if b=32∧(a=32∨a=kind∨a=33) then some ⟨a,l.drop 2⟩ else none
 | _=>none
def V5(kind:UInt8)(most:Int):List Ln→List Mkd→Bool→List Mkd×List Ln
 | [],out,_=>(out,[])
 | l::r,out,bare=>
  if Lib.hasPrefix (N7 l) [92]=true then (if out = []∨bare=true then (out,l::r) else V5 kind most r (bw out) true)
  else if (out.length:Int)<most then match rb kind l with
   | some x=>V5 kind most r (out ++ [x]) false
   | none=>(out,l::r)
  else (out,l::r)
def sj(l:List Mkd):List Mkd:=l.filter (fun x=>x.m==32)
def nv(l:List Mkd)(m:UInt8):Bool:=l.all (fun x=>x.m==m) && !l.isEmpty
def tkM(l:List Mkd):List Mkd:=l.takeWhile (fun x=>!(x.m==32))
def tdM(l:List Mkd):List Mkd:=l.dropWhile (fun x=>!(x.m==32))
def ud(g c:List Mkd):Bool:=(g.isEmpty&&c.isEmpty)||(c.isEmpty&&nv g 45)||(g.isEmpty&&nv c 43)||(nv g 33&&nv c 33)
def bv(g c:List Mkd):List Row:=g.map (fun x=>⟨2,x.t⟩)++c.map (fun x=>⟨3,x.t⟩)
def tf:Nat→List Mkd→List Mkd→List Row→Option (List Row)
 | 0,_,_,_=>none
 | n+1,old,fresh,out=>
  if ud (tkM old) (tkM fresh)=true then
   match tdM old,tdM fresh with
   | [],[]=>some (out++bv (tkM old) (tkM fresh))
   | a::o,b::f=>if a.t=b.t then tf n o f ((out++bv (tkM old) (tkM fresh)) ++ [⟨1,a.t⟩]) else none
   | _,_=>none
  else none
def rd(old fresh:List Mkd):Option (List Row):=
 if old = []∧fresh = [] then none
 else if old = [] then tf (fresh.length+1) (sj fresh) fresh []
 else if fresh = [] then tf (old.length+1) old (sj old) []
 else tf (old.length+1) old fresh []
end Go.Sv
end
