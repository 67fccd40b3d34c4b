/- Functions of the library that package context calls, as calls over stores: Cut and CutSuffix, Trim and TrimLeft at digits, Atoi of few digits. A context diff, read: as plain lists. -/
import Derived.Test.YtgdnoobpnhmpjaaGreatDoorCxT
import Derived.Lib.AtoiErrMem
import Derived.Test.YtgdnoobpnhmpjaaGreatDoorUnO
import Derived.Test.YtgdnoobpnhmpjaaGreatDoorSvBk
set_option linter.unusedVariables false
set_option linter.unusedSimpArgs false
set_option maxRecDepth 100000
section
namespace Go.Sv.U
section
open Go Go.RowKit Go.Proofs
variable {w0:B4}{σ:A1}{R:AV→A1→Prop}
theorem slHasSuf_spec(L:Laid w0.w){s p:Ln}(hs:s.length≤140737488355328)(hR:R (.pv (.bool (Lib.hasSuffix s p))) σ):A2 (cx w0) H7.id [.pv (.str s),.pv (.str p)] σ R:=by
 refine A2.alone L rfl (fun w1 L1=>?_) rfl hR
 have fin:∀t,t=Lib.hasSuffix s p→H7.n4 (H7.X w1 0) w1 0 (fun r _=>r = .pv (.bool (Lib.hasSuffix s p))) [] t:=by
  rintro t rfl
  refine H7.n4_in ?_
  rw[H7.b4_eq]
  exact D6 (Nat.zero_le _) rfl
 refine H7.calls ?_
 rw[H7.b0_eq,B0]
 refine B5 (fun g=>?_) (fun g=>?_)
 ·rw[D8 (by omega) (by omega),show (s.length:Int)-(p.length:Int)=((s.length-p.length:Nat):Int) by omega]
  refine A0 (F5 (by omega)) (F4 (fin _ ?_))
  rw[Bool.eq_iff_iff,beq_iff_eq]
  unfold Lib.hasSuffix
  rw[List.isSuffixOf_iff_suffix]
  constructor
  ·intro e
   have h3:=List.take_append_drop (s.length-p.length) s
   rw[e] at h3
   exact ⟨_,h3⟩
  ·rintro ⟨q,rfl⟩
   simp
 ·generalize hb:false=b
  refine fin b ?_
  rw[← hb]
  cases h:Lib.hasSuffix s p with
  | false=>rfl
  | true=>
   unfold Lib.hasSuffix at h
   obtain ⟨q,rfl⟩:=List.isSuffixOf_iff_suffix.1 h
   simp at g
   omega
def ee(s p:Ln):Ln×Bool:=if Lib.hasSuffix s p=true then (s.take (s.length-p.length),true) else (s,false)
theorem xj(L:Laid w0.w){s p:Ln}(hs:s.length≤140737488355328)(hR:R (.tup [.pv (.str (ee s p).1),.pv (.bool (ee s p).2)]) σ):A2 (cx w0) N9.id [.pv (.str s),.pv (.str p)] σ R:=by
 refine A2.alone L rfl (fun w1 L1=>?_) rfl hR
 have in1:A2 (cx w1) K3.id [.pv (.str s),.pv (.str p)] [] fun r _=>r = .tup [.pv (.str (ee s p).1),.pv (.bool (ee s p).2)]:=by
  refine K3.calls ?_
  rw[K3.b0_eq]
  refine slHasSuf_spec L1 hs (E5 ?_)
  rw[E9]
  refine A4 (fun g=>?_) (fun g=>?_)
  ·have hle:p.length≤s.length:=by
    unfold Lib.hasSuffix at g
    exact (List.isSuffixOf_iff_suffix.1 g).length_le
   rw[D8 (by omega) (by omega),show (s.length:Int)-(p.length:Int)=((s.length-p.length:Nat):Int) by omega]
   refine A0 (Q5 (by omega)) (F4 (D6 (Nat.zero_le _) ?_))
   rw[ee,if_pos g]
  ·refine D6 (Nat.zero_le _) ?_
   rw[ee,if_neg (by rw[g];decide)]
 refine N9.calls ?_
 rw[N9.b0_eq]
 refine in1.mono fun r σ' e=>?_
 subst e
 repeat ((with_reducible first|apply A0|apply wI|apply wT|apply wP|apply wS|apply wB);exact rfl)
 exact D6 (Nat.zero_le _) rfl
def V6(s:Ln)(c:UInt8):Ln×Ln×Bool:=if 0≤Lib.indexByte s c then (s.take (Lib.indexByte s c).toNat,s.drop ((Lib.indexByte s c).toNat+1),true) else (s,[],false)
theorem cq{s:Ln}{c:UInt8}(hR:R (.pv (.int .i64 (Lib.indexByte s c))) σ):A2 (cx w0) O0.id [.pv (.str s),.pv (.str [c])] σ R:=
 A2.same (Y2 Tryz.func161 (by kernel_rfl) (by kernel_rfl)) hR fun m K w vs hB hv=>by
  obtain ⟨x,y,rfl,hx,hy⟩:=hv.two
  obtain rfl:=hx.str_inv
  obtain rfl:=hy.str_inv
  exact ⟨_,.pv _ _ (.int _ _),Tryz.stringslite_Index_one ⟨s.toArray⟩ c w⟩
theorem Cut1_spec(L:Laid w0.w){s:Ln}{c:UInt8}(hs:s.length≤140737488355328)(hR:R (.tup [.pv (.str (V6 s c).1),.pv (.str (V6 s c).2.1),.pv (.bool (V6 s c).2.2)]) σ):A2 (cx w0) K8.id [.pv (.str s),.pv (.str [c])] σ R:=by
 refine A2.alone L rfl (fun w1 L1=>?_) rfl hR
 have hlt:0≤Lib.indexByte s c→Lib.indexByte s c<s.length:=fun h=>by
  obtain ⟨k,hk⟩:∃k:Nat,Lib.indexByte s c=(k:Int):=⟨(Lib.indexByte s c).toNat,by omega⟩
  have:=(List.getElem?_eq_some_iff.1 (Lib.indexByte_some hk).1).1
  omega
 have in1:A2 (cx w1) J0.id [.pv (.str s),.pv (.str [c])] [] fun r _=>r = .tup [.pv (.str (V6 s c).1),.pv (.str (V6 s c).2.1),.pv (.bool (V6 s c).2.2)]:=by
  refine J0.calls ?_
  rw[J0.b0_eq]
  refine cq (G2 ?_)
  rw[B0]
  refine B5 (fun g=>?_) (fun g=>?_)
  ·have h1:=hlt g
   obtain ⟨k,hk⟩:∃k:Nat,Lib.indexByte s c=(k:Int):=⟨(Lib.indexByte s c).toNat,by omega⟩
   have h0:0≤Lib.indexByte s c:=g
   unfold V6
   rw[if_pos h0]
   rw[hk] at h1 ⊢
   have hl:List.length ([c]:List UInt8)=1:=rfl
   rw[hl,D8 (by omega) (by omega),show (k:Int)+((1:Nat):Int)=((k+1:Nat):Int) by omega]
   refine A0 (Q5 (by omega)) (F4 (A0 (F5 (by omega)) (F4 ⟨A0 (F5 (by omega)) rfl,D6 (Nat.zero_le _) ?_⟩)))
   rw[Int.toNat_natCast]
  ·refine D6 (Nat.zero_le _) ?_
   rw[V6,if_neg g]
 refine K8.calls ?_
 rw[K8.b0_eq]
 refine in1.mono fun r σ' e=>?_
 subst e
 repeat ((with_reducible first|apply A0|apply wI|apply wT|apply wP|apply wS|apply wB);exact rfl)
 exact D6 (Nat.zero_le _) rfl
theorem aq{s:Ln}{c:UInt8}(hc:c.toNat<128)(hR:R (.pv (.str (s.dropWhile (· == c)))) σ):A2 (cx w0) F6.id [.pv (.str s),.pv (.str [c])] σ R:=
 A2.same (Y2 Tryz.func70 (by kernel_rfl) (by kernel_rfl)) hR fun m K w vs hB hv=>by
  obtain ⟨x,y,rfl,hx,hy⟩:=hv.two
  obtain rfl:=hx.str_inv
  obtain rfl:=hy.str_inv
  exact ⟨_,.pv _ _ (.str _),Tryz.strings_TrimLeft_one ⟨s.toArray⟩ c hc w⟩
theorem mm{s:Ln}{n:Int}(hl:s.length≤18)(h:Lib.atoi s=some n)(hR:R (.tup [.pv (.int .i64 n),.pv (.raw .nilIface)]) σ):A2 (cx w0) strconv_Atoi.id [.pv (.str s)] σ R:=
 A2.below (Y2 Tryz.func124 (by kernel_rfl) (by kernel_rfl)) fun m K w vs hB hv=>by
  obtain ⟨x,rfl,hx⟩:=hv.one
  obtain rfl:=hx.str_inv
  refine (Tryz.strconv_Atoi ⟨s.toArray⟩ n (by simpa[ByteArray.size] using hl) h w).mono fun e w' ⟨he,t,hw⟩=>⟨_,_,he,by rw[hw];exact Lib.bytesWorld_below _ _ _,?_,hR⟩
  refine .tup _ _ rfl (fun j p v hp hv=>?_)
  match j with
  | 0=>simp at hp hv;subst hp;subst hv;exact .pv _ _ (.int _ _)
  | 1=>simp at hp hv;subst hp;subst hv;exact .pv _ _ (.raw _ rfl)
  | j+2=>simp at hp
def P5(c:UInt8):Bool:=decide (48≤c.toNat)&&decide (c.toNat≤57)
def asP:List PV:=(List.range 256).map fun k=>.bool (Nat.ble 48 k&&Nat.ble k 57)
def asS:A1:=[.cells 178 (asP.map .pv)]
theorem dt:List.length asS=1:=rfl
noncomputable def feA:List (FuncId×FE):=[(H0.id,H0.fe),(E0.id,E0.fe)]
theorem vz(w0:B4):oc (cx w0) feA:=⟨H0.ok w0,E0.ok w0,trivial⟩
theorem wu(w0:B4):ey (cx w0) (jl feA) (au lu) 1000 60 H0.id [.pv (.str [48,49,50,51,52,53,54,55,56,57])] []=some (.tup [.pv (.agg asP),.pv (.bool true)],[]):=by kernel_rfl
theorem con_run(w0:B4):(List.range 256).map (fun k=>ey (cx w0) (jl feA) (au lu) 1000 40 E0.id [.ptr 0 0,.pv (.int .u8 (Int.ofNat k))] asS)=(List.range 256).map (fun k=>some (.pv (.bool (Nat.ble 48 k&&Nat.ble k 57)),asS)):=by kernel_rfl
theorem rc(L:Laid w0.w){c:UInt8}(hR:R (.pv (.bool (P5 c))) asS):A2 (cx w0) E0.id [.ptr 0 0,.pv (.int .u8 c.toNat)] asS R:=by
 have e:P5 c=(Nat.ble 48 c.toNat&&Nat.ble c.toNat 57):=by
  unfold P5
  have h:∀a b:Nat,decide (a≤b)=Nat.ble a b:=fun a b=>by
   rw[Bool.eq_iff_iff,decide_eq_true_eq,Nat.ble_eq]
  rw[h,h]
 rw[e] at hR
 exact er L (vz w0) (mv (con_run w0) c.toNat_lt) hR
def cb:Ln→Ln:=fun s=>(s.reverse.dropWhile P5).reverse
theorem trimR_loop(L:Laid w0.w):∀(n:Nat) (s:Ln),s.length≤n→s.length≤140737488355328→R (.pv (.str (cb s))) asS→F3.n4 (F3.X w0 1) w0 1 R asS s (.ptr 0 0):=by
 have stop:∀s:Ln,cb s=s→R (.pv (.str (cb s))) asS→F3.n19 (F3.X w0 1) w0 1 R asS s:=by
  intro s hs hR
  refine F3.n19_in ?_
  rw[F3.b19_eq]
  refine D6 (Nat.le_of_eq dt.symm) ?_
  rw[← hs];exact hR
 intro n
 induction n with
 | zero=>
  intro s hn hs hR
  have:s = []:=List.length_eq_zero_iff.1 (by omega)
  subst this
  refine F3.n4_in ?_
  rw[F3.b5_eq,B0,if_neg (by simp)]
  exact stop [] rfl hR
 | succ n ih=>
  intro s hn hs hR
  refine F3.n4_in ?_
  rw[F3.b5_eq,B0]
  rcases List.eq_nil_or_concat s with rfl|⟨q,c,rfl⟩
  ·rw[if_neg (by simp)]
   exact stop [] rfl hR
  ·rw[List.concat_eq_append] at *
   have hl:(q ++ [c]).length=q.length+1:=by simp
   have wl:IntKind.wrap .i64 ((((q ++ [c]).length:Nat):Int)-1)=(q.length:Int):=by rw[hl,D8 (by omega) (by omega)];omega
   rw[if_pos (by omega),wl]
   refine A0 (M3 (k:=q.length) (c:=c) (by simp)) (G2 ?_)
   refine rc L (E5 ?_)
   rw[E9]
   have et:cb (q ++ [c])=if P5 c=true then cb q else q ++ [c]:=by
    unfold cb
    rw[List.reverse_append,List.reverse_singleton,List.singleton_append,List.dropWhile_cons]
    split
    ·rfl
    ·simp
   refine A4 (fun g=>?_) (fun g=>?_)
   ·rw[et,if_pos g] at hR
    refine A0 (Q5 (by omega)) (F4 ?_)
    have e2:(q ++ [c]).take q.length=q:=by simp
    rw[e2]
    exact ih q (by omega) (by omega) hR
   ·exact stop _ (by rw[et,if_neg (by rw[g];decide)]) hR
theorem fa(L:Laid w0.w):∀(s:Ln),s.length≤140737488355328→R (.pv (.str (s.dropWhile P5))) asS→B8.n4 (B8.X w0 1) w0 1 R asS s (.ptr 0 0)
 | [],hs,hR=>by
  refine B8.n4_in ?_
  rw[B8.b5_eq,B0,if_neg (by simp)]
  refine B8.n19_in ?_
  rw[B8.b19_eq]
  exact D6 (Nat.le_of_eq dt.symm) hR
 | c::s,hs,hR=>by
  simp only[List.length_cons] at hs
  refine B8.n4_in ?_
  rw[B8.b5_eq,B0,if_pos (by simp only[List.length_cons];omega)]
  refine A0 (M3 (k:=0) (c:=c) rfl) (G2 ?_)
  refine rc L (E5 ?_)
  rw[E9]
  rw[List.dropWhile_cons] at hR
  refine A4 (fun g=>?_) (fun g=>?_)
  ·rw[if_pos g] at hR
   refine A0 (F5 (k:=1) (by simp)) (F4 ?_)
   exact fa L s (by omega) hR
  ·rw[if_neg (by rw[g];decide)] at hR
   refine B8.n19_in ?_
   rw[B8.b19_eq]
   exact D6 (Nat.le_of_eq dt.symm) hR
def lz(s:Ln):Ln:=(cb s).dropWhile P5
theorem trimRD_len(s:Ln):(cb s).length≤s.length:=by
 unfold cb
 rw[List.length_reverse]
 have:=(List.dropWhile_sublist (p:=P5) (l:=s.reverse)).length_le
 rw[List.length_reverse] at this
 exact this
theorem TrimD_spec(L:Laid w0.w){s:Ln}(hs:s.length≤140737488355328)(hR:R (.pv (.str (lz s))) σ):A2 (cx w0) L3.id [.pv (.str s),.pv (.str [48,49,50,51,52,53,54,55,56,57])] σ R:=by
 refine A2.alone L rfl (fun w1 L1=>?_) rfl hR
 have h13:∀t,t=false→L3.n13 (L3.X w1 0) w1 0 (fun r _=>r = .pv (.str (lz s))) [] s [48,49,50,51,52,53,54,55,56,57] t:=by
  rintro t rfl
  refine L3.n13_in ?_
  rw[L3.b13_eq,C3]
  refine er L1 (vz w1) (wu w1) ?_
  refine qo (A0 rfl (qo (A0 rfl (E5 ?_))))
  refine A0 (v:=asS) (by kernel_rfl) ?_
  rw[D4]
  refine F3.calls ?_
  rw[F3.b0_eq,dt]
  refine trimR_loop L1 s.length s (Nat.le_refl _) hs (F4 ?_)
  refine B8.calls ?_
  rw[B8.b0_eq,dt]
  refine fa L1 (cb s) (Nat.le_trans (trimRD_len s) hs) (F4 (D6 (Nat.zero_le _) rfl))
 have h5:∀t,(t=true→s = [])→L3.n5 (L3.X w1 0) w1 0 (fun r _=>r = .pv (.str (lz s))) [] s [48,49,50,51,52,53,54,55,56,57] t:=by
  intro t ht
  refine L3.n5_in ?_
  rw[L3.b5_eq]
  refine A4 (fun g=>?_) (fun g=>?_)
  ·rw[ht g]
   exact D6 (Nat.zero_le _) rfl
  ·rw[G6,if_neg (by decide)]
   exact h13 _ rfl
 refine L3.calls ?_
 rw[L3.b0_eq,Q8]
 refine B5 (fun g=>h5 _ (fun _=>g)) (fun g=>h5 _ (fun e=>by cases e))
theorem trimDF_nil(s:Ln):lz s = []↔s.all P5=true:=by
 have h1:∀l:Ln,l.dropWhile P5 = []↔l.all P5=true:=by
  intro l
  induction l with
  | nil=>simp
  | cons c l ih=>
   rw[List.dropWhile_cons,List.all_cons,Bool.and_eq_true]
   split
   ·rename_i h;rw[ih];simp[h]
   ·rename_i h;simp[h]
 constructor
 ·intro h
  unfold lz at h
  rw[h1] at h
  unfold cb at h
  rw[List.all_reverse] at h
  rw[← List.all_reverse,←h1]
  cases e:s.reverse.dropWhile P5 with
  | nil=>rfl
  | cons c r=>
   have hc:P5 c=false:=by
    have:=List.head?_dropWhile_not P5 s.reverse
    rw[e] at this
    simpa using this
   rw[e] at h
   simp[hc] at h
 ·intro h
  have:cb s = []:=by
   unfold cb
   rw[(h1 s.reverse).2 (by rw[List.all_reverse];exact h)]
   rfl
  unfold lz
  rw[this];rfl
end
end Go.Sv.U
end
section
namespace Go.Sv.U
def Y5:List Ln→Ln×Bool
 | []=>([],false)
 | l::_=>(H4 l,true)
def ac(mark:Ln)(r:List Ln):Option (Ln×Ln):=
 if (W1 (Y5 r).1 mark).2=false then none else match unqF (W1 (Y5 r).1 mark).1 with
 | none=>none
 | some (p,H8)=>if H8 ≠ []∧(W1 H8 [9]).2=false then none else some (p,(W1 H8 [9]).1)
def decV(s:Ln):Nat:=s.foldl (fun a c=>a*10+(c.toNat-48)) 0
def V3(s:Ln):Int×Bool:=
 if s = []∨s.all P5=false then (0,false)
 else if 10<(s.dropWhile (· == 48)).length then (0,false)
 else ((decV (s.dropWhile (· == 48)):Int),decide ((decV (s.dropWhile (· == 48)):Int)≤2147483647))
structure Rng where
 at_:Int
 count:Int
 two:Bool
def Z7(r:Rng)(n:Int):Bool:=decide (n=r.count)||(!r.two&&decide (n=0))
def dm(before behind:Ln)(r:List Ln):Ln×Bool:=if (W1 (Y5 r).1 before).2=true then ee (W1 (Y5 r).1 before).1 behind else W1 (Y5 r).1 before
def oa(s:Ln):Ln:=if (V6 s 44).2.2=true then (V6 s 44).2.1 else (V6 s 44).1
def bu(before behind:Ln)(r:List Ln):Option Rng:=
 if (dm before behind r).2=true∧(V3 (V6 (dm before behind r).1 44).1).2=true∧(V3 (oa (dm before behind r).1)).2=true ∧ ¬(V3 (oa (dm before behind r).1)).1<(V3 (V6 (dm before behind r).1 44).1).1 then
  some ⟨(V3 (V6 (dm before behind r).1 44).1).1,(V3 (oa (dm before behind r).1)).1-(V3 (V6 (dm before behind r).1 44).1).1+1,(V6 (dm before behind r).1 44).2.2⟩
 else none
structure Mkd where
 m:UInt8
 t:Ln
def cj(l:List Mkd):List Mkd:=match l.getLast? with
 | none=>l
 | some x=>l.dropLast ++ [⟨x.m,H4 x.t⟩]
def rowC(kind:UInt8)(l:Ln):Option Mkd:=match H4 l with
 | a::b::_=>if b=32∧(a=32∨a=kind∨a=33) then some ⟨a,l.drop 2⟩ else none
 | _=>none
def T9(kind:UInt8)(most:Int):List Ln→List Mkd→Bool→List Mkd×List Ln
 | [],out,_=>(out,[])
 | l::r,out,bare=>
  if Lib.hasPrefix (H4 l) [92]=true then (if out = []∨bare=true then (out,l::r) else T9 kind most r (cj out) true)
  else if (out.length:Int)<most then match rowC kind l with
   | some x=>T9 kind most r (out ++ [x]) false
   | none=>(out,l::r)
  else (out,l::r)
def ss(l:List Mkd):List Mkd:=l.filter (fun x=>x.m==32)
def ot(l:List Mkd)(m:UInt8):Bool:=l.all (fun x=>x.m==m) && !l.isEmpty
def tkM(l:List Mkd):List Mkd:=l.takeWhile (fun x=>!(x.m==32))
def tdM(l:List Mkd):List Mkd:=l.dropWhile (fun x=>!(x.m==32))
def runOK(g c:List Mkd):Bool:=(g.isEmpty&&c.isEmpty)||(c.isEmpty&&ot g 45)||(g.isEmpty&&ot c 43)||(ot g 33&&ot c 33)
def bm(g c:List Mkd):List Row:=g.map (fun x=>⟨2,x.t⟩)++c.map (fun x=>⟨3,x.t⟩)
def vh:Nat→List Mkd→List Mkd→List Row→Option (List Row)
 | 0,_,_,_=>none
 | n+1,old,fresh,out=>
  if runOK (tkM old) (tkM fresh)=true then
   match tdM old,tdM fresh with
   | [],[]=>some (out++bm (tkM old) (tkM fresh))
   | a::o,b::f=>if a.t=b.t then vh n o f ((out++bm (tkM old) (tkM fresh)) ++ [⟨1,a.t⟩]) else none
   | _,_=>none
  else none
def qm(old fresh:List Mkd):Option (List Row):=
 if old = []∧fresh = [] then none
 else if old = [] then vh (fresh.length+1) (ss fresh) fresh []
 else if fresh = [] then vh (old.length+1) old (ss old) []
 else vh (old.length+1) old fresh []
end Go.Sv.U
end
