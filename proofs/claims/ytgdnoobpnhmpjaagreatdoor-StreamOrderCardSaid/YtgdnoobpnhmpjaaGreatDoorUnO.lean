/- What the code of reading answers: octal digits, names in quotes, numbers, a hunk's first line. What the code of reading answers: a prefix cut off. -/
import Derived.Test.YtgdnoobpnhmpjaaGreatDoorUnP
set_option linter.unusedVariables false
set_option linter.unusedSimpArgs false
set_option maxRecDepth 100000
section
namespace Go.Sv.U
open Go Go.RowKit Go.Proofs
section
variable {w0:B4}{σ:A1}{R:AV→A1→Prop}
def octA(s:Ln):AV:=match octF s with
 | some v=>.tup [.pv (.int .u8 (v:Nat)),.pv (.bool true)]
 | none=>.tup [.pv (.int .u8 0),.pv (.bool false)]
theorem sk{s:Ln}{i:Nat}{d:UInt8}{v:AV}(hi:i<3)(hd:s[i]? = some d)(n:Int)(n0:0≤n)(n1:n≤255)
  (hbad:¬(48≤d.toNat∧d.toNat≤55)→v = .tup [.pv (.int .u8 0),.pv (.bool false)])
  (next:48≤d.toNat∧d.toNat≤55→G8.n16 (G8.X w0 0) w0 0 (fun r' _=>r'=v) [] s (n*8+((d.toNat:Int)-48)) ((i+1:Nat):Int)):
  G8.n16 (G8.X w0 0) w0 0 (fun r' _=>r'=v) [] s n (i:Int):=by
 have hdl:=d.toNat_lt
 have key:∀t,t = !decide (48≤d.toNat∧d.toNat≤55)→G8.n30 (G8.X w0 0) w0 0 (fun r' _=>r'=v) [] s n (i:Int) (i:Int) t:=by
  rintro t rfl
  refine G8.n30_in ?_
  rw[G8.b30_eq,E9,B0]
  refine B5 (fun g=>?_) (fun g=>D6 (Nat.zero_le _) (hbad g).symm)
  refine A0 (M3 hd) (G2 ?_)
  rw[vj (n:=(d.toNat:Int)-48) (by omega) (by omega),D8 (n:=n*8) (by omega) (by omega),D8 (n:=(d.toNat:Int)-48) (by omega) (by omega),D8 (by omega) (by omega),D8 (by omega) (by omega)]
  exact next g
 refine G8.n16_in ?_
 rw[G8.b17_eq,B0,if_pos (by omega)]
 refine A0 (M3 hd) (G2 ?_)
 rw[B0]
 refine B5 (fun g=>key _ ?_) (fun g=>?_)
 ·rw[decide_eq_false (by omega)];rfl
 ·refine A0 (M3 hd) (G2 (key _ ?_))
  have h:(48≤d.toNat∧d.toNat≤55) ↔ ¬((d.toNat:Int)>55):=by omega
  rw[decide_eq_decide.2 h,decide_not,Bool.not_not]
theorem octal_spec(L:Laid w0.w){s:Ln}(hR:R (octA s) σ):A2 (cx w0) G8.id [.pv (.str s)] σ R:=by
 refine A2.alone L rfl (fun w1 L1=>?_) (by unfold octA;split<;>rfl) hR
 refine G8.calls ?_
 rw[G8.b0_eq,B0]
 have bad:∀t,t=true→octF s=none→G8.n5 (G8.X w1 0) w1 0 (fun r' _=>r'=octA s) [] s t:=by
  rintro t rfl h
  refine G8.n5_in ?_
  rw[G8.b5_eq,D4]
  refine D6 (Nat.zero_le _) ?_
  unfold octA;rw[h]
 match s,bad with
 | [],bad=>rw[if_pos (by decide)];exact bad _ rfl rfl
 | [a],bad=>rw[if_pos (by simp)];exact bad _ rfl rfl
 | [a,b],bad=>rw[if_pos (by simp)];exact bad _ rfl rfl
 | a::b::c::r,bad=>
  rw[if_neg (by simp only[List.length_cons];omega)]
  refine A0 (M3 (c:=a) rfl) (G2 ?_)
  have none_of:¬(48≤a.toNat∧a.toNat≤51∧48≤b.toNat∧b.toNat≤55∧48≤c.toNat∧c.toNat≤55)→octF (a::b::c::r)=none:=fun h=>by
   show octV _ _ _=none
   unfold octV;rw[if_neg h]
  by_cases ha:(a.toNat:Int)>51
  ·exact bad _ (decide_eq_true ha) (none_of (by omega))
  have start:∀t,t=false→G8.n5 (G8.X w1 0) w1 0 (fun r' _=>r'=octA (a::b::c::r)) [] (a::b::c::r) t:=by
   rintro t rfl
   refine G8.n5_in ?_
   rw[G8.b5_eq,C3]
   have no:¬(48≤a.toNat∧a.toNat≤51∧48≤b.toNat∧b.toNat≤55∧48≤c.toNat∧c.toNat≤55)→octA (a::b::c::r) = .tup [.pv (.int .u8 0),.pv (.bool false)]:=fun h=>by
    unfold octA;rw[none_of h]
   refine sk (i:=0) (d:=a) (by omega) rfl 0 (by omega) (by omega) (fun h=>no (by omega)) (fun g1=>?_)
   refine sk (i:=1) (d:=b) (by omega) rfl _ (by omega) (by omega) (fun h=>no (by omega)) (fun g2=>?_)
   refine sk (i:=2) (d:=c) (by omega) rfl _ (by omega) (by omega) (fun h=>no (by omega)) (fun g3=>?_)
   refine G8.n16_in ?_
   rw[G8.b17_eq,B0,if_neg (by omega)]
   refine G8.n37_in ?_
   rw[G8.b37_eq,vj (by omega) (by omega)]
   refine D6 (Nat.zero_le _) ?_
   have:octF (a::b::c::r)=some ((a.toNat-48)*64+(b.toNat-48)*8+(c.toNat-48)):=by
    show octV _ _ _=_
    unfold octV;rw[if_pos (by omega)]
   unfold octA
   rw[this]
   simp only
   congr 3
   congr 1
   omega
  exact start _ (decide_eq_false ha)
def unqA(x:Option (Ln×Ln)):AV:=match x with
 | some (p,r)=>.tup [.pv (.str p),.pv (.str r),.pv (.raw .nilIface)]
 | none=>.tup [.pv (.str []),.pv (.str []),.pv (.iface 61 (.int .i64 20))]
theorem unqA_under(x:Option (Ln×Ln)):AV.under 0 (unqA x)=true:=by unfold unqA;split<;>rfl
theorem meantT_lt{k m:Nat}(h:meantT k=some m):m<256:=by
 unfold meantT at h
 split at h<;>first|(cases h;done)|(cases h;decide)
theorem octF_lt{s:Ln}{v:Nat}(h:octF s=some v):v<256:=by
 unfold octF at h
 split at h
 ·unfold octV at h
  split at h
  ·cases h;omega
  ·cases h
 ·cases h
theorem octF_len{s:Ln}{v:Nat}(h:octF s=some v):3≤s.length:=by
 unfold octF at h
 split at h
 ·simp only[List.length_cons];omega
 ·cases h
theorem uq_loop(L:Laid w0.w)(text:Ln)(hx:text.length≤8388608)(v:AV):∀(f:Nat) (r:Ln) (i:Nat) (acc:Ln),text.drop i=r→i≤text.length→r.length<f→acc.length+r.length≤8388608→v=unqA (uqL f r acc) →
  G3.n24 (G3.X w0 0) w0 0 (fun r' _=>r'=v) [.arr 1 (P4 acc) false] text (.arr 0 acc.length 0 acc.length) (i:Int)
 | 0,r,i,acc,_,_,h,_,_=>absurd h (Nat.not_lt_zero _)
 | f+1,r,i,acc,hd,hi,hf,hl,hv=>by
  have err:∀σ:A1,v=unqA none→G3.n90 (G3.X w0 0) w0 0 (fun r' _=>r'=v) σ:=by
   intro σ h
   refine G3.n90_in ?_
   rw[G3.b90_eq]
   refine A0 rfl (D6 (Nat.zero_le _) ?_)
   rw[h];rfl
  refine G3.n24_in ?_
  rw[G3.b25_eq,B0]
  cases r with
  | nil=>
   have hk:=X7 hd
   rw[if_neg (by omega)]
   exact err _ (by rw[hv];rfl)
  | cons c r=>
   obtain ⟨h1,h2,hk⟩:=Q6 hd
   simp only[List.length_cons] at hf hl
   have hlen:(text.drop (i+1)).length=r.length:=by rw[h2]
   rw[List.length_drop] at hlen
   rw[if_pos (by omega)]
   refine A0 (M3 h1) (G2 ?_)
   rw[uqL.eq_def] at hv
   simp only at hv
   have wi:IntKind.wrap .i64 ((i:Int)+1)=((i+1:Nat):Int):=K6 hk (by omega)
   have more:∀(b:UInt8) (r':Ln) (j:Nat) (σ:A1),text.drop j=r'→j≤text.length→r'.length<f→acc.length+1+r'.length≤8388608→v=unqA (uqL f r' (acc ++ [b])) →
     G3.n24 (G3.X w0 0) w0 0 (fun r' _=>r'=v) [.arr 1 (P4 (acc ++ [b])) false] text (.arr 0 (acc ++ [b]).length 0 (acc ++ [b]).length) (j:Int):=by
    intro b r' j σ e1 e2 e3 e4 e5
    exact uq_loop L text hx v f r' j (acc ++ [b]) e1 e2 e3 (by simp only[List.length_append,List.length_singleton];omega) e5
   rw[G6]
   refine B5 (fun g=>?_) (fun g=>?_)
   ·have hc:c=34:=UInt8.toNat_inj.1 (by have:UInt8.toNat 34=34:=rfl;omega)
    rw[if_pos hc] at hv
    refine J5 (conv_bytes (id:=0) (acc:=acc) rfl) (F4 ?_)
    rw[wi]
    refine A0 (F5 (by omega)) (F4 ⟨A0 (F5 (by omega)) rfl,D6 (Nat.zero_le _) ?_⟩)
    rw[hv,h2];rfl
   ·have hc:¬c=34:=fun e=>g (by rw[e];rfl)
    rw[if_neg hc] at hv
    rw[G6]
    refine B5 (fun g2=>?_) (fun g2=>?_)
    ·have hc2:c=10:=UInt8.toNat_inj.1 (by have:UInt8.toNat 10=10:=rfl;omega)
     rw[if_pos hc2] at hv
     refine A0 rfl (D6 (Nat.zero_le _) ?_)
     rw[hv];rfl
    ·have hc2:¬c=10:=fun e=>g2 (by rw[e];rfl)
     rw[if_neg hc2] at hv
     rw[T7]
     refine B5 (fun g3=>?_) (fun g3=>?_)
     ·have hc3:c=92:=UInt8.toNat_inj.1 (by have:UInt8.toNat 92=92:=rfl;omega)
      rw[if_neg (by rw[hc3];simp)] at hv
      rw[wi]
      refine A0 (F5 (by omega)) (F4 ?_)
      rw[h2,Q8]
      refine B5 (fun g4=>?_) (fun g4=>?_)
      ·subst g4
       exact err _ (by rw[hv])
      ·cases r with
       | nil=>exact absurd rfl g4
       | cons d r1=>
        obtain ⟨h3,h4,hk2⟩:=Q6 h2
        simp only[List.length_cons] at hf hl hlen
        refine A0 (M3 (c:=d) rfl) (G2 ?_)
        refine meant_spec L ?_
        unfold meantA
        simp only at hv
        cases hm:meantT d.toNat with
        | some m=>
         rw[hm] at hv
         have hm2:=meantT_lt hm
         have hm3:((UInt8.ofNat m).toNat:Int)=(m:Int):=by rw[UInt8.toNat_ofNat_of_lt' hm2]
         repeat ((with_reducible first|apply A0|apply wI|apply wT|apply wP|apply wS|apply wB);exact rfl)
         rw[D4]
         refine J5 (v:=.pv (.sl [.int .u8 (Int.ofNat m)])) rfl ?_
         refine J5 (kh (id:=0) (acc:=acc) (s:=[UInt8.ofNat m]) (by
          show some [PV.int .u8 (Int.ofNat m)]=some (P4 [UInt8.ofNat m])
          simp only[P4,List.map_cons,List.map_nil]
          rw[hm3];rfl) rfl (by simp only[List.length_singleton];omega)) ?_
         have w2:IntKind.wrap .i64 ((i:Int)+2)=((i+2:Nat):Int):=by rw[D8 (by omega) (by omega)];omega
         rw[w2]
         exact more _ r1 (i+2) [] h4 (by omega) (by omega) (by omega) hv
        | none=>
         rw[hm] at hv
         simp only at hv
         repeat ((with_reducible first|apply A0|apply wI|apply wT|apply wP|apply wS|apply wB);exact rfl)
         refine octal_spec L ?_
         unfold octA
         cases ho:octF (d::r1) with
         | some o=>
          rw[ho] at hv
          simp only at hv
          have ho2:=octF_lt ho
          have ho4:=octF_len ho
          simp only[List.length_cons] at ho4
          have ho3:((UInt8.ofNat o).toNat:Int)=(o:Int):=by rw[UInt8.toNat_ofNat_of_lt' ho2]
          repeat ((with_reducible first|apply A0|apply wI|apply wT|apply wP|apply wS|apply wB);exact rfl)
          rw[E9,D4]
          refine J5 (v:=.pv (.sl [.int .u8 (o:Int)])) rfl ?_
          refine J5 (kh (id:=0) (acc:=acc) (s:=[UInt8.ofNat o]) (by
           show some [PV.int .u8 (o:Int)]=some (P4 [UInt8.ofNat o])
           simp only[P4,List.map_cons,List.map_nil]
           rw[ho3]) rfl (by simp only[List.length_singleton];omega)) ?_
          have w4:IntKind.wrap .i64 ((i:Int)+4)=((i+4:Nat):Int):=by rw[D8 (by omega) (by omega)];omega
          rw[w4]
          have hdd:text.drop (i+4)=(d::r1).drop 3:=by rw[← h2,List.drop_drop]
          have hdl:((d::r1).drop 3).length=r1.length-2:=by rw[List.length_drop,List.length_cons];omega
          exact more _ ((d::r1).drop 3) (i+4) [] hdd (by omega) (by omega) (by omega) hv
         | none=>
          rw[ho] at hv
          repeat ((with_reducible first|apply A0|apply wI|apply wT|apply wP|apply wS|apply wB);exact rfl)
          refine D6 (Nat.zero_le _) ?_
          rw[hv];rfl
     ·have hc3:c≠92:=fun e=>g3 (by rw[e];rfl)
      rw[if_pos hc3] at hv
      refine J5 (v:=.pv (.sl [.int .u8 c.toNat])) rfl ?_
      refine J5 (kh (id:=0) (acc:=acc) (s:=[c]) rfl rfl (by simp only[List.length_singleton];omega)) ?_
      rw[wi]
      exact more c r (i+1) [] h2 (by omega) (by omega) (by omega) hv
theorem Unquote_spec(L:Laid w0.w){s:Ln}(hs:s.length≤8388608)(hR:R (unqA (unqF s)) σ):A2 (cx w0) G3.id [.pv (.str s)] σ R:=by
 refine A2.alone L rfl (fun w1 L1=>?_) (unqA_under _) hR
 refine G3.calls ?_
 rw[G3.b0_eq]
 refine O3 (E5 ?_)
 rw[E9]
 refine A4 (fun g=>?_) (fun g=>?_)
 ·have h1:[34] <+: s:=List.isPrefixOf_iff_prefix.1 g
  obtain ⟨r,rfl⟩:=h1
  refine G3.n24_weak (text':=[34]++r) (b':=.arr 0 0 0 0) (i':=1) (τ:=[.arr 1 [] false]) (N2.nil (t:=6) (es:=1) rfl rfl) ?_
  simp only[List.length_append,List.length_singleton] at hs
  exact uq_loop L1 ([34]++r) (by simp only[List.length_append,List.length_singleton];omega) _ (r.length+1) r 1 [] rfl (by simp) (by omega) (by simp only[List.length_nil];omega) rfl
 ·have fin:∀n:Int,n=(cr s:Int)→G3.n14 (G3.X w1 0) w1 0 (fun r' _=>r'=unqA (unqF s)) [] s n:=by
   rintro n rfl
   have hle:=pd s
   refine G3.n14_in ?_
   rw[G3.b14_eq]
   refine A0 (Q5 hle) (F4 (A0 (F5 hle) (F4 ⟨A0 (F5 hle) rfl,D6 (Nat.zero_le _) ?_⟩)))
   have:unqF s=some (s.take (cr s),s.drop (cr s)):=by
    unfold unqF
    split
    ·rename_i r
     have:Lib.hasPrefix (34::r) [34]=true:=by simp[Lib.hasPrefix,List.isPrefixOf]
     rw[this] at g;cases g
    ·rfl
   rw[this];rfl
  have ha:=tk s
  refine od (by decide) (by omega) (by decide) (G2 ?_)
  rw[B0]
  refine B5 (fun g2=>fin _ ?_) (fun g2=>fin _ ?_)
  ·rw[if_pos g2] at ha;exact ha
  ·rw[if_neg g2] at ha;exact ha
end
end Go.Sv.U
end
section
namespace Go.Sv.U
open Go Go.RowKit Go.Proofs
section
variable {w0:B4}{σ:A1}{R:AV→A1→Prop}
theorem jm{s p:Ln}(h:Lib.hasPrefix s p=true):p.length≤s.length:=(List.isPrefixOf_iff_prefix.1 h).length_le
theorem pp{s p:Ln}(hs:s.length≤140737488355328)(hR:R (.pv (.bool (Lib.hasPrefix s p))) σ):A2 (cx w0) D7.id [.pv (.str s),.pv (.str p)] σ R:=by
 have fin:∀t,t=Lib.hasPrefix s p→D7.n4 (D7.X w0 σ.length) w0 σ.length R σ t:=by
  rintro t rfl
  refine D7.n4_in ?_
  rw[D7.b4_eq]
  exact D5 hR
 have e:=Lib.hasPrefix_of_take s p
 refine D7.calls ?_
 rw[D7.b0_eq,B0]
 refine B5 (fun g=>?_) (fun g=>fin _ ?_)
 ·refine A0 (Q5 (by omega)) (F4 (fin _ ?_))
  rw[← e,decide_eq_true (by omega),Bool.true_and]
 ·rw[← e,decide_eq_false (by omega),Bool.false_and]
theorem slCut_spec{s p:Ln}(hs:s.length≤140737488355328)(hR:R (.tup [.pv (.str (W1 s p).1),.pv (.bool (W1 s p).2)]) σ):A2 (cx w0) H2.id [.pv (.str s),.pv (.str p)] σ R:=by
 refine H2.calls ?_
 rw[H2.b0_eq]
 refine pp hs (E5 ?_)
 rw[E9]
 unfold W1 at hR
 refine A4 (fun g=>?_) (fun g=>?_)
 ·rw[if_pos g] at hR
  have hle:=jm g
  exact A0 (F5 hle) (F4 (D5 hR))
 ·rw[if_neg (by rw[g];decide)] at hR
  exact D5 hR
theorem fg{s p:Ln}(hs:s.length≤140737488355328)(hR:R (.tup [.pv (.str (W1 s p).1),.pv (.bool (W1 s p).2)]) σ):A2 (cx w0) E8.id [.pv (.str s),.pv (.str p)] σ R:=by
 refine E8.calls ?_
 rw[E8.b0_eq]
 refine slCut_spec hs ?_
 repeat ((with_reducible first|apply A0|apply wI|apply wT|apply wP|apply wS|apply wB);exact rfl)
 exact D5 hR
end
end Go.Sv.U
end
