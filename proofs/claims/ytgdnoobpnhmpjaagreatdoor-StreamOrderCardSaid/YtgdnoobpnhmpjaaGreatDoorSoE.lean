/- The reader of a patch text: a run of ed's commands. A text with its counts put right: the program's loop over its lines. stream.Parse: the sections' lines rise, a fault is not ahead of them. What the code of Go functions comes to over abstract stores, piece by piece; each equation by the kernel. Printed by a program of this session. The head of the Stream statements, worked out: 'works' is true. -/
import Derived.Test.YtgdnoobpnhmpjaaGreatDoorStQ
import Derived.Test.YtgdnoobpnhmpjaaGreatDoorSmR
import Derived.Test.YtgdnoobpnhmpjaaGreatDoorSvT
import Derived.KernelRfl
import Derived.Test.YtgdnoobpnhmpjaaGreatDoorStP
import Derived.Test.YtgdnoobpnhmpjaaGreatDoorUnQ
import Derived.Test.YtgdnoobpnhmpjaaGreatDoorUnP
import Derived.Test.YtgdnoobpnhmpjaaGreatDoorUnB
import Derived.Test.YtgdnoobpnhmpjaaGreatDoorNmP
import Derived.Test.YtgdnoobpnhmpjaaGreatDoorCxT
import Derived.Test.YtgdnoobpnhmpjaaGreatDoorFnG
import Derived.Test.YtgdnoobpnhmpjaaGreatDoorSmG
import Derived.Test.YtgdnoobpnhmpjaaGreatDoorSmI
import Derived.Test.YtgdnoobpnhmpjaaGreatDoorSmJ
set_option linter.unusedVariables false
set_option linter.unusedSimpArgs false
set_option maxRecDepth 100000
section
namespace Go.Sv.So
open Go Go.RowKit Go.Proofs
section
variable {w0:B4}{R:AV→A1→Prop}
theorem ln_mid{σ:A1}{i n off len lo hi:Nat}{ks:List Ln}{fz:Bool}(ho:σ[i]? = some (.arr 1 (ks.map PV.str) fz))(hn:ks.length=n)(h1:lo≤hi)(h2:hi≤len):G7 σ B3 J7.td (.arr i n off len) (some (.pv (.int .i64 (lo:Nat)))) (some (.pv (.int .i64 (hi:Nat))))=some (.arr i n (off+lo) (hi-lo)):=by
 show (if (0:Int)≤(lo:Int)∧(lo:Int)≤(hi:Int)∧(hi:Int)≤((len:Nat):Int) then (match B3 9,σ[i]? with
  | some ei,some (.arr es xs _)=>if xs.length=n∧es=ei.size then some (AV.arr i n (off+(lo:Int).toNat) ((hi:Int)-(lo:Int)).toNat) else none
  | _,_=>none) else none)=_
 rw[if_pos (by omega),ho,ju]
 simp only
 rw[if_pos ⟨by rw[List.length_map];exact hn,rfl⟩,Int.toNat_natCast,show ((hi:Int)-(lo:Int)).toNat=hi-lo by omega]
theorem ed_spec(Ld:Laid w0.w){ls:List Ln}(h:Ok ls){at_:Nat}{l:Ln}(gl:ls[at_]? = some l)(hd:(cm3 (H4 l)).2.2=true){ix:Ln}{out:List Sec}(ho:out.length≤8388610)
  (hG:∀(j:Nat) (s:Sec) Ly,1≤j→at_+j≤ls.length→s.ln=((at_+1:Nat):Int)→R (.tup []) (sT ls (at_+j) [] (out ++ [s]) Ly)):
  A2 (cx w0) stream_reader_ed.id [.ptr 1 0] (sT ls at_ ix out []) R:=by
 have hn:=h.n
 have hlt:=(List.getElem?_eq_some_iff.1 gl).1
 have h38:∀n:Nat,1≤n→at_+n≤ls.length→stream_reader_ed.n38 (stream_reader_ed.X w0 3) w0 3 R (sT ls at_ ix out []) (.ptr 1 0) (n:Nat):=by
  intro n h1 h2
  have hfl:((ls.drop (0+at_)).take (at_+n-at_)).flatten.length≤ls.flatten.length:=by
   rw[Nat.zero_add]
   have e1:=congrArg List.length (congrArg List.flatten (List.take_append_drop at_ ls))
   have e2:=congrArg List.length (congrArg List.flatten (List.take_append_drop (at_+n-at_) (ls.drop at_)))
   rw[List.flatten_append,List.length_append] at e1 e2
   omega
  have:=h.all
  refine stream_reader_ed.n38_in ?_
  rw[stream_reader_ed.b38_eq]
  repeat ((with_reducible first|apply A0|apply wI|apply wT|apply wP|apply wS|apply wB);exact rfl)
  rw[D8 (n:=((at_:Nat):Int)+((n:Nat):Int)) (by omega) (by omega),show ((at_:Nat):Int)+((n:Nat):Int)=((at_+n:Nat):Int) by omega]
  refine A0 (ln_mid (i:=0) (ks:=ls) (off:=0) (lo:=at_) (hi:=at_+n) rfl rfl (by omega) h2) ?_
  refine Join_spec (id:=0) (L:=ls) rfl rfl (by omega) (by omega) (by omega) ?_
  refine F4 (A0 (v:=.agg (secN ⟨4,[],[],[],[],[],[],((ls.drop (0+at_)).take (at_+n-at_)).flatten,0⟩)) rfl ?_)
  refine addN_spec h h2 ho rfl fun Ly=>?_
  exact D6 (by simp) (hG n _ Ly h1 h2 rfl)
 have main:∀f:Nat,(∀ n:Nat,at_+n≤ls.length→ls.length-(at_+n)≤f→(1≤n∨n=0)→stream_reader_ed.n4 (stream_reader_ed.X w0 3) w0 3 R (sT ls at_ ix out []) (.ptr 1 0) (n:Nat))∧(∀ (n:Nat) t,1≤n→at_+n≤ls.length→ls.length-(at_+n)≤f→stream_reader_ed.n19 (stream_reader_ed.X w0 3) w0 3 R (sT ls at_ ix out []) (.ptr 1 0) (n:Nat) t):=by
  intro f
  induction f using Nat.strongRecOn with
  | _ f ih0=>
  have ew:∀n:Nat,at_+n≤ls.length→IntKind.wrap .i64 (((n:Nat):Int)+1)=((n+1:Nat):Int):=fun n h=>by rw[D8 (by omega) (by omega)];omega
  have step4:(∀ (n:Nat) t,1≤n→at_+n≤ls.length→ls.length-(at_+n)<f→stream_reader_ed.n19 (stream_reader_ed.X w0 3) w0 3 R (sT ls at_ ix out []) (.ptr 1 0) (n:Nat) t) → ∀n:Nat,at_+n≤ls.length→ls.length-(at_+n)≤f→(1≤n∨n=0)→stream_reader_ed.n4 (stream_reader_ed.X w0 3) w0 3 R (sT ls at_ ix out []) (.ptr 1 0) (n:Nat):=by
   intro ih n hle hf hz
   refine stream_reader_ed.n4_in ?_
   rw[stream_reader_ed.b5_eq]
   refine W3 h (by omega) (by omega) ?_
   cases e:ls[at_+n]? with
   | none=>
    unfold nowV
    rw[e]
    have h1:1≤n:=by
     rcases hz with h1|rfl
     ·exact h1
     ·rw[Nat.add_zero,gl] at e;cases e
    repeat ((with_reducible first|apply A0|apply wI|apply wT|apply wP|apply wS|apply wB);exact rfl)
    refine ar Ld (s:=[]) (by simp) ?_
    repeat ((with_reducible first|apply A0|apply wI|apply wT|apply wP|apply wS|apply wB);exact rfl)
    refine A4 (fun _=>?_) (fun h=>absurd h (by decide))
    refine stream_reader_ed.n13_in ?_
    rw[stream_reader_ed.b13_eq,D4]
    exact h38 n h1 hle
   | some x=>
    have hl2:=(List.getElem?_eq_some_iff.1 e).1
    have hx:=h.len (List.mem_of_getElem? e)
    have hb:=ml x
    unfold nowV
    rw[e]
    repeat ((with_reducible first|apply A0|apply wI|apply wT|apply wP|apply wS|apply wB);exact rfl)
    refine ar Ld (s:=H4 x) (by omega) ?_
    repeat ((with_reducible first|apply A0|apply wI|apply wT|apply wP|apply wS|apply wB);exact rfl)
    refine A4 (fun h=>absurd h (by simp)) (fun _=>?_)
    refine stream_reader_ed.n13_in ?_
    rw[stream_reader_ed.b13_eq]
    refine A4 (fun g=>?_) (fun _=>?_)
    ·refine h38 n ?_ hle
     rcases hz with h1|rfl
     ·exact h1
     ·rw[Nat.add_zero,gl] at e
      cases e
      rw[cm3_first hd] at g
      cases g
    ·rw[ew n hle]
     exact ih (n+1) _ (by omega) (by omega) (by omega)
  have step19:(∀ n:Nat,at_+n≤ls.length→ls.length-(at_+n)≤f→(1≤n∨n=0)→stream_reader_ed.n4 (stream_reader_ed.X w0 3) w0 3 R (sT ls at_ ix out []) (.ptr 1 0) (n:Nat))→(∀ (n:Nat) t,1≤n→at_+n≤ls.length→ls.length-(at_+n)<f→stream_reader_ed.n19 (stream_reader_ed.X w0 3) w0 3 R (sT ls at_ ix out []) (.ptr 1 0) (n:Nat) t) → ∀(n:Nat) t,1≤n→at_+n≤ls.length→ls.length-(at_+n)≤f→stream_reader_ed.n19 (stream_reader_ed.X w0 3) w0 3 R (sT ls at_ ix out []) (.ptr 1 0) (n:Nat) t:=by
   intro h4 ih n t h1 hle hf
   refine stream_reader_ed.n19_in ?_
   rw[stream_reader_ed.b20_eq]
   refine A4 (fun _=>?_) (fun _=>h4 n hle hf (.inl h1))
   refine W3 h (by omega) (by omega) ?_
   cases e:ls[at_+n]? with
   | none=>
    unfold nowV
    rw[e]
    repeat ((with_reducible first|apply A0|apply wI|apply wT|apply wP|apply wS|apply wB);exact rfl)
    exact A4 (fun _=>h4 n hle hf (.inl h1)) (fun h=>absurd h (by decide))
   | some x=>
    have hl2:=(List.getElem?_eq_some_iff.1 e).1
    unfold nowV
    rw[e]
    repeat ((with_reducible first|apply A0|apply wI|apply wT|apply wP|apply wS|apply wB);exact rfl)
    refine A4 (fun h=>absurd h (by simp)) (fun _=>?_)
    rw[ew n hle]
    exact ih (n+1) _ (by omega) (by omega) (by omega)
  have ih:∀(n:Nat) t,1≤n→at_+n≤ls.length→ls.length-(at_+n)<f→stream_reader_ed.n19 (stream_reader_ed.X w0 3) w0 3 R (sT ls at_ ix out []) (.ptr 1 0) (n:Nat) t:=fun n t h1 h2 h3=>(ih0 _ h3).2 n t h1 h2 (Nat.le_refl _)
  have a:=step4 ih
  exact ⟨a,step19 a ih⟩
 refine stream_reader_ed.calls ?_
 rw[stream_reader_ed.b0_eq]
 exact (main ls.length).1 0 (by omega) (by omega) (.inr rfl)
end
end Go.Sv.So
end
section
namespace Go.Sv
open Go Go.RowKit Go.Proofs
section
variable {w0:B4}{P:AV→Prop}
theorem ln_store{σ:A1}{i n:Nat}{ks:List Ln}(ho:σ[i]? = some (.arr 1 (ks.map PV.str) false))(hn:ks.length=n){j:Nat}{s t:Ln}(hj:ks[j]? = some s):C2 σ ti9 (.eptr i n j 0) (.pv (.str t))=some (σ.set i (.arr 1 ((ks.set j t).map PV.str) false)):=by
 have hg:(ks.map PV.str)[j]? = some (PV.str s):=by rw[List.getElem?_map,hj];rfl
 show (if 1=1∧true=true then (match σ[i]?,some [PV.str t] with
   | some (.arr es xs false),some ps=>
    if xs.length=n then match xs[j]? with
     | some (.agg cs)=>if 0+ps.length≤cs.length then some (σ.set i (.arr es (xs.set j (.agg (P1 cs 0 ps))) false)) else none
     | some _=>match ps with
      | [q]=>if 0=0 then some (σ.set i (.arr es (xs.set j q) false)) else none
      | _=>none
     | none=>none
    else none
   | _,_=>none) else none)=_
 rw[if_pos ⟨rfl,rfl⟩,ho]
 simp only[if_pos (show (ks.map PV.str).length=n by rw[List.length_map];exact hn),hg]
 simp only[if_true]
 rw[show (ks.map PV.str).set j (PV.str t)=(ks.set j t).map PV.str from List.map_set.symm]
end
end Go.Sv
end
section
namespace Go.Sv.So
open Go Go.RowKit Go.Proofs
theorem tj:∀s:Ln,(∀ l∈E4 s,bv l=true) ∧ ∀l∈(E4 s).dropLast,P6 l=true
 | []=>⟨nofun,nofun⟩
 | c::r=>by
  obtain ⟨h1,h2⟩:=tj r
  unfold E4
  split
  ·rename_i hc
   refine ⟨fun l hl=>?_,fun l hl=>?_⟩
   ·rcases List.mem_cons.1 hl with rfl|hl
    ·rfl
    ·exact h1 l hl
   ·cases e:E4 r with
    | nil=>rw[e] at hl;cases hl
    | cons x xs=>
     rw[e,List.dropLast_cons_of_ne_nil (by simp)] at hl
     rcases List.mem_cons.1 hl with rfl|hl
     ·rfl
     ·rw[e] at h2;exact h2 l hl
  ·rename_i hc
   split
   ·refine ⟨fun l hl=>?_,fun l hl=>by cases hl⟩
    rw[List.mem_singleton] at hl
    subst hl;rfl
   ·rename_i x xs e
    rw[e] at h1 h2
    have hx:=h1 x (by simp)
    have hxne:x ≠ []:=fun h=>by subst h;cases hx
    refine ⟨fun l hl=>?_,fun l hl=>?_⟩
    ·rcases List.mem_cons.1 hl with rfl|hl
     ·unfold bv at hx ⊢
      rw[List.dropLast_cons_of_ne_nil hxne]
      simp only[Bool.and_eq_true,Bool.not_eq_true',beq_eq_false_iff_ne,ne_eq,List.contains_cons,Bool.or_eq_false_iff,reduceCtorEq,not_false_eq_true,true_and] at hx ⊢
      exact ⟨fun h=>hc h.symm,hx.2⟩
     ·exact h1 l (List.mem_cons_of_mem _ hl)
    ·cases xs with
     | nil=>cases hl
     | cons y ys=>
      rw[List.dropLast_cons_of_ne_nil (by simp)] at h2 hl
      rcases List.mem_cons.1 hl with rfl|hl
      ·obtain ⟨d,q,rfl⟩:=List.exists_cons_of_ne_nil hxne
       have:=h2 (d::q) (by simp)
       unfold P6 at this ⊢
       simpa using this
      ·exact h2 l (List.mem_cons_of_mem _ hl)
def lsO(s:Ln):List Ln:=U.wholeL (E4 s)
theorem lsO_len(s:Ln):(lsO s).length=(E4 s).length:=by
 unfold lsO U.wholeL
 split
 ·rfl
 ·rename_i l e
  split
  ·rfl
  ·rw[List.length_append,List.length_dropLast,List.length_singleton]
   have:E4 s ≠ []:=fun h=>by rw[h] at e;cases e
   have:=List.length_pos_iff.2 this
   omega
theorem lsO_WL(s:Ln):U.WL (lsO s):=by
 obtain ⟨h1,h2⟩:=tj s
 unfold lsO U.wholeL
 split
 ·rename_i e
  rw[List.getLast?_eq_none_iff.1 e]
  exact ⟨nofun,nofun⟩
 ·rename_i l e
  obtain ⟨L,hL⟩:=List.getLast?_eq_some_iff.1 e
  rw[hL] at h1 h2 ⊢
  rw[List.dropLast_concat] at h2
  have hl:=h1 l (by simp)
  split
  ·rename_i hw
   refine ⟨h1,fun x hx=>?_⟩
   rcases List.mem_append.1 hx with hx|hx
   ·exact h2 x hx
   ·rw[List.mem_singleton] at hx;subst hx;exact hw
  ·rename_i hw
   rw[List.dropLast_concat]
   refine ⟨fun x hx=>?_,fun x hx=>?_⟩
   ·rcases List.mem_append.1 hx with hx|hx
    ·exact h1 x (List.mem_append_left _ hx)
    ·rw[List.mem_singleton] at hx
     subst hx
     unfold bv at hl ⊢
     rw[List.dropLast_concat]
     have hn:l ≠ []:=fun h=>by subst h;cases hl
     obtain ⟨p,c,hpc⟩:=(List.eq_nil_or_concat l).resolve_left hn
     rw[List.concat_eq_append] at hpc
     subst hpc
     have hc:c≠10:=fun h=>hw (by subst h;simp[P6])
     rw[List.dropLast_concat] at hl
     simp only[Bool.and_eq_true,Bool.not_eq_true',List.contains_eq_mem,decide_eq_false_iff_not,List.mem_append,List.mem_singleton,not_or] at hl ⊢
     exact ⟨by simp,hl.2,fun h=>hc h.symm⟩
   ·rcases List.mem_append.1 hx with hx|hx
    ·exact h2 x hx
    ·rw[List.mem_singleton] at hx
     subst hx
     simp[P6]
theorem lsO_flat(s:Ln):(lsO s).flatten.length≤s.length+1:=by
 have h:=congrArg List.length (S4 s)
 unfold lsO U.wholeL
 split
 ·omega
 ·rename_i l e
  obtain ⟨L,hL⟩:=List.getLast?_eq_some_iff.1 e
  rw[hL] at h ⊢
  split
  ·omega
  ·rw[List.dropLast_concat]
   simp only[List.flatten_append,List.length_append,List.flatten_cons,List.flatten_nil,List.length_nil,List.length_cons] at h ⊢
   omega
theorem lsO_ok{s:Ln}(h:s.length≤4194304):Ok (lsO s):=by
 have h1:=lsO_flat s
 have h2:=fq s
 exact ⟨by rw[lsO_len];omega,lsO_WL s,by omega⟩
def Rise(last:Int):List Sec→Prop
 | []=>True
 | s::r=>last<s.ln∧Rise s.ln r
theorem Rise.add{s:Sec}:∀{L:List Sec} {a:Int},Rise a L→a<s.ln→(∀ x∈L,x.ln<s.ln)→Rise a (L ++ [s])
 | [],a,_,h,_=>⟨h,trivial⟩
 | x::L,a,h,_,hb=>⟨h.1,Rise.add h.2 (hb x (by simp)) fun y hy=>hb y (List.mem_cons_of_mem _ hy)⟩
inductive vd(n:Nat):AV→Prop
 | good (out:List Sec) (h:Rise 0 out) (hb:∀s∈out,s.ln≤n) (hn:out.length≤n):vd n (.tup [.pv (.sl (out.map fy)),.pv (.int .i64 0),.pv (.raw .nilIface)])
 | bad (out:List Sec) (h:Rise 0 out) (hb:∀s∈out,s.ln≤n) (hn:out.length≤n) (line e:Int) (h1:e=2∨(0<line ∧ ∀s∈out,s.ln<line)):vd n (.tup [.pv (.sl (out.map fy)),.pv (.int .i64 line),.pv (.iface 61 (.int .i64 e))])
theorem vd.under{n:Nat}{r:AV}(h:vd n r):AV.under 0 r=true:=by cases h<;>rfl
structure Inv(at_:Nat)(out:List Sec):Prop where
 r:Rise 0 out
 b:∀s∈out,s.ln≤at_
 n:out.length≤at_
theorem Inv.add{at_ j:Nat}{out:List Sec}{s:Sec}(h:Inv at_ out)(h1:1≤j)(hs:s.ln=((at_+1:Nat):Int)):Inv (at_+j) (out ++ [s]):=by
 refine ⟨h.r.add (by omega) fun x hx=>by have:=h.b x hx;omega,fun x hx=>?_,by have:=h.n;simp;omega⟩
 rcases List.mem_append.1 hx with hx|hx
 ·have:=h.b x hx;omega
 ·rw[List.mem_singleton] at hx;subst hx;omega
section
variable {w0:B4}
theorem wh{ls:List Ln}{at_:Nat}{ix:Ln}{out:List Sec}{Lx:A1}{R:AV→A1→Prop}(ps:List PV)(hR:R (.tup (.pv (.sl (out.map fy))::ps.map AV.pv)) []):D9 (cx w0) 0 (.tup (.arr 2 out.length 0 out.length::ps.map AV.pv)) (sT ls at_ ix out Lx) R:=
 N1 (σ:=[]) (L:=_) L5 rfl (Nm.seal_first (σ:=sT ls at_ ix out Lx) (k:=0) (id:=2) (es:=9) (n:=out.length) (xs:=out.map fy) ps rfl (List.length_map ..) rfl) hR
theorem rf(Ld:Laid w0.w){ls:List Ln}(h:Ok ls):∀(q at_:Nat) (ix:Ln) (out:List Sec),ls.length-at_≤q→at_≤ls.length→Inv at_ out→stream_Parse.n21 (stream_Parse.X w0 0) w0 0 (fun r' _=>vd ls.length r') (sT ls at_ ix out []) (.ptr 1 0):=by
 intro q
 induction q with
 | zero=>
  intro at_ ix out hq hat hi
  have hn:=h.n
  have:=hi.n
  refine stream_Parse.n21_in ?_
  rw[stream_Parse.b22_eq]
  refine W3 (a:=0) h hat (by omega) ?_
  unfold nowV
  rw[List.getElem?_eq_none (by omega)]
  repeat ((with_reducible first|apply A0|apply wI|apply wT|apply wP|apply wS|apply wB);exact rfl)
  refine A4 (fun _=>?_) (fun h=>absurd h (by decide))
  repeat ((with_reducible first|apply A0|apply wI|apply wT|apply wP|apply wS|apply wB);exact rfl)
  exact wh [.int .i64 0,.raw .nilIface] (.good out hi.r (fun s hs=>by have:=hi.b s hs;omega) (by omega))
 | succ q ih=>
  intro at_ ix out hq hat hi
  have hn:=h.n
  have hon:=hi.n
  refine stream_Parse.n21_in ?_
  rw[stream_Parse.b22_eq]
  refine W3 (a:=0) h hat (by omega) ?_
  unfold nowV
  rw[Nat.add_zero]
  cases gl:ls[at_]? with
  | none=>
   repeat ((with_reducible first|apply A0|apply wI|apply wT|apply wP|apply wS|apply wB);exact rfl)
   refine A4 (fun _=>?_) (fun h=>absurd h (by decide))
   repeat ((with_reducible first|apply A0|apply wI|apply wT|apply wP|apply wS|apply wB);exact rfl)
   exact wh [.int .i64 0,.raw .nilIface] (.good out hi.r (fun s hs=>by have:=hi.b s hs;omega) (by omega))
  | some l=>
   have hlt:=(List.getElem?_eq_some_iff.1 gl).1
   have hll:=h.len (List.mem_of_getElem? gl)
   have hbl:=ml l
   have hE:∀(n e:Int) (Ly:A1),e=2∨1≤n→0≤n→n≤8388610→stream_Parse.n56 (stream_Parse.X w0 0) w0 0 (fun r' _=>vd ls.length r') (sT ls at_ ix out Ly) (.ptr 1 0) ((at_:Nat)+n) (.pv (.iface 61 (.int .i64 e))):=by
    intro n e Ly h1 h2 h3
    refine stream_Parse.n56_in ?_
    rw[stream_Parse.b56_eq,P2]
    refine A0 rfl (A0 (v:=false) rfl (E5 ?_))
    refine A4 (fun _=>?_) (fun h=>absurd h (by decide))
    repeat ((with_reducible first|apply A0|apply wI|apply wT|apply wP|apply wS|apply wB);exact rfl)
    refine wh [.int .i64 ((at_:Nat)+n),.iface 61 (.int .i64 e)] (.bad out hi.r (fun s hs=>by have:=hi.b s hs;omega) (by omega) _ _ ?_)
    rcases h1 with h1|h1
    ·exact .inl h1
    ·exact .inr ⟨by omega,fun s hs=>by have:=hi.b s hs;omega⟩
   have hN:∀(j:Nat) (ix':Ln) (out':List Sec) (Ly:A1),1≤j→at_+j≤ls.length→Inv (at_+j) out'→stream_Parse.n56 (stream_Parse.X w0 0) w0 0 (fun r' _=>vd ls.length r') (sT ls (at_+j) ix' out' Ly) (.ptr 1 0) 0 (.pv (.raw .nilIface)):=by
    intro j ix' out' Ly h1 h2 hi'
    refine stream_Parse.n56_in ?_
    rw[stream_Parse.b56_eq,P2]
    refine A0 rfl (A0 (v:=true) rfl (E5 ?_))
    refine A4 (fun h=>absurd h (by decide)) (fun _=>?_)
    refine stream_Parse.n21_weak (r':=.ptr 1 0) (τ:=sT ls (at_+j) ix' out' []) (N2.drop (τ:=sT ls (at_+j) ix' out' []) (L:=Ly) L5 (Nat.zero_le _) rfl rfl) ?_
    exact ih (at_+j) ix' out' (by omega) h2 hi'
   have hG:∀(j:Nat) (s:Sec) (Ly:A1),1≤j→at_+j≤ls.length→s.ln=((at_+1:Nat):Int)→stream_Parse.n56 (stream_Parse.X w0 0) w0 0 (fun r' _=>vd ls.length r') (sT ls (at_+j) [] (out ++ [s]) Ly) (.ptr 1 0) 0 (.pv (.raw .nilIface)):=fun j s Ly h1 h2 h3=>hN j [] (out ++ [s]) Ly h1 h2 (hi.add h1 h3)
   have hfl:(ls.drop at_).flatten.length≤8388600:=by
    have e1:=congrArg List.length (congrArg List.flatten (List.take_append_drop at_ ls))
    rw[List.flatten_append,List.length_append] at e1
    have:=h.all
    omega
   have hwl:=h.wl.drop at_
   have hdl:(ls.drop at_).length≤8388600:=by rw[List.length_drop];omega
   repeat ((with_reducible first|apply A0|apply wI|apply wT|apply wP|apply wS|apply wB);exact rfl)
   refine A4 (fun h=>absurd h (by simp)) (fun _=>?_)
   refine begins_spec Ld h hat (s:=H4 l) (by omega) fun f hf1 hf4=>G2 ?_
   refine A4 (fun _=>?_) (fun _=>?_)
   ·refine pg h hat (by omega) (fun R hR=>U.Parse_spec Ld (by omega) fun w hw=>hR w (U.unified_rel hwl hw)) (fun n e Ly h1 h2 h3=>?_) (fun j s Ly h1 h2 h3=>?_)
    ·repeat ((with_reducible first|apply A0|apply wI|apply wT|apply wP|apply wS|apply wB);exact rfl)
     exact hE n e Ly h1 h2 h3
    ·repeat ((with_reducible first|apply A0|apply wI|apply wT|apply wP|apply wS|apply wB);exact rfl)
     exact hG j s Ly h1 h2 h3
   refine A4 (fun _=>?_) (fun _=>?_)
   ·refine pg h hat (by omega) (fun R hR=>U.Parse_spec12 Ld (by omega) fun w hw=>hR w (U.context_rel hwl hdl hw)) (fun n e Ly h1 h2 h3=>?_) (fun j s Ly h1 h2 h3=>?_)
    ·repeat ((with_reducible first|apply A0|apply wI|apply wT|apply wP|apply wS|apply wB);exact rfl)
     exact hE n e Ly h1 h2 h3
    ·repeat ((with_reducible first|apply A0|apply wI|apply wT|apply wP|apply wS|apply wB);exact rfl)
     exact hG j s Ly h1 h2 h3
   refine A4 (fun g=>?_) (fun _=>?_)
   ·refine plain_spec Ld h gl (hf1 (by simpa using g)) (by omega) (fun n e Ly h1 h2 h3=>?_) (fun j s Ly h1 h2 h3=>?_)
    ·repeat ((with_reducible first|apply A0|apply wI|apply wT|apply wP|apply wS|apply wB);exact rfl)
     exact hE n e Ly h1 h2 h3
    ·repeat ((with_reducible first|apply A0|apply wI|apply wT|apply wP|apply wS|apply wB);exact rfl)
     exact hG j s Ly h1 h2 h3
   refine A4 (fun g=>?_) (fun _=>?_)
   ·refine ed_spec Ld h gl (hf4 (by simpa using g)) (by omega) (fun j s Ly h1 h2 h3=>?_)
    exact hG j s Ly h1 h2 h3
   ·refine note_spec (s:=H4 l) Ld h hlt (by omega) fun ix'=>?_
    exact hN 1 ix' out [] (by omega) (by omega) ⟨hi.r,fun s hs=>by have:=hi.b s hs;omega,by omega⟩
theorem oe{s l:Ln}(h:l∈E4 s):l.length≤s.length:=by
 have:=U.mem_flatten_len h
 rwa [S4] at this
def ordN(text:Ln):Nat:=if 4194304<text.length then 0 else (E4 text).length
theorem Parse_ord{σ:A1}{R:AV→A1→Prop}(Ld:Laid w0.w){text:Ln}(hR:∀w,vd (ordN text) w→R w σ):A2 (cx w0) stream_Parse.id [.pv (.str text)] σ R:=by
 refine A2.some_of (P:=vd (ordN text)) Ld rfl (fun w1 L1=>?_) (fun r h=>h.under) hR
 refine stream_Parse.calls ?_
 rw[stream_Parse.b0_eq,B0]
 refine B5 (fun g=>?_) (fun g=>?_)
 ·repeat ((with_reducible first|apply A0|apply wI|apply wT|apply wP|apply wS|apply wB);exact rfl)
  exact N1 (σ:=[]) (L:=[]) L5 rfl rfl (.bad [] trivial nofun (Nat.zero_le _) 0 2 (.inl rfl))
 ·have hOk:=lsO_ok (s:=text) (by omega)
  rw[show ordN text=(E4 text).length from if_neg (by omega)]
  have hsl:=fq text
  have hll:=lsO_len text
  have h20:∀ls,ls=lsO text→stream_Parse.n20 (stream_Parse.X w1 0) w1 0 (fun r' _=>vd (E4 text).length r') [.arr 1 (ls.map PV.str) false,.cells 66 [.arr 0 ls.length 0 ls.length,.pv (.int .i64 0),.pv (.str []),.nilsl]] (.ptr 1 0):=by
   rintro ls rfl
   refine stream_Parse.n20_in ?_
   rw[stream_Parse.b20_eq]
   refine stream_Parse.n21_weak (r':=.ptr 1 0) (τ:=sT (lsO text) 0 [] [] []) (N2.cellNil (id:=1) (es:=9) (pre:=[.arr 0 (lsO text).length 0 (lsO text).length,.pv (.int .i64 0),.pv (.str [])]) (post:=[]) rfl) ?_
   rw[← hll]
   exact rf L1 hOk (lsO text).length 0 [] [] (by omega) (Nat.zero_le _) ⟨trivial,nofun,Nat.zero_le _⟩
  refine gh (by omega) ?_
  generalize hls:E4 text=ls at *
  refine A0 (v:=.agg [lnA ls,.pv (.int .i64 0),.pv (.str []),.nilsl]) rfl ⟨rfl,?_⟩
  repeat ((with_reducible first|apply A0|apply wI|apply wT|apply wP|apply wS|apply wB);exact rfl)
  have h17:∀b,(b=true → ∃l,ls.getLast? = some l∧P6 l=false)→(b=false→lsO text=ls)→stream_Parse.n17 (stream_Parse.X w1 0) w1 0 (fun r' _=>vd ls.length r') [.arr 1 (ls.map PV.str) false,.cells 66 [.arr 0 ls.length 0 ls.length,.pv (.int .i64 0),.pv (.str []),.nilsl]] (.ptr 1 0) (ls.length:Nat) b:=by
   intro b ht hf
   refine stream_Parse.n17_in ?_
   rw[stream_Parse.b17_eq]
   refine A4 (fun hb=>?_) (fun hb=>h20 ls (hf hb).symm)
   obtain ⟨l,e,hw⟩:=ht hb
   have hpos:0<ls.length:=List.length_pos_iff.2 fun h=>by rw[h] at e;cases e
   have gl:ls[ls.length-1]? = some l:=by rw[← List.getLast?_eq_getElem?];exact e
   repeat ((with_reducible first|apply A0|apply wI|apply wT|apply wP|apply wS|apply wB);exact rfl)
   rw[D8 (n:=((ls.length:Nat):Int)-1) (by omega) (by omega),show ((ls.length:Nat):Int)-1=((ls.length-1:Nat):Int) by omega]
   refine A0 (gg (i:=0) (ks:=ls) (off:=0) rfl rfl (by omega)) ?_
   refine A0 (Z1 (i:=0) (ks:=ls) rfl rfl (by rw[Nat.zero_add];exact gl)) (F4 ⟨?_,?_⟩)
   ·have:=oe (s:=text) (l:=l) (by rw[hls];exact List.mem_of_getLast? e)
    simp only[List.length_singleton];omega
   refine A0 (gg (i:=0) (ks:=ls) (off:=0) rfl rfl (by omega)) ?_
   refine A0 (ln_store (i:=0) (ks:=ls) rfl rfl (by rw[Nat.zero_add];exact gl)) ?_
   have e2:ls.set (0+(ls.length-1)) (l ++ [10])=lsO text:=by
    unfold lsO U.wholeL
    rw[hls,e]
    simp only[hw,Bool.false_eq_true,if_false]
    obtain ⟨L,hL⟩:=List.getLast?_eq_some_iff.1 e
    subst hL
    simp
   have:=h20 (ls.set (0+(ls.length-1)) (l ++ [10])) e2
   rw[List.length_set] at this
   exact this
  cases e:ls.getLast? with
  | none=>
   have e0:ls = []:=List.getLast?_eq_none_iff.1 e
   refine A4 (fun h=>?_) (fun _=>h17 false nofun fun _=>?_)
   ·rw[e0] at h;exact absurd h (by decide)
   ·unfold lsO U.wholeL
    rw[hls,e]
  | some l=>
   have hpos:0<ls.length:=List.length_pos_iff.2 fun h=>by rw[h] at e;cases e
   have gl:ls[ls.length-1]? = some l:=by rw[← List.getLast?_eq_getElem?];exact e
   have hlm:=oe (s:=text) (l:=l) (by rw[hls];exact List.mem_of_getLast? e)
   refine A4 (fun _=>?_) (fun h=>?_)
   ·repeat ((with_reducible first|apply A0|apply wI|apply wT|apply wP|apply wS|apply wB);exact rfl)
    rw[D8 (n:=((ls.length:Nat):Int)-1) (by omega) (by omega),show ((ls.length:Nat):Int)-1=((ls.length-1:Nat):Int) by omega]
    refine A0 (gg (i:=0) (ks:=ls) (off:=0) rfl rfl (by omega)) ?_
    refine A0 (Z1 (i:=0) (ks:=ls) rfl rfl (by rw[Nat.zero_add];exact gl)) (F4 ?_)
    refine bz (by omega) (E5 (h17 _ (fun hb=>⟨l,e,by simpa using hb⟩) fun hb=>?_))
    unfold lsO U.wholeL
    rw[hls,e]
    simp only
    rw[if_pos (by simpa using hb)]
   ·have:=of_decide_eq_false h
    omega
end
end Go.Sv.So
end
section
namespace Go.Sv
attribute [local irreducible] A5 V7 xr
open Go Go.Proofs
namespace H5
def lvs:List (List Nat):=[[],[],[],[],[1,2,3],[1,2,3],[1,2,3,4,5,6],[1,2,3,4,5,6],[0]]
def lv:Nat→List Nat:=J8 lvs
noncomputable def code:Code:=F0 Tryz.f10
noncomputable def fe:FE:=⟨Tryz.f10,code,lv⟩
theorem ok(w0:B4):FOK (cx w0) H5.id fe:=⟨Tryz.func10,by kernel_rfl,by kernel_rfl⟩
end H5
namespace M5
def lvs:List (List Nat):=[[0,1],[0,1],[0,1],[0,1],[0,1],[0,1],[0,1],[0,1],[0,1,13],[0,1],[0],[0,1],[0,1],[0],[0],[4]]
def lv:Nat→List Nat:=J8 lvs
noncomputable def code:Code:=F0 Tryz.f109
noncomputable def fe:FE:=⟨Tryz.f109,code,lv⟩
theorem ok(w0:B4):FOK (cx w0) M5.id fe:=⟨Tryz.func109,by kernel_rfl,by kernel_rfl⟩
end M5
namespace K7
def lvs:List (List Nat):=[[0,1],[0,1],[0,1],[0,1],[4]]
def lv:Nat→List Nat:=J8 lvs
noncomputable def code:Code:=F0 Tryz.f92
noncomputable def fe:FE:=⟨Tryz.f92,code,lv⟩
theorem ok(w0:B4):FOK (cx w0) K7.id fe:=⟨Tryz.func92,by kernel_rfl,by kernel_rfl⟩
end K7
namespace W6
def lvs:List (List Nat):=[[0,1],[0,1],[0,1],[0,1],[4]]
def lv:Nat→List Nat:=J8 lvs
noncomputable def code:Code:=F0 Tryz.f132
noncomputable def fe:FE:=⟨Tryz.f132,code,lv⟩
theorem ok(w0:B4):FOK (cx w0) W6.id fe:=⟨Tryz.func132,by kernel_rfl,by kernel_rfl⟩
end W6
namespace O0
def lvs:List (List Nat):=[[0,1],[0,1],[0,1],[0,1],[0,1,5],[0,1,5],[0,1,5],[0,1,5],[0,1,5,16],[],[],[4],[0,1,5],[0,1,5],[0,1,5,24],[0,1],[0,1],[4],[0,1,5],[0,1,5],[0,1,5,31],[],[],[4],[0,1,5],[0,1,5],[0,1,5,36],[0,1],[0,1],[4],[0,1,5],[0,1,5],[0,1,5],[0,1,5,6],[0,1,5,6],[0,1,5,6,7],[0,1,5,6,7],[0,1,5,6,7,8],[0,1,5,6,7,8],[0,1,5,6,7,8,9],[0,1,5,6,7,8,9],[0,1,5,6,7,8,9,10],[0,1,5,6,7,8,9,10],[0,1,5,6,7,8,9,10],[0,1,5,6,7,8,9,10],[0,1,5,6,7,8,9,10],[0,1,5,6,7,8,9,10],[0,1,5,6,7,8,9,10,59],[0,1,5,6,7,8,9,10],[],[0,1,5,6,7,8,9,10],[0,1,5,6,7,8,9,10],[0,1,5,6,7,8,9,10],[0,1,5,6,7,8,9,10],[0,1,5,6,7,8,9,10,64],[0,1,5,6,7,8,9,10],[0,1,5,6,7,8,9,10],[0,1,5,6,7,8,9,10,11],[0,1,5,6,7,8,9,10,11],[0,1,5,6,7,8,9,10,11],[0,1,5,6,7,8,9,10,11,73],[],[],[4],[0,1,5,6,7,8,9,10,11],[0,1,5,6,7,8,9,10,11],[0,1,5,6,7,8,9,10],[0,1,5,6,7,8,9,10],[0,1,5,6,7,8,9,10],[0,1,5,6,7,8,9,10],[0,1,5,6,7,8,9,10,93],[8],[8],[4],[0,1,5,6,7,8,9,10],[0,1,5,6,7,8,9,10],[0,1,5,6,7,8,9,10],[0,1,5,6,7,8,9,10],[0,1,5,6,7,8,9,10],[0,1,5,6,7,8,9,10],[0,1,5,6,7,8,9,10],[0,1,5,6,7,8,9,10,107],[0,1,8],[0,1,8],[8,12],[8,12],[8,12],[8,12,114],[8,12],[8,12],[4],[],[],[],[4],[0,1,5,6,7,8,9,10],[0,1,5,6,7,8,9,10],[0,1,5,6,7,8,9,10,132],[0,1,8],[0,1,8],[8,13],[8,13],[8,13],[8,13,139],[],[],[4],[8,13],[8,13],[8,13],[4],[0,1,5,6,7,8,9,10],[],[],[4]]
def lv:Nat→List Nat:=J8 lvs
noncomputable def code:Code:=F0 Tryz.f161
noncomputable def fe:FE:=⟨Tryz.f161,code,lv⟩
theorem ok(w0:B4):FOK (cx w0) O0.id fe:=⟨Tryz.func161,by kernel_rfl,by kernel_rfl⟩
end O0
namespace Q0
def lvs:List (List Nat):=[[0,1],[0,1],[0,1],[0,1],[4]]
def lv:Nat→List Nat:=J8 lvs
noncomputable def code:Code:=F0 Tryz.f88
noncomputable def fe:FE:=⟨Tryz.f88,code,lv⟩
theorem ok(w0:B4):FOK (cx w0) Q0.id fe:=⟨Tryz.func88,by kernel_rfl,by kernel_rfl⟩
end Q0
namespace strconv_Atoi
def lvs:List (List Nat):=[[0],[0],[0],[0],[0,4,5],[0,4,5],[0,4,5],[0,4,5,12],[0,4,5],[0,4,5],[2,3],[4],[4],[4],[2,3]]
def lv:Nat→List Nat:=J8 lvs
noncomputable def code:Code:=F0 Tryz.f124
noncomputable def fe:FE:=⟨Tryz.f124,code,lv⟩
theorem ok(w0:B4):FOK (cx w0) strconv_Atoi.id fe:=⟨Tryz.func124,by kernel_rfl,by kernel_rfl⟩
end strconv_Atoi
namespace P9
def lvs:List (List Nat):=[[0],[0],[0],[0],[0,4],[0,4],[0,4],[0,30],[0],[0],[0,5],[0,5],[0,5],[0,5,39],[0,5],[0,5],[0,5],[0,5],[0,5,44],[],[],[2,3],[0,5],[0,5],[0,5],[0,5],[0,5,6],[0,5,6],[0,5,6],[5,6,47,48,49],[5,6,47,48,49],[5,6,47,48,49],[5,6,47,48,49],[5,6,47,48,49,50],[5,6,47,48,49,50],[5,6,47,48,49],[5,6],[5,6,47,48,49],[5,6,47,48,49],[5,6,47,48,49],[5,6,47,48,49],[5,6,8,47,48,49],[5,6,8,47,48,49],[5,6,8,47,48,49],[5,6,8,47,48,49],[5,6,8,47,48,49],[5,6,8,47,48,49,56],[],[],[2,3],[5,6,8,47,48,49],[5,6,8,47,48,49],[5,6,47,48,49],[5,6],[5,6],[5,6],[6,66],[6],[6],[6],[6],[2,3],[0],[0],[0],[9,10],[9,10],[2,3]]
def lv:Nat→List Nat:=J8 lvs
noncomputable def code:Code:=F0 Tryz.f156
noncomputable def fe:FE:=⟨Tryz.f156,code,lv⟩
theorem ok(w0:B4):FOK (cx w0) P9.id fe:=⟨Tryz.func156,by kernel_rfl,by kernel_rfl⟩
end P9
end Go.Sv
end
section
namespace Go.Sv
open Go Go.RowKit Go.Proofs
noncomputable def feW:List (FuncId×FE):=[(H5.id,H5.fe),(stream_Parse.id,stream_Parse.fe),(stream_reader_now.id,stream_reader_now.fe),(stream_reader_begins.id,stream_reader_begins.fe),(stream_reader_named.id,stream_reader_named.fe),(stream_reader_plain.id,stream_reader_plain.fe),(stream_reader_ed.id,stream_reader_ed.fe),(stream_reader_note.id,stream_reader_note.fe),(stream_command.id,stream_command.fe),(stream_reader_starts.id,stream_reader_starts.fe),(stream_change.id,stream_change.fe),(stream_reader_text.id,stream_reader_text.fe),(stream_reader_add.id,stream_reader_add.fe),(stream_reader_taken.id,stream_reader_taken.fe),(L9.id,L9.fe),(G3.id,G3.fe),(R4.id,R4.fe),(G8.id,G8.fe),(normal_Parse.id,normal_Parse.fe),(normal_command.id,normal_command.fe),(normal_reader_take.id,normal_reader_take.fe),(normal_follows.id,normal_follows.fe),(normal_ranged.id,normal_ranged.fe),(normal_place.id,normal_place.fe),(normal_number.id,normal_number.fe),(F9.id,F9.fe),(D2.id,D2.fe),(D3.id,D3.fe),(G5.id,G5.fe),(F8.id,F8.fe),(A9.id,A9.fe),(J3.id,J3.fe),(E7.id,E7.fe),(J1.id,J1.fe),(M5.id,M5.fe),(K7.id,K7.fe),(W6.id,W6.fe),(O0.id,O0.fe),(Q0.id,Q0.fe),(strconv_Atoi.id,strconv_Atoi.fe),(P9.id,P9.fe),(O8.id,O8.fe),(H0.id,H0.fe),(E0.id,E0.fe),(P7.id,P7.fe),(K9.id,K9.fe),(M6.id,M6.fe),(L6.id,L6.fe),(M4.id,M4.fe),(G9.id,G9.fe),(M0.id,M0.fe),(stream_numbers.id,stream_numbers.fe),(stream_digits.id,stream_digits.fe),(C9.id,C9.fe),(R6.id,R6.fe),(F6.id,F6.fe),(B8.id,B8.fe),(K8.id,K8.fe),(J0.id,J0.fe),(E8.id,E8.fe),(H2.id,H2.fe),(D7.id,D7.fe),(I2.id,I2.fe)]
theorem feW_ok(w0:B4):oc (cx w0) feW:=⟨H5.ok w0,stream_Parse.ok w0,stream_reader_now.ok w0,stream_reader_begins.ok w0,stream_reader_named.ok w0,stream_reader_plain.ok w0,stream_reader_ed.ok w0,stream_reader_note.ok w0,stream_command.ok w0,stream_reader_starts.ok w0,stream_change.ok w0,stream_reader_text.ok w0,stream_reader_add.ok w0,stream_reader_taken.ok w0,L9.ok w0,G3.ok w0,R4.ok w0,G8.ok w0,normal_Parse.ok w0,normal_command.ok w0,normal_reader_take.ok w0,normal_follows.ok w0,normal_ranged.ok w0,normal_place.ok w0,normal_number.ok w0,F9.ok w0,D2.ok w0,D3.ok w0,G5.ok w0,F8.ok w0,A9.ok w0,J3.ok w0,E7.ok w0,J1.ok w0,M5.ok w0,K7.ok w0,W6.ok w0,O0.ok w0,Q0.ok w0,strconv_Atoi.ok w0,P9.ok w0,O8.ok w0,H0.ok w0,E0.ok w0,P7.ok w0,K9.ok w0,M6.ok w0,L6.ok w0,M4.ok w0,G9.ok w0,M0.ok w0,stream_numbers.ok w0,stream_digits.ok w0,C9.ok w0,R6.ok w0,F6.ok w0,B8.ok w0,K8.ok w0,J0.ok w0,E8.ok w0,H2.ok w0,D7.ok w0,I2.ok w0,trivial⟩
theorem works_run(w0:B4):ey (cx w0) (jl feW) (au primsJ) 2000 60 H5.id [] []=some (.pv (.bool true),[]):=by kernel_rfl
theorem pe{w0:B4}{σ:A1}{R:AV→A1→Prop}(L:Laid w0.w)(hR:R (.pv (.bool true)) σ):A2 (cx w0) H5.id [] σ R:=
 A2.alone L rfl (fun w1 L1=>run_callsJ L1 (feW_ok w1) (works_run w1) rfl) rfl hR
end Go.Sv
end
