/- What the code of Go functions comes to over abstract stores, piece by piece; each equation by the kernel. Printed by a program of this session. A patch text's lines, looked at by themselves: numbers, commands; lines counted. The reader of a patch text: what it looks at, what it takes. The reader of a patch text: sections of each kind. -/
import Derived.Test.YtgdnoobpnhmpjaaGreatDoorSvT
import Derived.KernelRfl
import Derived.Test.YtgdnoobpnhmpjaaGreatDoorNmE
import Derived.Test.YtgdnoobpnhmpjaaGreatDoorStP
import Derived.Test.YtgdnoobpnhmpjaaGreatDoorSmR
import Derived.Test.YtgdnoobpnhmpjaaGreatDoorSmJ
set_option linter.unusedVariables false
set_option maxRecDepth 100000
set_option linter.unusedSimpArgs false
section
namespace Go.Sv
attribute [local irreducible] A5 V7 xr
open Go Go.Proofs
namespace O8
def lvs:List (List Nat):=[[0,1],[0,1],[0,1],[0,1],[0,1],[0,1,9],[0],[0],[4],[0,1],[0,1],[0,1],[0,1],[0,1,15],[0,1],[0,1],[4],[0,1],[0,1],[0,1],[0,1,5],[0,1,5],[0,1,5],[0,1,5],[0,1,5],[0,1,5,6],[0,1,5,6],[0,1,5,6],[0,1,5,6,24],[5],[5],[4],[0,1,5,6],[0,1,5,6],[0,1,5,6],[0,1,5,6]]
def lv:Nat→List Nat:=J8 lvs
noncomputable def code:Code:=F0 Tryz.f133
noncomputable def fe:FE:=⟨Tryz.f133,code,lv⟩
def A7:List Nat:=[22]
abbrev X(w0:B4)(n:Nat):XT:=xr (cx w0) 34 lv n
theorem ok(w0:B4):FOK (cx w0) O8.id fe:=⟨Tryz.func133,by kernel_rfl,by kernel_rfl⟩
section
variable (Z:XT)(w0:B4)(n:Nat)(R:RT)(σ:A1)(s substr:List UInt8)(n_:Int)
def q21(X:XT)(w0:B4)(n:Nat)(R:RT):QT:=I3 0 (B9 (cx w0) Tryz.f133 n R)
def n21:Prop:=
 Z (cAt code 21) 21 [(0,(.pv (.str s))),(1,(.pv (.str substr))),(5,(.pv (.int .i64 n_)))] σ (q21 Z w0 n R)
def b0:Prop:=
 A5 (cx w0) 34 lv n A7 Z code 0 (H3 0 [(.pv (.str s)),(.pv (.str substr))]) σ (B9 (cx w0) Tryz.f133 n R)
end
variable {Z:XT}{w0:B4}{n:Nat}{R:RT}{σ τ:A1}{s substr s' substr':List UInt8}{n_ n_':Int}
theorem b0_eq:b0 Z w0 n R σ s substr=(
 B1 (((List.length (substr:List UInt8):Int):Int)==0) (A2 (cx w0) utf8_RuneCountInString.id [(.pv (.str s))] σ fun r σ'=>isI .i64 r fun t11=>D9 (cx w0) n (.pv (.int .i64 (IntKind.wrap .i64 (t11+1)))) σ' R) (B1 (((List.length (substr:List UInt8):Int):Int)==1) (opt (L7 B3 ti9.td (.pv (.str substr)) 0) fun t18=>isI .u8 t18 fun t18_1=>A2 (cx w0) bytealg_CountString.id [(.pv (.str s)),(.pv (.int .u8 t18_1))] σ fun r σ'=>isI .i64 r fun t19=>D9 (cx w0) n (.pv (.int .i64 t19)) σ' R) (n21 Z w0 n R σ s substr 0))):=by kernel_rfl
theorem calls(h:b0 (X w0 (List.length σ)) w0 (List.length σ) R σ s substr):A2 (cx w0) O8.id [(.pv (.str s)),(.pv (.str substr))] σ R:=
 D0 (I4 w0) (x:=fe) (S:=A7) (O8.ok w0) (by kernel_rfl) @h
attribute [irreducible] n21 b0
end O8
end Go.Sv
end
section
namespace Go.Sv.So
open Go Go.RowKit Go.Proofs
def nmF(s:Ln):Ln×Bool:=if Q2 s = [] then (H8 s,false) else match ci (H8 s) [44] with
 | none=>(H8 s,true)
 | some u=>(H8 u,decide (Q2 u ≠ []))
theorem nmF_len(s:Ln):(nmF s).1.length≤s.length:=by
 unfold nmF
 have hr:=qc s
 split
 ·exact hr
 ·split
  ·exact hr
  ·rename_i u e
   have h1:=fp e
   have h2:=qc u
   show (H8 u).length≤_
   omega
theorem nmF_digs{s:Ln}(h:(nmF s).2=true):Q2 s ≠ []:=by
 unfold nmF at h
 split at h
 ·cases h
 ·assumption
def cm3(s:Ln):Bool×Bool×Bool:=
 if ((nmF s).1 == [97]||((nmF s).1 == [99]||(nmF s).1 == [105]))=true then ((nmF s).2||(s==(nmF s).1),true,(nmF s).2)
 else if ((nmF s).1 == [100])=true then ((nmF s).2||(s==(nmF s).1),false,(nmF s).2)
 else if ((nmF s).1 == [119]||(nmF s).1 == [113])=true then (s==(nmF s).1,false,false)
 else if ((nmF s).1 == [115,47,46,47,47])=true then ((s==(nmF s).1)||(decide (Q2 s ≠ [])&&(H8 s==(nmF s).1)),false,false)
 else (false,false,false)
theorem cm3_first{s:Ln}(h:(cm3 s).2.2=true):(cm3 s).1=true:=by
 unfold cm3 at *
 split at h
 ·rename_i g
  rw[if_pos g]
  show ((nmF s).2||_)=true
  have h':(nmF s).2=true:=h
  rw[h'];rfl
 ·rename_i g
  split at h
  ·rename_i g2
   rw[if_neg g,if_pos g2]
   show ((nmF s).2||_)=true
   have h':(nmF s).2=true:=h
   rw[h'];rfl
  ·split at h
   ·cases h
   ·split at h<;>cases h
section
variable {w0:B4}{σ:A1}{R:AV→A1→Prop}
theorem ig(L:Laid w0.w){s:Ln}(hs:s.length≤1099511627776)(hR:R (.tup [.pv (.str (nmF s).1),.pv (.bool (nmF s).2)]) σ):A2 (cx w0) stream_numbers.id [.pv (.str s)] σ R:=by
 have hr:=qc s
 refine stream_numbers.calls ?_
 rw[stream_numbers.b0_eq]
 refine db L (by omega) ?_
 repeat ((with_reducible first|apply A0|apply wI|apply wT|apply wP|apply wS|apply wB);exact rfl)
 refine ek ?_
 unfold nmF at hR
 by_cases e1:Q2 s = []
 ·rw[if_pos e1] at hR
  have h9:∀m,stream_numbers.n9 (stream_numbers.X w0 σ.length) w0 σ.length R σ (H8 s) false m false:=by
   intro m
   refine stream_numbers.n9_in ?_
   rw[stream_numbers.b9_eq,C3]
   exact D5 hR
  unfold cutA
  cases e2:ci (H8 s) [44] with
  | none=>
   repeat ((with_reducible first|apply A0|apply wI|apply wT|apply wP|apply wS|apply wB);exact rfl)
   rw[decide_eq_false (fun h=>h e1),C3]
   exact h9 _
  | some m=>
   repeat ((with_reducible first|apply A0|apply wI|apply wT|apply wP|apply wS|apply wB);exact rfl)
   rw[decide_eq_false (fun h=>h e1),C3]
   exact h9 _
 ·rw[if_neg e1] at hR
  unfold cutA
  cases e2:ci (H8 s) [44] with
  | none=>
   rw[e2] at hR
   repeat ((with_reducible first|apply A0|apply wI|apply wT|apply wP|apply wS|apply wB);exact rfl)
   rw[decide_eq_true e1,D4]
   refine stream_numbers.n9_in ?_
   rw[stream_numbers.b9_eq,C3]
   exact D5 hR
  | some m=>
   rw[e2] at hR
   have hl:=fp e2
   repeat ((with_reducible first|apply A0|apply wI|apply wT|apply wP|apply wS|apply wB);exact rfl)
   rw[decide_eq_true e1,D4]
   refine stream_numbers.n9_in ?_
   rw[stream_numbers.b9_eq,D4]
   refine db L (by omega) ?_
   repeat ((with_reducible first|apply A0|apply wI|apply wT|apply wP|apply wS|apply wB);exact rfl)
   exact D5 hR
theorem change_spec(L:Laid w0.w){s:Ln}(hs:s.length≤1099511627776)(hR:∀b,(b=true→Q2 s ≠ [])→R (.pv (.bool b)) σ):A2 (cx w0) stream_change.id [.pv (.str s)] σ R:=by
 have hl:=nmF_len s
 refine stream_change.calls ?_
 rw[stream_change.b0_eq]
 refine ig L hs ?_
 repeat ((with_reducible first|apply A0|apply wI|apply wT|apply wP|apply wS|apply wB);exact rfl)
 have no:stream_change.n7 (stream_change.X w0 σ.length) w0 σ.length R σ (nmF s).1 true:=by
  refine stream_change.n7_in ?_
  rw[stream_change.b7_eq,D4]
  exact D5 (hR false nofun)
 rw[E9]
 refine A4 (fun g=>?_) (fun g=>no)
 have hd:=nmF_digs g
 cases e:(nmF s).1 with
 | nil=>rw[e] at no;exact no
 | cons c r=>
  rw[e] at no hl
  rw[List.length_cons] at hl
  refine A4 (fun h=>absurd h (by simp)) (fun _=>?_)
  refine A0 (Q5 (s:=c::r) (k:=1) (by simp)) (F4 ?_)
  refine ba (c:=c) (E5 ?_)
  refine stream_change.n7_in ?_
  rw[stream_change.b7_eq]
  refine A4 (fun _=>D5 (hR false nofun)) (fun _=>?_)
  refine A0 (F5 (s:=c::r) (k:=1) (by simp)) (F4 ?_)
  refine ig L (by simp only[List.drop_succ_cons,List.drop_zero];omega) ?_
  repeat ((with_reducible first|apply A0|apply wI|apply wT|apply wP|apply wS|apply wB);exact rfl)
  have fin:∀b,stream_change.n16 (stream_change.X w0 σ.length) w0 σ.length R σ b:=by
   intro b
   refine stream_change.n16_in ?_
   rw[stream_change.b16_eq]
   exact D5 (hR b fun _=>hd)
  exact A4 (fun _=>fin _) (fun _=>fin _)
theorem ar(L:Laid w0.w){s:Ln}(hs:s.length≤1099511627776)(hR:R (.tup [.pv (.bool (cm3 s).1),.pv (.bool (cm3 s).2.1),.pv (.bool (cm3 s).2.2)]) σ):A2 (cx w0) stream_command.id [.pv (.str s)] σ R:=by
 refine stream_command.calls ?_
 rw[stream_command.b0_eq]
 refine ig L hs ?_
 repeat ((with_reducible first|apply A0|apply wI|apply wT|apply wP|apply wS|apply wB);exact rfl)
 unfold cm3 at hR
 have f21:∀a b c,R (.tup [.pv (.bool a),.pv (.bool b),.pv (.bool c)]) σ→stream_command.n21 (stream_command.X w0 σ.length) w0 σ.length R σ a b c:=by
  intro a b c h
  refine stream_command.n21_in ?_
  rw[stream_command.b21_eq]
  exact D5 h
 have f27:∀a b c,R (.tup [.pv (.bool a),.pv (.bool b),.pv (.bool c)]) σ→stream_command.n27 (stream_command.X w0 σ.length) w0 σ.length R σ a b c:=by
  intro a b c h
  refine stream_command.n27_in ?_
  rw[stream_command.b27_eq]
  exact D5 h
 have f45:∀a b c,R (.tup [.pv (.bool a),.pv (.bool b),.pv (.bool c)]) σ→stream_command.n45 (stream_command.X w0 σ.length) w0 σ.length R σ a b c:=by
  intro a b c h
  refine stream_command.n45_in ?_
  rw[stream_command.b45_eq]
  exact D5 h
 generalize hx:nmF s=x at hR ⊢
 obtain ⟨r,g⟩:=x
 dsimp only at hR ⊢
 have h34:(r == [97]||(r == [99]||r == [105]))=false→(r == [100])=false → ∀t,t=(r == [119]||r == [113])→stream_command.n34 (stream_command.X w0 σ.length) w0 σ.length R σ s r r t:=by
  rintro e1 e2 t rfl
  rw[e1,e2] at hR
  simp only[Bool.false_eq_true,if_false] at hR
  refine stream_command.n34_in ?_
  rw[stream_command.b34_eq]
  cases e3:(r == [119]||r == [113]) with
  | true=>
   rw[e3,if_pos rfl] at hR
   rw[D4]
   exact D5 hR
  | false=>
   rw[e3,if_neg (by decide)] at hR
   rw[C3]
   cases e4:(r == [115,47,46,47,47]) with
   | true=>
    rw[e4,if_pos rfl] at hR
    rw[D4]
    refine db L (by omega) ?_
    repeat ((with_reducible first|apply A0|apply wI|apply wT|apply wP|apply wS|apply wB);exact rfl)
    cases e5:(s==r) with
    | true=>rw[e5] at hR;rw[D4];exact f45 _ _ _ hR
    | false=>
     rw[e5] at hR
     rw[C3]
     refine A4 (fun k=>f45 _ _ _ ?_) (fun k=>f45 _ _ _ ?_)
     ·rw[k] at hR;exact hR
     ·rw[k] at hR;exact hR
   | false=>
    rw[e4,if_neg (by decide)] at hR
    rw[C3]
    exact D5 hR
 have h18:∀t,t=(r == [97]||(r == [99]||r == [105]))→stream_command.n18 (stream_command.X w0 σ.length) w0 σ.length R σ s r g r t:=by
  rintro t rfl
  refine stream_command.n18_in ?_
  rw[stream_command.b18_eq]
  cases e1:(r == [97]||(r == [99]||r == [105])) with
  | true=>
   rw[e1,if_pos rfl] at hR
   rw[D4]
   refine A4 (fun k=>f21 _ _ _ ?_) (fun k=>f21 _ _ _ ?_)
   ·rw[k] at hR ⊢;exact hR
   ·rw[k] at hR ⊢;exact hR
  | false=>
   rw[C3]
   cases e2:(r == [100]) with
   | true=>
    rw[e1,if_neg (by decide),e2,if_pos rfl] at hR
    rw[D4]
    refine A4 (fun k=>f27 _ _ _ ?_) (fun k=>f27 _ _ _ ?_)
    ·rw[k] at hR ⊢;exact hR
    ·rw[k] at hR ⊢;exact hR
   | false=>
    rw[C3]
    cases e3:(r == [119]) with
    | true=>rw[D4];exact h34 e1 e2 _ (by rw[e3];rfl)
    | false=>rw[C3];exact h34 e1 e2 _ (by rw[e3];rfl)
 cases e1:(r == [97]) with
 | true=>rw[D4];exact h18 _ (by rw[e1];rfl)
 | false=>
  rw[C3]
  cases e2:(r == [99]) with
  | true=>rw[D4];exact h18 _ (by rw[e1,e2];rfl)
  | false=>rw[C3];exact h18 _ (by rw[e1,e2];rfl)
theorem Count_spec{M:List Ln}(h:U.WL M)(hl:M.length≤1099511627776)(hf:M.flatten.length≤1099511627776)(hR:R (.pv (.int .i64 (M.length:Nat))) σ):A2 (cx w0) L9.id [.pv (.str M.flatten)] σ R:=by
 refine L9.calls ?_
 rw[L9.b0_eq]
 have hc:A2 (cx w0) O8.id [.pv (.str M.flatten),.pv (.str [10])] σ fun r s=>r = .pv (.int .i64 (M.length:Nat))∧s=σ:=by
  refine O8.calls ?_
  rw[O8.b0_eq]
  refine A4 (fun h=>absurd h (by decide)) (fun _=>?_)
  refine A4 (fun _=>?_) (fun h=>absurd h (by decide))
  refine A0 (M3 (k:=0) (s:=[10]) rfl) (G2 ?_)
  refine uc (c:=10) (G2 ?_)
  rw[h.count]
  exact D5 ⟨rfl,rfl⟩
 refine hc.mono ?_
 intro r s hh
 obtain ⟨e1,e2⟩:=hh
 subst e1
 rw[e2]
 refine G2 ?_
 have fin:L9.n7 (L9.X w0 σ.length) w0 σ.length R σ (M.length:Nat) false:=by
  refine L9.n7_in ?_
  rw[L9.b7_eq,C3]
  refine L9.n10_in ?_
  rw[L9.b10_eq]
  exact D5 hR
 cases M with
 | nil=>exact A4 (fun h=>absurd h (by decide)) (fun _=>fin)
 | cons l M=>
  have hw:=h.flat_whole (by simp)
  refine A4 (fun _=>?_) (fun _=>fin)
  refine bz (by omega) (E5 ?_)
  rw[hw]
  exact fin
end
end Go.Sv.So
end
section
namespace Go.Sv.So
open Go Go.RowKit Go.Proofs
abbrev rC(n at_:Nat)(ix:Ln)(k:Nat):List AV:=[.arr 0 n 0 n,.pv (.int .i64 (at_:Nat)),.pv (.str ix),.arr 2 k 0 k]
abbrev sT(ls:List Ln)(at_:Nat)(ix:Ln)(out:List Sec)(Lx:A1):A1:=.arr 1 (ls.map PV.str) false :: .cells 66 (rC ls.length at_ ix out.length) :: .arr 9 (out.map fy) false::Lx
def nowV(ls:List Ln)(i:Nat):Ln×Bool:=match ls[i]? with
 | none=>([],false)
 | some l=>(H4 l,true)
theorem ml(l:Ln):(H4 l).length≤l.length:=by
 unfold H4;split
 ·rw[List.length_dropLast];omega
 ·omega
structure Ok(ls:List Ln):Prop where
 n:ls.length≤8388600
 wl:U.WL ls
 all:ls.flatten.length≤8388600
theorem Ok.len{ls:List Ln}(h:Ok ls){l:Ln}(hl:l∈ls):l.length≤8388600:=by
 have:l.length≤ls.flatten.length:=U.mem_flatten_len hl
 have:=h.all
 omega
section
variable {w0:B4}{R:AV→A1→Prop}
theorem W3{ls:List Ln}(h:Ok ls){at_ a:Nat}(hat:at_≤ls.length)(ha:a≤8388610){ix:Ln}{out:List Sec}{Lx:A1}(hR:R (.tup [.pv (.str (nowV ls (at_+a)).1),.pv (.bool (nowV ls (at_+a)).2)]) (sT ls at_ ix out Lx)):
  A2 (cx w0) stream_reader_now.id [.ptr 1 0,.pv (.int .i64 (a:Nat))] (sT ls at_ ix out Lx) R:=by
 have hn:=h.n
 have ew:IntKind.wrap .i64 (((at_:Nat):Int)+((a:Nat):Int))=((at_+a:Nat):Int):=by rw[D8 (by omega) (by omega)];omega
 refine stream_reader_now.calls ?_
 rw[stream_reader_now.b0_eq]
 repeat ((with_reducible first|apply A0|apply wI|apply wT|apply wP|apply wS|apply wB);exact rfl)
 rw[ew,B0]
 refine B5 (fun g=>?_) (fun g=>?_)
 ·unfold nowV at hR
  rw[List.getElem?_eq_none (by omega)] at hR
  exact D5 hR
 ·have hlt:at_+a<ls.length:=by omega
  have gl:ls[at_+a]? = some ls[at_+a]:=List.getElem?_eq_getElem hlt
  have hll:=h.len (List.getElem_mem hlt)
  generalize ls[at_+a]=l at gl hll
  repeat ((with_reducible first|apply A0|apply wI|apply wT|apply wP|apply wS|apply wB);exact rfl)
  rw[ew]
  refine A0 (gg (off:=0) (len:=ls.length) (k:=at_+a) rfl rfl hlt) ?_
  rw[show 0+(at_+a)=at_+a by omega]
  refine A0 (Z1 rfl rfl gl) (F4 ?_)
  refine W8 (by omega) (F4 ?_)
  unfold nowV at hR
  rw[gl] at hR
  exact D5 hR
theorem V8{ls:List Ln}(h:Ok ls){at_ a:Nat}(hat:at_≤ls.length)(ha:a≤8388610){w ix:Ln}{out:List Sec}{Lx:A1}(hR:∀b,R (.pv (.bool b)) (sT ls at_ ix out Lx)):
  A2 (cx w0) stream_reader_starts.id [.ptr 1 0,.pv (.int .i64 (a:Nat)),.pv (.str w)] (sT ls at_ ix out Lx) R:=by
 refine stream_reader_starts.calls ?_
 rw[stream_reader_starts.b0_eq]
 refine W3 h hat ha ?_
 repeat ((with_reducible first|apply A0|apply wI|apply wT|apply wP|apply wS|apply wB);exact rfl)
 have fin:∀b,stream_reader_starts.n6 (stream_reader_starts.X w0 (sT ls at_ ix out Lx).length) w0 (sT ls at_ ix out Lx).length R (sT ls at_ ix out Lx) b:=by
  intro b
  refine stream_reader_starts.n6_in ?_
  rw[stream_reader_starts.b6_eq]
  exact D5 (hR b)
 refine A4 (fun _=>?_) (fun _=>fin _)
 exact O3 (E5 (fin _))
theorem begins_spec(L:Laid w0.w){ls:List Ln}(h:Ok ls){at_:Nat}(hat:at_≤ls.length){s ix:Ln}(hs:s.length≤8388600){out:List Sec}{Lx:A1}(hR:∀f:Int,(f=1→Q2 s ≠ [])→(f=4→(cm3 s).2.2=true)→R (.pv (.int .i64 f)) (sT ls at_ ix out Lx)):
  A2 (cx w0) stream_reader_begins.id [.ptr 1 0,.pv (.str s)] (sT ls at_ ix out Lx) R:=by
 refine stream_reader_begins.calls ?_
 rw[stream_reader_begins.b0_eq]
 refine ar L (by omega) ?_
 repeat ((with_reducible first|apply A0|apply wI|apply wT|apply wP|apply wS|apply wB);exact rfl)
 have h20:∀t,(t=true→Q2 s ≠ [])→stream_reader_begins.n20 (stream_reader_begins.X w0 (sT ls at_ ix out Lx).length) w0 (sT ls at_ ix out Lx).length R (sT ls at_ ix out Lx) (cm3 s).2.2 t:=by
  intro t ht
  refine stream_reader_begins.n20_in ?_
  rw[stream_reader_begins.b20_eq]
  refine A4 (fun g=>D5 (hR 1 (fun _=>ht g) (fun h=>absurd h (by decide)))) (fun _=>?_)
  refine A4 (fun g=>D5 (hR 4 (fun h=>absurd h (by decide)) (fun _=>g))) (fun _=>D5 (hR 0 (fun h=>absurd h (by decide)) (fun h=>absurd h (by decide))))
 have h14:∀t,stream_reader_begins.n14 (stream_reader_begins.X w0 (sT ls at_ ix out Lx).length) w0 (sT ls at_ ix out Lx).length R (sT ls at_ ix out Lx) (.ptr 1 0) s (cm3 s).2.2 t:=by
  intro t
  refine stream_reader_begins.n14_in ?_
  rw[stream_reader_begins.b14_eq]
  refine A4 (fun _=>D5 (hR 3 (fun h=>absurd h (by decide)) (fun h=>absurd h (by decide)))) (fun _=>?_)
  refine change_spec L (by omega) fun b hb=>E5 ?_
  refine A4 (fun g=>?_) (fun g=>h20 _ nofun)
  have hd:=hb g
  refine V8 (a:=1) h hat (by decide) fun b1=>E5 ?_
  refine A4 (fun _=>h20 _ fun _=>hd) (fun _=>?_)
  exact V8 (a:=1) h hat (by decide) fun b2=>E5 (h20 _ fun _=>hd)
 have h8:∀t,stream_reader_begins.n8 (stream_reader_begins.X w0 (sT ls at_ ix out Lx).length) w0 (sT ls at_ ix out Lx).length R (sT ls at_ ix out Lx) (.ptr 1 0) s (cm3 s).2.2 t:=by
  intro t
  refine stream_reader_begins.n8_in ?_
  rw[stream_reader_begins.b8_eq]
  refine A4 (fun _=>D5 (hR 2 (fun h=>absurd h (by decide)) (fun h=>absurd h (by decide)))) (fun _=>?_)
  refine V8 (a:=0) h hat (by decide) fun b1=>E5 ?_
  refine A4 (fun _=>?_) (fun _=>h14 _)
  refine V8 (a:=1) h hat (by decide) fun b2=>E5 ?_
  refine A4 (fun _=>?_) (fun _=>h14 _)
  exact V8 (a:=2) h hat (by decide) fun b3=>E5 (h14 _)
 refine V8 (a:=0) h hat (by decide) fun b1=>E5 ?_
 refine A4 (fun _=>?_) (fun _=>h8 _)
 exact V8 (a:=1) h hat (by decide) fun b2=>E5 (h8 _)
theorem text_spec{ls:List Ln}(h:Ok ls){at_:Nat}(hat:at_≤ls.length){ix:Ln}{out:List Sec}{Lx:A1}(hR:R (.pv (.str (ls.drop at_).flatten)) (sT ls at_ ix out Lx)):
  A2 (cx w0) stream_reader_text.id [.ptr 1 0] (sT ls at_ ix out Lx) R:=by
 have hn:=h.n
 have hd:((ls.drop (0+at_)).take (ls.length-at_))=ls.drop at_:=by
  rw[Nat.zero_add,List.take_of_length_le (by rw[List.length_drop];omega)]
 have hfl:(ls.drop at_).flatten.length≤ls.flatten.length:=by
  have:=congrArg List.length (congrArg List.flatten (List.take_append_drop at_ ls))
  rw[List.flatten_append,List.length_append] at this
  omega
 have:=h.all
 refine stream_reader_text.calls ?_
 rw[stream_reader_text.b0_eq]
 repeat ((with_reducible first|apply A0|apply wI|apply wT|apply wP|apply wS|apply wB);exact rfl)
 refine A0 (ln_cut (i:=0) (ks:=ls) (off:=0) rfl rfl hat) ?_
 refine Join_spec (id:=0) (L:=ls) rfl rfl (by omega) (by omega) (by rw[hd];omega) ?_
 rw[hd]
 exact F4 (D5 hR)
theorem taken_spec{ls:List Ln}(h:Ok ls){at_ j:Nat}(hj:at_+j≤ls.length){ix:Ln}{out:List Sec}{Lx:A1}(hR:R (.pv (.int .i64 (j:Nat))) (sT ls at_ ix out Lx)):
  A2 (cx w0) stream_reader_taken.id [.ptr 1 0,.pv (.str ((ls.drop at_).drop j).flatten)] (sT ls at_ ix out Lx) R:=by
 have hn:=h.n
 have hl:((ls.drop at_).drop j).length=ls.length-at_-j:=by rw[List.length_drop,List.length_drop]
 have hfl:((ls.drop at_).drop j).flatten.length≤ls.flatten.length:=by
  rw[List.drop_drop]
  have:=congrArg List.length (congrArg List.flatten (List.take_append_drop (at_+j) ls))
  rw[List.flatten_append,List.length_append] at this
  omega
 have:=h.all
 refine stream_reader_taken.calls ?_
 rw[stream_reader_taken.b0_eq]
 repeat ((with_reducible first|apply A0|apply wI|apply wT|apply wP|apply wS|apply wB);exact rfl)
 refine Count_spec ((h.wl.drop at_).drop j) (by omega) (by omega) (G2 ?_)
 refine ⟨A0 rfl rfl,A0 rfl rfl,?_⟩
 rw[hl,D8 (n:=((ls.length:Nat):Int)-((at_:Nat):Int)) (by omega) (by omega),D8 (by omega) (by omega)]
 have e:((ls.length:Nat):Int)-((at_:Nat):Int)-((ls.length-at_-j:Nat):Int)=((j:Nat):Int):=by omega
 rw[e]
 exact D5 hR
theorem last_load{σ:A1}{ty:TypeId}{cs:List AV}{ti:TI}{off:Nat}{v:AV}(h:A6 [.cells ty cs] ti (.ptr 0 off)=some v):A6 (σ ++ [.cells ty cs]) ti (.ptr σ.length off)=some v:=by
 rw[← h]
 unfold A6
 simp
theorem jv{σ:A1}{ty:TypeId}{cs cs':List AV}{ti:TI}{off:Nat}{v:AV}(h:C2 [.cells ty cs] ti (.ptr 0 off) v=some [.cells ty cs']):C2 (σ ++ [.cells ty cs]) ti (.ptr σ.length off) v=some (σ ++ [.cells ty cs']):=by
 unfold C2 at h ⊢
 simp only at h ⊢
 split at h
 ·rename_i hc
  rw[if_pos hc]
  simp only[List.getElem?_cons_zero] at h
  simp only[List.getElem?_append_right (Nat.le_refl _),Nat.sub_self,List.getElem?_cons_zero]
  split at h
  ·rename_i hle
   rw[if_pos hle]
   simp only[List.set_cons_zero,Option.some.injEq,List.cons.injEq,M1.cells.injEq,true_and,and_true] at h
   rw[h,List.set_append_right _ _ (Nat.le_refl _),Nat.sub_self,List.set_cons_zero]
  ·cases h
 ·cases h
theorem ip{ls:List Ln}(h:Ok ls){at_ j:Nat}(hj:at_+j≤ls.length){ix:Ln}{out:List Sec}(ho:out.length≤8388610){s:Sec}{Lx:A1}(hR:∀Ly,R (.tup []) (sT ls (at_+j) [] (out ++ [{ s with ix:=ix,ln:=((at_+1:Nat):Int) }]) Ly)):
  A2 (cx w0) stream_reader_add.id [.ptr 1 0,.pv (fy s),.pv (.int .i64 (j:Nat))] (sT ls at_ ix out Lx) R:=by
 have hn:=h.n
 refine stream_reader_add.calls ?_
 rw[stream_reader_add.b0_eq]
 refine ⟨rfl,?_⟩
 refine A0 rfl (A0 rfl (A0 (v:=.pv (.int .i64 (at_:Nat))) rfl (G2 ?_)))
 rw[D8 (n:=((at_:Nat):Int)+1) (by omega) (by omega)]
 have e1:((at_:Nat):Int)+1=((at_+1:Nat):Int):=by omega
 rw[e1]
 refine A0 (v:=.ptr (sT ls at_ ix out Lx).length 8) rfl ?_
 refine A0 (jv (σ:=sT ls at_ ix out Lx) (cs:=secC s) (cs':=secC { s with ln:=((at_+1:Nat):Int) }) rfl) ?_
 refine A0 rfl (A0 rfl (A0 (v:=.pv (.str ix)) rfl (F4 ?_)))
 refine A0 (v:=.ptr (sT ls at_ ix out Lx).length 5) rfl ?_
 refine A0 (jv (σ:=sT ls at_ ix out Lx) (cs:=secC { s with ln:=((at_+1:Nat):Int) }) (cs':=secC { s with ix:=ix,ln:=((at_+1:Nat):Int) }) rfl) ?_
 refine A0 rfl (A0 rfl (A0 (v:=sT ls at_ [] out Lx ++ [.cells 31 (secC { s with ix:=ix,ln:=((at_+1:Nat):Int) })]) rfl ?_))
 refine A0 rfl (A0 rfl (A0 (v:=.arr 2 out.length 0 out.length) rfl ?_))
 refine A0 (v:=.pv (fy { s with ix:=ix,ln:=((at_+1:Nat):Int) })) (last_load (σ:=sT ls at_ [] out Lx) (cs:=secC { s with ix:=ix,ln:=((at_+1:Nat):Int) }) rfl) ?_
 refine J5 (v:=.pv (.sl [fy { s with ix:=ix,ln:=((at_+1:Nat):Int) }])) rfl ⟨A0 rfl rfl,?_⟩
 refine J5 (jp (es:=9) (xs:=out.map fy) rfl rfl (List.length_map ..) rfl (qf (B:=8388620) (by rw[List.length_map];show out.length+1≤_;omega) (by decide) (by decide))) ?_
 have e2:out.map fy ++ [fy { s with ix:=ix,ln:=((at_+1:Nat):Int) }]=(out ++ [{ s with ix:=ix,ln:=((at_+1:Nat):Int) }]).map fy:=by rw[List.map_append];rfl
 rw[e2,List.length_map]
 repeat ((with_reducible first|apply A0|apply wI|apply wT|apply wP|apply wS|apply wB);exact rfl)
 rw[D8 (n:=((at_:Nat):Int)+((j:Nat):Int)) (by omega) (by omega)]
 have e3:((at_:Nat):Int)+((j:Nat):Int)=((at_+j:Nat):Int):=by omega
 rw[e3]
 repeat ((with_reducible first|apply A0|apply wI|apply wT|apply wP|apply wS|apply wB);exact rfl)
 have hfin:=hR (Lx ++ [M1.cells 31 (secC { s with ix:=ix,ln:=((at_+1:Nat):Int) })])
 exact D6 (by simp) hfin
abbrev secN(s:Sec):List AV:=[.pv (.int .i64 s.f),.pv (.str s.op),.pv (.str s.os),.pv (.str s.np),.pv (.str s.ns),.pv (.str s.ix),.nilsl,.pv (.str s.ed),.pv (.int .i64 s.ln)]
theorem addN_spec{ls:List Ln}(h:Ok ls){at_ j:Nat}(hj:at_+j≤ls.length){ix:Ln}{out:List Sec}(ho:out.length≤8388610){s:Sec}(hz:s.hs = []){Lx:A1}(hR:∀Ly,R (.tup []) (sT ls (at_+j) [] (out ++ [{ s with ix:=ix,ln:=((at_+1:Nat):Int) }]) Ly)):
  A2 (cx w0) stream_reader_add.id [.ptr 1 0,.agg (secN s),.pv (.int .i64 (j:Nat))] (sT ls at_ ix out Lx) R:=by
 have hn:=h.n
 obtain ⟨f,op,os,np,ns,ix0,hs,ed,ln⟩:=s
 have hz':hs = []:=hz
 subst hz'
 refine stream_reader_add.calls ?_
 rw[stream_reader_add.b0_eq]
 refine ⟨rfl,?_⟩
 refine A0 rfl (A0 rfl (A0 (v:=.pv (.int .i64 (at_:Nat))) rfl (G2 ?_)))
 rw[D8 (n:=((at_:Nat):Int)+1) (by omega) (by omega)]
 have e1:((at_:Nat):Int)+1=((at_+1:Nat):Int):=by omega
 rw[e1]
 refine A0 (v:=.ptr (sT ls at_ ix out Lx).length 8) rfl ?_
 refine A0 (jv (σ:=sT ls at_ ix out Lx) (cs:=secN ⟨f,op,os,np,ns,ix0,[],ed,ln⟩) (cs':=secN ⟨f,op,os,np,ns,ix0,[],ed,((at_+1:Nat):Int)⟩) rfl) ?_
 refine A0 rfl (A0 rfl (A0 (v:=.pv (.str ix)) rfl (F4 ?_)))
 refine A0 (v:=.ptr (sT ls at_ ix out Lx).length 5) rfl ?_
 refine A0 (jv (σ:=sT ls at_ ix out Lx) (cs:=secN ⟨f,op,os,np,ns,ix0,[],ed,((at_+1:Nat):Int)⟩) (cs':=secN (⟨f,op,os,np,ns,ix,[],ed,((at_+1:Nat):Int)⟩:Sec)) rfl) ?_
 refine A0 rfl (A0 rfl (A0 (v:=sT ls at_ [] out Lx ++ [.cells 31 (secN (⟨f,op,os,np,ns,ix,[],ed,((at_+1:Nat):Int)⟩:Sec))]) rfl ?_))
 refine A0 rfl (A0 rfl (A0 (v:=.arr 2 out.length 0 out.length) rfl ?_))
 refine A0 (v:=.agg (secN (⟨f,op,os,np,ns,ix,[],ed,((at_+1:Nat):Int)⟩:Sec))) (last_load (σ:=sT ls at_ [] out Lx) (cs:=secN (⟨f,op,os,np,ns,ix,[],ed,((at_+1:Nat):Int)⟩:Sec)) rfl) ?_
 refine J5 (v:=.pv (.sl [fy (⟨f,op,os,np,ns,ix,[],ed,((at_+1:Nat):Int)⟩:Sec)])) rfl ⟨A0 rfl rfl,?_⟩
 refine J5 (jp (es:=9) (xs:=out.map fy) rfl rfl (List.length_map ..) rfl (qf (B:=8388620) (by rw[List.length_map];show out.length+1≤_;omega) (by decide) (by decide))) ?_
 have e2:out.map fy ++ [fy (⟨f,op,os,np,ns,ix,[],ed,((at_+1:Nat):Int)⟩:Sec)]=(out ++ [(⟨f,op,os,np,ns,ix,[],ed,((at_+1:Nat):Int)⟩:Sec)]).map fy:=by rw[List.map_append];rfl
 rw[e2,List.length_map]
 repeat ((with_reducible first|apply A0|apply wI|apply wT|apply wP|apply wS|apply wB);exact rfl)
 rw[D8 (n:=((at_:Nat):Int)+((j:Nat):Int)) (by omega) (by omega)]
 have e3:((at_:Nat):Int)+((j:Nat):Int)=((at_+j:Nat):Int):=by omega
 rw[e3]
 repeat ((with_reducible first|apply A0|apply wI|apply wT|apply wP|apply wS|apply wB);exact rfl)
 have hfin:=hR (Lx ++ [M1.cells 31 (secN (⟨f,op,os,np,ns,ix,[],ed,((at_+1:Nat):Int)⟩:Sec))])
 exact D6 (by simp) hfin
end
end Go.Sv.So
end
section
namespace Go.Sv.So
open Go Go.RowKit Go.Proofs
inductive NrmR(L:List Ln):AV→Prop
 | good (hs:List Hnk) (j:Nat) (h1:1≤j) (h2:j≤L.length):NrmR L (.tup [.pv (.sl (hs.map O2)),.pv (.str (L.drop j).flatten),.pv (.int .i64 0),.pv (.raw .nilIface)])
 | bad (n e:Int) (h1:e=2∨1≤n) (h2:0≤n) (h3:n≤8388610):NrmR L (.tup [.pv (.sl []),.pv (.str []),.pv (.int .i64 n),.pv (.iface 61 (.int .i64 e))])
theorem hkF_out{ls:List Ln}{at_:Nat}{l:Ln}(hat:at_<ls.length):(∀ h a,Nm.hkF ls at_ l = .ok (h,a)→at_<a∧a≤ls.length) ∧ ∀n e,Nm.hkF ls at_ l = .error (n,e)→1≤n∧n≤ls.length+1:=by
 have hx:=Nm.takeF_out [60,32] 2 (Nm.cmdF (H4 l)).1.n.toNat (ls.drop (at_+1))
 rw[List.length_drop] at hx
 unfold Nm.hkF
 dsimp only
 generalize Nm.takeF (Nm.cmdF (H4 l)).1.n.toNat [60,32] 2 (ls.drop (at_+1))=x at hx ⊢
 obtain ⟨x1,_,_⟩:=hx
 split
 ·refine ⟨nofun,fun n e h=>?_⟩
  cases h;omega
 ·split
  ·refine ⟨nofun,fun n e h=>?_⟩
   cases h;omega
  ·rename_i hk
   have h3:at_+1+x.2.1≤Nm.at3F ls (Nm.cmdF (H4 l)).1 x (at_+1+x.2.1)∧Nm.at3F ls (Nm.cmdF (H4 l)).1 x (at_+1+x.2.1)≤ls.length:=by
    have hk':Nm.okF ls (Nm.cmdF (H4 l)).1 x (at_+1+x.2.1)=true:=by simpa using hk
    unfold Nm.at3F
    rw[hk',Bool.true_and]
    split
    ·rename_i hs
     refine ⟨by omega,?_⟩
     unfold Nm.okF at hk'
     rw[hs] at hk'
     simp only[Bool.not_true,Bool.false_or,Bool.and_eq_true,beq_iff_eq] at hk'
     have:=(List.getElem?_eq_some_iff.1 hk'.2).1
     omega
    ·omega
   generalize Nm.at3F ls (Nm.cmdF (H4 l)).1 x (at_+1+x.2.1)=at3 at h3 ⊢
   have hy:=Nm.takeF_out [62,32] 3 (Nm.cmdF (H4 l)).1.m.toNat (ls.drop at3)
   rw[List.length_drop] at hy
   generalize Nm.takeF (Nm.cmdF (H4 l)).1.m.toNat [62,32] 3 (ls.drop at3)=y at hy ⊢
   split
   ·refine ⟨nofun,fun n e h=>?_⟩
    cases h;omega
   ·split
    ·refine ⟨nofun,fun n e h=>?_⟩
     cases h;omega
    ·refine ⟨fun h a e=>?_,nofun⟩
     cases e;omega
theorem parF_out{ls:List Ln}:∀(q at_:Nat) (out:List Hnk),at_≤ls.length→(∀ o a,Nm.parF q ls at_ out = .ok (o,a)→at_≤a∧a≤ls.length) ∧ ∀n e,Nm.parF q ls at_ out = .error (n,e)→1≤n∧n≤ls.length+1
 | 0,at_,out,hat=>⟨fun o a h=>by cases h;omega,nofun⟩
 | q+1,at_,out,hat=>by
  unfold Nm.parF
  split
  ·exact ⟨fun o a h=>by cases h;omega,nofun⟩
  ·rename_i l gl
   have hlt:=(List.getElem?_eq_some_iff.1 gl).1
   obtain ⟨k1,k2⟩:=hkF_out (l:=l) hlt
   split
   ·exact ⟨fun o a h=>by cases h;omega,nofun⟩
   ·split
    ·rename_i e he
     refine ⟨nofun,fun n e' h=>?_⟩
     cases h
     exact k2 _ _ he
    ·rename_i h a he
     have:=k1 _ _ he
     split
     ·refine ⟨nofun,fun n e h=>?_⟩
      cases h;omega
     ·obtain ⟨g1,g2⟩:=parF_out q a (out ++ [h]) this.2
      exact ⟨fun o b e=>by have:=g1 o b e;omega,g2⟩
theorem digs_beg{l:Ln}(h:bv l=true)(hw:P6 l=true)(hd:Q2 (H4 l) ≠ []):Nm.begF l=true:=by
 obtain ⟨p,rfl,_⟩:=U.wl_shape h hw
 have e:H4 (p ++ [10])=p:=by
  unfold H4
  rw[if_pos hw]
  simp
 rw[e] at hd
 cases p with
 | nil=>exact absurd rfl hd
 | cons c r=>
  have hc:P5 c=true:=by
   cases hq:P5 c with
   | true=>rfl
   | false=>exact absurd (by simp[hq]) hd
  unfold P5 at hc
  simp only[Bool.and_eq_true,decide_eq_true_eq] at hc
  unfold Nm.begF
  exact decide_eq_true (.inr hc)
theorem normal_rel{L:List Ln}(h:U.WL L)(hl:L.length≤8388600){l:Ln}{r:List Ln}(e:L=l::r)(hd:Q2 (H4 l) ≠ []):NrmR L (Nm.nrmA L.flatten):=by
 have e1:Nm.wholeT L.flatten=L.flatten:=by
  unfold Nm.wholeT
  rw[if_neg]
  intro hh
  rw[h.flat_whole (by rw[e];simp)] at hh
  cases hh.2
 have e2:E4 L.flatten=L:=by rw[U.split_eq,U.split_WL h]
 unfold Nm.nrmA
 split
 ·exact .bad 0 2 (.inl rfl) (by decide) (by decide)
 ·rw[e1,e2]
  have hb:=digs_beg (h.line l (by rw[e];simp)) (h.whole l (by rw[e];simp)) hd
  have h0:L[0]? = some l:=by rw[e];rfl
  have hlt:0<L.length:=by rw[e];simp
  have key:Nm.parF (L.length+1) L 0 []=match Nm.hkF L 0 l with
    | .error x=>.error x
    | .ok (h,a)=>if Nm.lastOK [] h=false then .error (0+1,112) else Nm.parF L.length L a ([] ++ [h]):=by
   conv=>lhs;unfold Nm.parF
   rw[h0]
   simp only
   rw[hb,if_neg (by decide)]
   cases Nm.hkF L 0 l<;>rfl
  rw[key]
  obtain ⟨k1,k2⟩:=hkF_out (l:=l) hlt
  cases hk:Nm.hkF L 0 l with
  | error x=>
   obtain ⟨n,x⟩:=x
   have:=k2 _ _ hk
   exact .bad _ _ (.inr (by omega)) (by omega) (by omega)
  | ok x=>
   obtain ⟨x,a⟩:=x
   have ha:=k1 _ _ hk
   simp only
   rw[if_neg (show ¬Nm.lastOK [] x=false from fun h=>by cases h)]
   obtain ⟨g1,g2⟩:=parF_out (ls:=L) L.length a ([] ++ [x]) ha.2
   cases hp:Nm.parF L.length L a ([] ++ [x]) with
   | error y=>
    obtain ⟨n,y⟩:=y
    have:=g2 _ _ hp
    exact .bad _ _ (.inr (by omega)) (by omega) (by omega)
   | ok y=>
    obtain ⟨o,b⟩:=y
    have:=g1 _ _ hp
    show NrmR L (.tup [.pv (.sl (o.map O2)),.pv (.str (L.flatten.drop (min (L.take b).flatten.length L.flatten.length))),.pv (.int .i64 0),.pv (.raw .nilIface)])
    rw[Nat.min_eq_left (U.flat_take_le L b),U.flat_take_drop]
    exact .good _ _ (by omega) this.2
section
variable {w0:B4}{R:AV→A1→Prop}
theorem plain_spec(Ld:Laid w0.w){ls:List Ln}(h:Ok ls){at_:Nat}{l:Ln}(gl:ls[at_]? = some l)(hd:Q2 (H4 l) ≠ []){ix:Ln}{out:List Sec}(ho:out.length≤8388610)
  (hE:∀(n e:Int) Ly,e=2∨1≤n→0≤n→n≤8388610→R (.tup [.pv (.int .i64 ((at_:Nat)+n)),.pv (.iface 61 (.int .i64 e))]) (sT ls at_ ix out Ly))
  (hG:∀(j:Nat) (s:Sec) Ly,1≤j→at_+j≤ls.length→s.ln=((at_+1:Nat):Int)→R (.tup [.pv (.int .i64 0),.pv (.raw .nilIface)]) (sT ls (at_+j) [] (out ++ [s]) Ly)):
  A2 (cx w0) stream_reader_plain.id [.ptr 1 0] (sT ls at_ ix out []) R:=by
 have hn:=h.n
 have hlt:=(List.getElem?_eq_some_iff.1 gl).1
 have hdr:ls.drop at_=l::ls.drop (at_+1):=by
  rw[List.drop_eq_getElem_cons hlt]
  congr 1
  rw[List.getElem?_eq_getElem hlt] at gl
  simpa using gl
 refine stream_reader_plain.calls ?_
 rw[stream_reader_plain.b0_eq]
 refine text_spec h (by omega) (F4 ?_)
 refine Nm.Parse_spec Ld ?_
 have hr:=normal_rel (h.wl.drop at_) (by rw[List.length_drop];omega) hdr hd
 generalize Nm.nrmA (ls.drop at_).flatten=w at hr
 cases hr with
 | good hs j h1 h2=>
  rw[List.length_drop] at h2
  repeat ((with_reducible first|apply A0|apply wI|apply wT|apply wP|apply wS|apply wB);exact rfl)
  rw[P2]
  refine A0 rfl (A0 (v:=true) rfl (E5 ?_))
  refine A4 (fun h=>absurd h (by decide)) (fun _=>?_)
  refine A0 (v:=.pv (fy ⟨1,[],[],[],[],[],hs,[],0⟩)) rfl ?_
  refine taken_spec h (by omega) (G2 ?_)
  refine ip h (by omega) ho fun Ly=>?_
  exact D6 (by simp) (hG j _ Ly h1 (by omega) rfl)
 | bad n e h1 h2 h3=>
  repeat ((with_reducible first|apply A0|apply wI|apply wT|apply wP|apply wS|apply wB);exact rfl)
  rw[P2]
  refine A0 rfl (A0 (v:=false) rfl (E5 ?_))
  refine A4 (fun _=>?_) (fun h=>absurd h (by decide))
  repeat ((with_reducible first|apply A0|apply wI|apply wT|apply wP|apply wS|apply wB);exact rfl)
  rw[D8 (by omega) (by omega)]
  exact D5 (hE n e [] h1 h2 h3)
theorem pg{ls:List Ln}(h:Ok ls){at_:Nat}(hat:at_≤ls.length){ix:Ln}{out:List Sec}(ho:out.length≤8388610){fm:Int}{pid:FuncId}
  (hp:∀(R:AV→A1→Prop),(∀ w,U.TakR (ls.drop at_) w→R w (sT ls at_ ix out []))→A2 (cx w0) pid [.pv (.str (ls.drop at_).flatten)] (sT ls at_ ix out []) R)
  (hE:∀(n e:Int) Ly,e=2∨1≤n→0≤n→n≤8388610→R (.tup [.pv (.int .i64 ((at_:Nat)+n)),.pv (.iface 61 (.int .i64 e))]) (sT ls at_ ix out Ly))
  (hG:∀(j:Nat) (s:Sec) Ly,1≤j→at_+j≤ls.length→s.ln=((at_+1:Nat):Int)→R (.tup [.pv (.int .i64 0),.pv (.raw .nilIface)]) (sT ls (at_+j) [] (out ++ [s]) Ly)):
  A2 (cx w0) stream_reader_named.id [.ptr 1 0,.pv (.int .i64 fm),.pv (.raw (.func (.func pid) #[] #[]))] (sT ls at_ ix out []) R:=by
 have hn:=h.n
 refine stream_reader_named.calls ?_
 rw[stream_reader_named.b0_eq]
 refine text_spec h hat (F4 ?_)
 refine A0 (v:=(pid,[.pv (.str (ls.drop at_).flatten)])) rfl ?_
 refine hp _ fun w hw=>?_
 cases hw with
 | good p s p' s' hs j h1 h2=>
  rw[List.length_drop] at h2
  repeat ((with_reducible first|apply A0|apply wI|apply wT|apply wP|apply wS|apply wB);exact rfl)
  rw[P2]
  refine A0 rfl (A0 (v:=true) rfl (E5 ?_))
  refine A4 (fun h=>absurd h (by decide)) (fun _=>?_)
  repeat ((with_reducible first|apply A0|apply wI|apply wT|apply wP|apply wS|apply wB);exact rfl)
  refine taken_spec (Lx:=[.cells 28 [.pv (.str p),.pv (.str s)],.cells 28 [.pv (.str p'),.pv (.str s')]]) h (by omega) (G2 ⟨A0 rfl rfl,A0 rfl rfl,?_⟩)
  refine ip (s:=⟨fm,p,s,p',s',[],hs,[],0⟩) h (by omega) ho fun Ly=>?_
  exact D6 (by simp) (hG j _ Ly h1 (by omega) rfl)
 | bad n e h1 h2 h3=>
  repeat ((with_reducible first|apply A0|apply wI|apply wT|apply wP|apply wS|apply wB);exact rfl)
  rw[P2]
  refine A0 rfl (A0 (v:=false) rfl (E5 ?_))
  refine A4 (fun _=>?_) (fun h=>absurd h (by decide))
  repeat ((with_reducible first|apply A0|apply wI|apply wT|apply wP|apply wS|apply wB);exact rfl)
  rw[D8 (by omega) (by omega)]
  exact D6 (by simp) (hE n e [.cells 28 [.pv (.str []),.pv (.str [])],.cells 28 [.pv (.str []),.pv (.str [])]] h1 h2 h3)
theorem note_spec(Ld:Laid w0.w){ls:List Ln}(h:Ok ls){at_:Nat}(hat:at_<ls.length){s ix:Ln}(hs:s.length≤8388600){out:List Sec}(hR:∀ix',R (.tup []) (sT ls (at_+1) ix' out [])):
  A2 (cx w0) stream_reader_note.id [.ptr 1 0,.pv (.str s)] (sT ls at_ ix out []) R:=by
 have hn:=h.n
 have h14:∀ix',stream_reader_note.n14 (stream_reader_note.X w0 3) w0 3 R (sT ls at_ ix' out []) (.ptr 1 0):=by
  intro ix'
  refine stream_reader_note.n14_in ?_
  rw[stream_reader_note.b14_eq]
  repeat ((with_reducible first|apply A0|apply wI|apply wT|apply wP|apply wS|apply wB);exact rfl)
  rw[K6 hat (by omega)]
  exact D6 (by simp) (hR ix')
 have h10:∀nm t,stream_reader_note.n10 (stream_reader_note.X w0 3) w0 3 R (sT ls at_ ix out []) (.ptr 1 0) nm t:=by
  intro nm t
  refine stream_reader_note.n10_in ?_
  rw[stream_reader_note.b10_eq]
  refine A4 (fun _=>?_) (fun _=>h14 _)
  repeat ((with_reducible first|apply A0|apply wI|apply wT|apply wP|apply wS|apply wB);exact rfl)
  exact h14 nm
 refine stream_reader_note.calls ?_
 rw[stream_reader_note.b0_eq]
 refine ek ?_
 unfold cutA
 cases e:ci s [73,110,100,101,120,58] with
 | none=>
  repeat ((with_reducible first|apply A0|apply wI|apply wT|apply wP|apply wS|apply wB);exact rfl)
  rw[C3]
  exact h14 _
 | some u=>
  have hl:=fp e
  repeat ((with_reducible first|apply A0|apply wI|apply wT|apply wP|apply wS|apply wB);exact rfl)
  rw[D4]
  refine aq (c:=32) (by decide) (F4 ?_)
  have hl2:(u.dropWhile (· == (32:UInt8))).length≤u.length:=(List.dropWhile_sublist _).length_le
  refine U.Unquote_spec Ld (by omega) ?_
  unfold U.unqA
  split
  ·repeat ((with_reducible first|apply A0|apply wI|apply wT|apply wP|apply wS|apply wB);exact rfl)
   rw[dy]
   refine A0 rfl (A0 (v:=true) rfl (E5 ?_))
   refine A4 (fun _=>h10 _ _) (fun h=>absurd h (by decide))
  ·repeat ((with_reducible first|apply A0|apply wI|apply wT|apply wP|apply wS|apply wB);exact rfl)
   rw[dy]
   refine A0 rfl (A0 (v:=false) rfl (E5 ?_))
   refine A4 (fun h=>absurd h (by decide)) (fun _=>h10 _ _)
end
end Go.Sv.So
end
