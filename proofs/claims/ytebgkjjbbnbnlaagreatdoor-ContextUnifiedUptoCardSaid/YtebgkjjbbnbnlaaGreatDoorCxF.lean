/- The statements about context diffs: their helpers: numbers of errors, hunks that are the same, hunks with memory of their own. What the code of Go functions comes to over abstract stores, piece by piece; each equation by the kernel. Printed by a program of this session. Package context's small sample, worked out: 'works' is true. The law ContextPrints over stores. The law ContextBack over stores. What the code of Go functions comes to over abstract stores, piece by piece; each equation by the kernel. Printed by a program of this session. -/
import Derived.Test.YtebgkjjbbnbnlaaGreatDoorCxBg
import Derived.Test.YtebgkjjbbnbnlaaGreatDoorSvT
import Derived.KernelRfl
import Derived.Test.YtebgkjjbbnbnlaaGreatDoorUnB
import Derived.Test.YtebgkjjbbnbnlaaGreatDoorUnC
import Derived.Test.YtebgkjjbbnbnlaaGreatDoorUnP
import Derived.Test.YtebgkjjbbnbnlaaGreatDoorCxP
import Derived.Test.YtebgkjjbbnbnlaaGreatDoorCxT
import Derived.Test.YtebgkjjbbnbnlaaGreatDoorCxQ
import Derived.Test.YtebgkjjbbnbnlaaGreatDoorFnG
import Derived.Test.YtebgkjjbbnbnlaaGreatDoorCxD
set_option linter.unusedVariables false
set_option linter.unusedSimpArgs false
set_option maxRecDepth 100000
section
namespace Go.Sv
section
open Go Go.RowKit Go.Proofs
variable {w0:B5}{σ:A2}{R:AV→A2→Prop}
abbrev twoS(h:Hnk):A2:=[.cells 39 (jq h),.cells 39 (jq h)]
theorem Ed(h:Hnk)(hx:h.rows.length≤1048576):∀(r:List Row) (k:Nat),(h.rows.map I3).drop k=r.map I3 →
  F6.n14 (F6.X w0 0) w0 0 (fun r' _=>r' = .pv (.bool true)) (twoS h) (.ptr 0 0) (.ptr 1 0) k
 | [],k,hd=>by
  have hk:=N5 hd
  rw[List.length_map] at hk
  refine F6.n14_in ?_
  rw[F6.b15_eq]
  repeat ((with_reducible first|apply A0|apply wI|apply wT|apply wP|apply wS|apply wB);exact rfl)
  rw[A8,if_neg (by rw[List.length_map];omega)]
  refine F6.n31_in ?_
  rw[F6.b31_eq]
  exact C4 (Nat.zero_le _) rfl
 | c::r,k,hd=>by
  obtain ⟨h1,h2,hk⟩:=G7 hd
  rw[List.length_map] at hk
  refine F6.n14_in ?_
  rw[F6.b15_eq]
  repeat ((with_reducible first|apply A0|apply wI|apply wT|apply wP|apply wS|apply wB);exact rfl)
  rw[A8,if_pos (by rw[List.length_map];omega)]
  repeat ((with_reducible first|apply A0|apply wI|apply wT|apply wP|apply wS|apply wB);exact rfl)
  refine A0 (O1 df h1 rfl) ?_
  repeat ((with_reducible first|apply A0|apply wI|apply wT|apply wP|apply wS|apply wB);exact rfl)
  refine A0 (O1 df h1 rfl) ?_
  repeat ((with_reducible first|apply A0|apply wI|apply wT|apply wP|apply wS|apply wB);exact rfl)
  refine aG (t:=51) (ti:=L7) (cs:=[.int .i64 c.k,.str c.t]) rfl (aI c) (F0 ?_)
  rw[I7,J3 hk (by omega)]
  exact Ed h hx r (k+1) h2
theorem Qf(L:Laid w0.w){h:Hnk}(hx:h.rows.length≤1048576)(hR:R (.pv (.bool true)) σ):A1 (cx w0) F6.id [.pv (K6 h),.pv (K6 h)] σ R:=by
 refine A1.alone L rfl (fun w1 L1=>?_) rfl hR
 have key:∀t,t=false→F6.n5 (F6.X w1 0) w1 0 (fun r' _=>r' = .pv (.bool true)) (twoS h) (.ptr 0 0) (.ptr 1 0) t:=by
  rintro t rfl
  refine F6.n5_in ?_
  rw[F6.b5_eq,I7]
  exact Ed h hx h.rows 0 rfl
 refine F6.calls ?_
 rw[F6.b0_eq]
 refine ⟨rfl,rfl,?_⟩
 repeat ((with_reducible first|apply A0|apply wI|apply wT|apply wP|apply wS|apply wB);exact rfl)
 rw[Q2,if_pos rfl]
 repeat ((with_reducible first|apply A0|apply wI|apply wT|apply wP|apply wS|apply wB);exact rfl)
 rw[Q2,if_pos rfl]
 repeat ((with_reducible first|apply A0|apply wI|apply wT|apply wP|apply wS|apply wB);exact rfl)
 rw[Q2,if_pos rfl]
 repeat ((with_reducible first|apply A0|apply wI|apply wT|apply wP|apply wS|apply wB);exact rfl)
 rw[Q2,if_pos rfl]
 repeat ((with_reducible first|apply A0|apply wI|apply wT|apply wP|apply wS|apply wB);exact rfl)
 rw[E3,U5,if_pos rfl]
 repeat ((with_reducible first|apply A0|apply wI|apply wT|apply wP|apply wS|apply wB);exact rfl)
 exact key _ (by simp)
theorem xy(L:Laid w0.w)(xs:List PV)(hx:xs.length≤1048576):∀(r:List Hnk) (k:Nat),xs.drop k=r.map K6→(∀ x∈r,x.rows.length≤1048576) →
  F5.n14 (F5.X w0 0) w0 0 (fun r' _=>r' = .pv (.bool true)) [] (.pv (.sl xs)) (.pv (.sl xs)) k
 | [],k,hd,_=>by
  have hk:=N5 hd
  refine F5.n14_in ?_
  rw[F5.b15_eq]
  repeat ((with_reducible first|apply A0|apply wI|apply wT|apply wP|apply wS|apply wB);exact rfl)
  rw[A8,if_neg (by omega)]
  refine F5.n31_in ?_
  rw[F5.b31_eq]
  exact C4 (Nat.zero_le _) rfl
 | h::r,k,hd,ht=>by
  obtain ⟨h1,h2,hk⟩:=G7 hd
  have idx:∀σ,B9 σ B2 ax.td (.pv (.sl xs)) (k:Int)=some (.ro (K6 h) 0):=fun σ=>O1 ke h1 rfl
  refine F5.n14_in ?_
  rw[F5.b15_eq]
  repeat ((with_reducible first|apply A0|apply wI|apply wT|apply wP|apply wS|apply wB);exact rfl)
  rw[A8,if_pos (by omega)]
  refine A0 (idx _) ?_
  repeat ((with_reducible first|apply A0|apply wI|apply wT|apply wP|apply wS|apply wB);exact rfl)
  refine A0 (idx _) ?_
  repeat ((with_reducible first|apply A0|apply wI|apply wT|apply wP|apply wS|apply wB);exact rfl)
  refine Qf L (h:=h) (ht h (by simp)) (F0 ?_)
  rw[Bool.not_true,I7,J3 hk (by omega)]
  exact xy L xs hx r (k+1) h2 (fun x hx=>ht x (List.mem_cons_of_mem _ hx))
theorem Nb(L:Laid w0.w){l:List Hnk}(hl:l.length≤1048576)(ht:∀x∈l,x.rows.length≤1048576)(hR:R (.pv (.bool true)) σ):A1 (cx w0) F5.id [cg l,cg l] σ R:=by
 refine A1.alone L rfl (fun w1 L1=>?_) rfl hR
 refine F5.calls ?_
 rw[F5.b0_eq]
 repeat ((with_reducible first|apply A0|apply wI|apply wT|apply wP|apply wS|apply wB);exact rfl)
 rw[Q2,if_pos rfl]
 exact xy L1 (l.map K6) (by rw[List.length_map];exact hl) l 0 rfl ht
theorem Bm(l:List Hnk)(hx:l.length≤1048576)(ht:∀x∈l,x.rows.length≤1048576):∀(r done:List Hnk),l=done++r→G2.n8 (G2.X w0 0) w0 0 (fun r' _=>r'=cg l) (hkS done) (cg l) (hkA done) done.length
 | [],done,h=>by
  rw[List.append_nil] at h
  subst h
  refine G2.n8_in ?_
  rw[G2.b9_eq]
  repeat ((with_reducible first|apply A0|apply wI|apply wT|apply wP|apply wS|apply wB);exact rfl)
  rw[A8,if_neg (by rw[List.length_map];omega)]
  refine G2.n25_in ?_
  rw[G2.b25_eq]
  exact U9 (σ:=[]) (L:=hkS l) O3 rfl (Yq l) rfl
 | c::r,done,h=>by
  have hk:(l.map K6)[done.length]? = some (K6 c):=by rw[h];simp
  have hlen:l.length=done.length+(r.length+1):=by rw[h];simp
  have hc:=ht c (by rw[h];simp)
  have ih:=Bm l hx ht r (done ++ [c]) (by rw[h];simp)
  simp only[hkA,List.length_append,List.length_singleton] at ih
  have e:done.map K6 ++ [K6 c]=(done ++ [c]).map K6:=by simp
  refine G2.n8_in ?_
  rw[G2.b9_eq]
  repeat ((with_reducible first|apply A0|apply wI|apply wT|apply wP|apply wS|apply wB);exact rfl)
  rw[A8,if_pos (by rw[List.length_map];omega)]
  refine A0 (O1 ke hk rfl) ?_
  repeat ((with_reducible first|apply A0|apply wI|apply wT|apply wP|apply wS|apply wB);exact rfl)
  refine J4 (Vn hc) ?_
  repeat ((with_reducible first|apply A0|apply wI|apply wT|apply wP|apply wS|apply wB);exact rfl)
  refine J4 (v:=.pv (.sl [K6 c])) rfl ?_
  refine J4 (X5 (id:=0) (es:=6) (ver:=done.length) (xs:=done.map K6) (ys:=[K6 c]) rfl rfl (List.length_map _).symm rfl rfl ⟨by rw[List.length_map];show done.length+1≤_;omega,by rw[List.length_map];show (done.length+1)*72≤_;omega⟩) ?_
  rw[J3 (n:=l.length) (by omega) (by omega)]
  rw[List.length_map,e]
  exact G2.n8_weak (M5.drop (τ:=hkS (done ++ [c])) O3 (Nat.zero_le _) rfl rfl) ih
theorem Bz(L:Laid w0.w){l:List Hnk}(hl:l.length≤1048576)(ht:∀x∈l,x.rows.length≤1048576)(hR:R (cg l) σ):A1 (cx w0) G2.id [cg l] σ R:=by
 refine A1.alone L rfl (fun w1 L1=>?_) rfl hR
 refine G2.calls ?_
 rw[G2.b0_eq]
 refine G2.n8_weak (l_':=cg l) (out':=hkA []) (i':=0) (τ:=hkS []) (M5.nil (t:=3) (es:=6) rfl rfl) ?_
 exact Bm l hl ht l [] rfl
end
end Go.Sv
end
section
namespace Go.Sv
open Go Go.Proofs
namespace Y2
def lvs:List (List Nat):=[[],[],[0],[0],[0]]
def lv:Nat→List Nat:=O9 lvs
noncomputable def code:Code:=F3 Tryz.f35
noncomputable def fe:FE:=⟨Tryz.f35,code,lv⟩
theorem ok(w0:B5):FOK (cx w0) Y2.id fe:=⟨Tryz.func35,by kernel_rfl,by kernel_rfl⟩
end Y2
namespace O4
def lvs:List (List Nat):=[[],[],[],[],[1,2],[1,2],[1,2,3,4,5,6,7,8],[1,2,3,4,5,6,7,8],[1,2,3,4,5,6,7,8,13,14],[1,2,3,4,5,6,7,8,13,14],[0]]
def lv:Nat→List Nat:=O9 lvs
noncomputable def code:Code:=F3 Tryz.f15
noncomputable def fe:FE:=⟨Tryz.f15,code,lv⟩
theorem ok(w0:B5):FOK (cx w0) O4.id fe:=⟨Tryz.func15,by kernel_rfl,by kernel_rfl⟩
end O4
namespace U8
def lvs:List (List Nat):=[[0,1],[0,1],[0,1],[0,1],[0,1],[0,1,12],[0],[0],[4],[0,1],[0,1],[0,1],[0,1],[0,1,21],[0,1],[0,1],[4],[0,1],[0,1],[0,1],[0,1],[0,1,5,6],[0,1,5,6],[0,1,5,31],[0,5],[0,5],[4],[0,1],[0,1],[0,1],[4]]
def lv:Nat→List Nat:=O9 lvs
noncomputable def code:Code:=F3 Tryz.f149
noncomputable def fe:FE:=⟨Tryz.f149,code,lv⟩
theorem ok(w0:B5):FOK (cx w0) U8.id fe:=⟨Tryz.func149,by kernel_rfl,by kernel_rfl⟩
end U8
namespace R6
def lvs:List (List Nat):=[[0,1],[0,1],[0,1],[0,1],[0,1],[0,1],[0,1],[0,1],[0,1,13],[0,1],[0],[0,1],[0,1],[0],[0],[4]]
def lv:Nat→List Nat:=O9 lvs
noncomputable def code:Code:=F3 Tryz.f161
noncomputable def fe:FE:=⟨Tryz.f161,code,lv⟩
theorem ok(w0:B5):FOK (cx w0) R6.id fe:=⟨Tryz.func161,by kernel_rfl,by kernel_rfl⟩
end R6
namespace R0
def lvs:List (List Nat):=[[0,1],[0,1],[0,1],[0,1],[0,1],[0,1],[0,1],[0,1],[0,1,16],[0,1],[0],[0,1],[0,1],[0],[0],[4]]
def lv:Nat→List Nat:=O9 lvs
noncomputable def code:Code:=F3 Tryz.f162
noncomputable def fe:FE:=⟨Tryz.f162,code,lv⟩
theorem ok(w0:B5):FOK (cx w0) R0.id fe:=⟨Tryz.func162,by kernel_rfl,by kernel_rfl⟩
end R0
namespace strconv_Atoi
def lvs:List (List Nat):=[[0],[0],[0],[0],[0,4,5],[0,4,5],[0,4,5],[0,4,5,12],[0,4,5],[0,4,5],[2,3],[4],[4],[4],[2,3]]
def lv:Nat→List Nat:=O9 lvs
noncomputable def code:Code:=F3 Tryz.f150
noncomputable def fe:FE:=⟨Tryz.f150,code,lv⟩
theorem ok(w0:B5):FOK (cx w0) strconv_Atoi.id fe:=⟨Tryz.func150,by kernel_rfl,by kernel_rfl⟩
end strconv_Atoi
namespace T6
def lvs:List (List Nat):=[[0],[0],[0],[0],[0,4],[0,4],[0,4],[0,30],[0],[0],[0,5],[0,5],[0,5],[0,5,39],[0,5],[0,5],[0,5],[0,5],[0,5,44],[],[],[2,3],[0,5],[0,5],[0,5],[0,5],[0,5,6],[0,5,6],[0,5,6],[5,6,47,48,49],[5,6,47,48,49],[5,6,47,48,49],[5,6,47,48,49],[5,6,47,48,49,50],[5,6,47,48,49,50],[5,6,47,48,49],[5,6],[5,6,47,48,49],[5,6,47,48,49],[5,6,47,48,49],[5,6,47,48,49],[5,6,8,47,48,49],[5,6,8,47,48,49],[5,6,8,47,48,49],[5,6,8,47,48,49],[5,6,8,47,48,49],[5,6,8,47,48,49,56],[],[],[2,3],[5,6,8,47,48,49],[5,6,8,47,48,49],[5,6,47,48,49],[5,6],[5,6],[5,6],[6,66],[6],[6],[6],[6],[2,3],[0],[0],[0],[9,10],[9,10],[2,3]]
def lv:Nat→List Nat:=O9 lvs
noncomputable def code:Code:=F3 Tryz.f167
noncomputable def fe:FE:=⟨Tryz.f167,code,lv⟩
theorem ok(w0:B5):FOK (cx w0) T6.id fe:=⟨Tryz.func167,by kernel_rfl,by kernel_rfl⟩
end T6
namespace T4
def lvs:List (List Nat):=[[0,1],[0,1],[0,1],[0,1],[0,1,5],[0,1,5],[0,1,5],[0,1,5],[0,1,5,16],[],[],[4],[0,1,5],[0,1,5],[0,1,5,24],[0,1],[0,1],[4],[0,1,5],[0,1,5],[0,1,5,31],[],[],[4],[0,1,5],[0,1,5],[0,1,5,36],[0,1],[0,1],[4],[0,1,5],[0,1,5],[0,1,5],[0,1,5,6],[0,1,5,6],[0,1,5,6,7],[0,1,5,6,7],[0,1,5,6,7,8],[0,1,5,6,7,8],[0,1,5,6,7,8,9],[0,1,5,6,7,8,9],[0,1,5,6,7,8,9,10],[0,1,5,6,7,8,9,10],[0,1,5,6,7,8,9,10],[0,1,5,6,7,8,9,10],[0,1,5,6,7,8,9,10],[0,1,5,6,7,8,9,10],[0,1,5,6,7,8,9,10,59],[0,1,5,6,7,8,9,10],[],[0,1,5,6,7,8,9,10],[0,1,5,6,7,8,9,10],[0,1,5,6,7,8,9,10],[0,1,5,6,7,8,9,10],[0,1,5,6,7,8,9,10,64],[0,1,5,6,7,8,9,10],[0,1,5,6,7,8,9,10],[0,1,5,6,7,8,9,10,11],[0,1,5,6,7,8,9,10,11],[0,1,5,6,7,8,9,10,11],[0,1,5,6,7,8,9,10,11,73],[],[],[4],[0,1,5,6,7,8,9,10,11],[0,1,5,6,7,8,9,10,11],[0,1,5,6,7,8,9,10],[0,1,5,6,7,8,9,10],[0,1,5,6,7,8,9,10],[0,1,5,6,7,8,9,10],[0,1,5,6,7,8,9,10,93],[8],[8],[4],[0,1,5,6,7,8,9,10],[0,1,5,6,7,8,9,10],[0,1,5,6,7,8,9,10],[0,1,5,6,7,8,9,10],[0,1,5,6,7,8,9,10],[0,1,5,6,7,8,9,10],[0,1,5,6,7,8,9,10],[0,1,5,6,7,8,9,10,107],[0,1,8],[0,1,8],[8,12],[8,12],[8,12],[8,12,114],[8,12],[8,12],[4],[],[],[],[4],[0,1,5,6,7,8,9,10],[0,1,5,6,7,8,9,10],[0,1,5,6,7,8,9,10,132],[0,1,8],[0,1,8],[8,13],[8,13],[8,13],[8,13,139],[],[],[4],[8,13],[8,13],[8,13],[4],[0,1,5,6,7,8,9,10],[],[],[4]]
def lv:Nat→List Nat:=O9 lvs
noncomputable def code:Code:=F3 Tryz.f139
noncomputable def fe:FE:=⟨Tryz.f139,code,lv⟩
theorem ok(w0:B5):FOK (cx w0) T4.id fe:=⟨Tryz.func139,by kernel_rfl,by kernel_rfl⟩
end T4
namespace T7
def lvs:List (List Nat):=[[0,1],[0,1],[0,1],[0,1],[4]]
def lv:Nat→List Nat:=O9 lvs
noncomputable def code:Code:=F3 Tryz.f101
noncomputable def fe:FE:=⟨Tryz.f101,code,lv⟩
theorem ok(w0:B5):FOK (cx w0) T7.id fe:=⟨Tryz.func101,by kernel_rfl,by kernel_rfl⟩
end T7
end Go.Sv
end
section
namespace Go.Sv
open Go Go.RowKit Go.Proofs
noncomputable def feX:List (FuncId×FE):=[(L5.id,L5.fe),(P5.id,P5.fe),(E1.id,E1.fe),(S7.id,S7.fe),(D4.id,D4.fe),(G3.id,G3.fe),(C1.id,C1.fe),(P7.id,P7.fe),(I9.id,I9.fe),(H8.id,H8.fe),(M6.id,M6.fe),(G9.id,G9.fe),(D2.id,D2.fe),(B4.id,B4.fe),(F1.id,F1.fe),(G4.id,G4.fe),(K7.id,K7.fe),(A9.id,A9.fe),(B8.id,B8.fe),(P2.id,P2.fe),(N3.id,N3.fe),(Y2.id,Y2.fe),(O2.id,O2.fe),(L2.id,L2.fe),(W1.id,W1.fe),(P6.id,P6.fe),(M9.id,M9.fe),(U8.id,U8.fe),(R6.id,R6.fe),(R0.id,R0.fe),(E6.id,E6.fe),(E2.id,E2.fe),(M4.id,M4.fe),(H2.id,H2.fe),(strconv_Atoi.id,strconv_Atoi.fe),(T6.id,T6.fe),(H1.id,H1.fe),(T4.id,T4.fe),(T7.id,T7.fe),(C2.id,C2.fe),(G1.id,G1.fe),(O7.id,O7.fe),(J5.id,J5.fe),(L8.id,L8.fe),(S8.id,S8.fe),(P4.id,P4.fe),(Q7.id,Q7.fe),(F4.id,F4.fe),(R5.id,R5.fe),(J0.id,J0.fe),(M0.id,M0.fe),(U1.id,U1.fe),(H9.id,H9.fe),(Q0.id,Q0.fe),(T2.id,T2.fe),(P0.id,P0.fe),(H4.id,H4.fe),(W2.id,W2.fe),(H5.id,H5.fe),(I4.id,I4.fe),(L0.id,L0.fe),(H0.id,H0.fe),(Y3.id,Y3.fe),(F6.id,F6.fe),(F5.id,F5.fe),(O4.id,O4.fe)]
theorem aN(w0:B5):ut (cx w0) feX:=⟨L5.ok w0,P5.ok w0,E1.ok w0,S7.ok w0,D4.ok w0,G3.ok w0,C1.ok w0,P7.ok w0,I9.ok w0,H8.ok w0,M6.ok w0,G9.ok w0,D2.ok w0,B4.ok w0,F1.ok w0,G4.ok w0,K7.ok w0,A9.ok w0,B8.ok w0,P2.ok w0,N3.ok w0,Y2.ok w0,O2.ok w0,L2.ok w0,W1.ok w0,P6.ok w0,M9.ok w0,U8.ok w0,R6.ok w0,R0.ok w0,E6.ok w0,E2.ok w0,M4.ok w0,H2.ok w0,strconv_Atoi.ok w0,T6.ok w0,H1.ok w0,T4.ok w0,T7.ok w0,C2.ok w0,G1.ok w0,O7.ok w0,J5.ok w0,L8.ok w0,S8.ok w0,P4.ok w0,Q7.ok w0,F4.ok w0,R5.ok w0,J0.ok w0,M0.ok w0,U1.ok w0,H9.ok w0,Q0.ok w0,T2.ok w0,P0.ok w0,H4.ok w0,W2.ok w0,H5.ok w0,I4.ok w0,L0.ok w0,H0.ok w0,Y3.ok w0,F6.ok w0,F5.ok w0,O4.ok w0,trivial⟩
theorem Tr(w0:B5):pb (cx w0) (ox feX) (iu sy) 1000 30 O4.id [] []=some (.pv (.bool true),[]):=by kernel_rfl
theorem tk{w0:B5}{σ:A2}{R:AV→A2→Prop}(L:Laid w0.w)(hR:R (.pv (.bool true)) σ):A1 (cx w0) O4.id [] σ R:=
 A1.alone L rfl (fun w1 L1=>mu L1 (aN w1) (Tr w1) rfl) rfl hR
end Go.Sv
end
section
namespace Go.Sv
section
open Go Go.RowKit Go.Proofs
variable {w0:B5}{σ:A2}{R:AV→A2→Prop}
abbrev jobC(p s p' s':List UInt8)(l:List Hnk):List AV:=[.pv (.str p),.pv (.str s),.pv (.str p'),.pv (.str s'),cg l]
abbrev jobS(p s p' s':List UInt8)(l:List Hnk):A2:=[.cells 26 (jobC p s p' s' l)]
open Go.Proofs.YtebgkjjbbnbnlaaGreatDoor in
theorem Uq{H:Type}{d0:DataW H}{ds:List (DataW H)}(hT:jp B2 12 26 (X6 d0))(hk:Rows.uptoSmall H (d0::ds)=true):∃p s p' s' l,X6 d0 = .agg [.str p,.str s,.str p',.str s',.sl (l.map K6)]∧rg p s p' s' l∧R3 (l.map K6)≤1048576:=by
 obtain ⟨qs,e,g⟩:=kj tab26 Xz hT
 obtain ⟨_,qs,rfl,h1,h⟩:=V0 g
 obtain ⟨_,qs,rfl,h2,h⟩:=V0 h
 obtain ⟨_,qs,rfl,h3,h⟩:=V0 h
 obtain rfl:=mi h
 obtain ⟨p,s,rfl⟩:=Ib h1
 obtain ⟨p',s',rfl⟩:=Ib h2
 obtain ⟨xs,rfl,hx⟩:=Ag tab24 Xi h3
 obtain ⟨l,rfl,hl⟩:=Lv xs hx
 have hb:Rows.uptoBulkAll (d0::ds)≤1048576:=of_decide_eq_true hk
 have h0:=Pt d0
 simp only[Rows.uptoBulkAll] at hb
 have e':X6 d0 = .agg [.str p,.str s,.str p',.str s',.sl (l.map K6)]:=e
 rw[e'] at h0
 simp only[pvB,R3] at h0
 obtain ⟨g1,g2⟩:=Xt (B:=1048576) (Nat.le_refl _) (by omega) hl
 exact ⟨p,s,p',s',l,e',⟨by omega,by omega,by omega,by omega,g1,g2,by omega⟩,by omega⟩
end
end Go.Sv
end
section
namespace Go.Sv
section
open Go Go.RowKit Go.Proofs
variable {w0:B5}{σ:A2}{R:AV→A2→Prop}
theorem eq_nm(p s:Ln):zl B2 D5 false (.pv (nmP p s)) (.pv (nmP p s))=some true:=by
 have h:zl B2 D5 false (.pv (nmP p s)) (.pv (nmP p s))=some ((p==p)&&((s==s)&&true)):=rfl
 rw[h];simp
theorem Vh{p s:Ln}{k:AV→Prop}(hk:k (.pv (.bool true))):T0 B2 23 false .eql (.pv (nmP p s)) (.pv (nmP p s)) k:=by
 show opt (B2 23) fun ti=>opt (zl B2 ti false (.pv (nmP p s)) (.pv (nmP p s))) fun b=>k (.pv (.bool b))
 exact A0 rfl (A0 (eq_nm p s) hk)
theorem Th{p s p' s':Ln}{l:List Hnk}(o:rg p s p' s' l)(hf:T9 p s p' s' l=0):N2 p s=true∧N2 p' s'=true∧l.all J2=true∧(∀ h∈l,J2 h=true∧Z2 h)∧ak l=true:=by
 unfold T9 at hf
 split at hf
 ·cases hf
 ·rename_i g1
  split at hf
  ·cases hf
  ·rename_i g2
   split at hf
   ·cases hf
   ·rename_i g3
    have g1:(N2 p s&&N2 p' s')=true:=by simpa using g1
    have g2:l.all J2=true:=by simpa using g2
    have g3:ak l=true:=by simpa using g3
    rw[Bool.and_eq_true] at g1
    exact ⟨g1.1,g1.2,g2,fun h hh=>⟨List.all_eq_true.1 g2 h hh,o.ok h hh⟩,g3⟩
end
end Go.Sv
end
section
namespace Go.Sv
open Go Go.Proofs
namespace B3
def lvs:List (List Nat):=[[0],[0],[1],[1],[1,3],[1,3],[1,3],[1,3,4],[1,3,4],[1,3,4],[1,3,4],[1,3,4],[1,3,4,26],[1,3,4],[1,3],[1,3,4],[1,3,4],[1,3,4],[1,3,4],[1,3,4,5],[1,3,4,5],[1,3,4,5],[1,3,4],[1,3],[1,3],[1,3],[1,3,53],[],[],[2],[1,3],[1,3],[1,3],[1,3,6,7],[1,3,6,7],[6,7,8,9],[6,7,8,9],[6,7,8,9],[6,8,80],[],[],[2],[6,8],[6,8],[6,8],[6,8],[6,8,88],[],[],[2],[6,8],[6,8],[6,8],[8,10,11,12,15],[8,10,11,12,15],[10,11,12,15,16,17,18,21],[10,11,12,15,16,17,18,21],[2]]
def lv:Nat→List Nat:=O9 lvs
noncomputable def code:Code:=F3 Tryz.f7
noncomputable def fe:FE:=⟨Tryz.f7,code,lv⟩
def A5:List Nat:=[9,23,26,38,46,57]
abbrev X(w0:B5)(n:Nat):XT:=xr (cx w0) 132 lv n
theorem ok(w0:B5):FOK (cx w0) B3.id fe:=⟨Tryz.func7,by kernel_rfl,by kernel_rfl⟩
section
variable (Z:XT)(w0:B5)(n:Nat)(R:RT)(σ:A2)(j l_:AV)(i:Int)(t53:Bool)(s t:List UInt8)(t80 t88 t2:Bool)
def q5:QT:=D6 (fun env σ=>Z (cAt code 23) 23 (prune (lv 23) env) σ (B7 (cx w0) Tryz.f7 n R)) (B7 (cx w0) Tryz.f7 n R)
def q8:QT:=H7 0 (q5 Z w0 n R)
def q9:QT:=D6 (fun env σ=>Z (cAt code 8) 8 (prune (lv 8) env) σ (q8 Z w0 n R)) (q8 Z w0 n R)
def q24:QT:=D6 (fun env σ=>A6 (cx w0) 132 lv n A5 Z (cAt code 31) 31 (prune (lv 31) env) σ (B7 (cx w0) Tryz.f7 n R)) (B7 (cx w0) Tryz.f7 n R)
def q36:QT:=D6 (fun env σ=>A6 (cx w0) 132 lv n A5 Z (cAt code 43) 43 (prune (lv 43) env) σ (B7 (cx w0) Tryz.f7 n R)) (B7 (cx w0) Tryz.f7 n R)
def q44:QT:=D6 (fun env σ=>A6 (cx w0) 132 lv n A5 Z (cAt code 51) 51 (prune (lv 51) env) σ (B7 (cx w0) Tryz.f7 n R)) (B7 (cx w0) Tryz.f7 n R)
def n8:Prop:=
 Z (cAt code 8) 8 [(1,j),(3,l_),(4,(.pv (.int .i64 i)))] σ (q8 Z w0 n R)
def b9:Prop:=
 A6 (cx w0) 132 lv n A5 Z (cAt code 9) 9 [(1,j),(3,l_),(4,(.pv (.int .i64 i)))] σ (q9 Z w0 n R)
def n23:Prop:=
 Z (cAt code 23) 23 [(1,j),(3,l_)] σ (B7 (cx w0) Tryz.f7 n R)
def b23:Prop:=
 A6 (cx w0) 132 lv n A5 Z (cAt code 23) 23 [(1,j),(3,l_)] σ (B7 (cx w0) Tryz.f7 n R)
def n26:Prop:=
 Z (cAt code 26) 26 [(1,j),(3,l_),(53,(.pv (.bool t53)))] σ (q24 Z w0 n R)
def b26:Prop:=
 A6 (cx w0) 132 lv n A5 Z (cAt code 26) 26 [(1,j),(3,l_),(53,(.pv (.bool t53)))] σ (q24 Z w0 n R)
def n38:Prop:=
 Z (cAt code 38) 38 [(6,(.pv (.str s))),(8,(.pv (.str t))),(80,(.pv (.bool t80)))] σ (q36 Z w0 n R)
def b38:Prop:=
 A6 (cx w0) 132 lv n A5 Z (cAt code 38) 38 [(6,(.pv (.str s))),(8,(.pv (.str t))),(80,(.pv (.bool t80)))] σ (q36 Z w0 n R)
def n46:Prop:=
 Z (cAt code 46) 46 [(6,(.pv (.str s))),(8,(.pv (.str t))),(88,(.pv (.bool t88)))] σ (q44 Z w0 n R)
def b46:Prop:=
 A6 (cx w0) 132 lv n A5 Z (cAt code 46) 46 [(6,(.pv (.str s))),(8,(.pv (.str t))),(88,(.pv (.bool t88)))] σ (q44 Z w0 n R)
def n57:Prop:=
 Z (cAt code 57) 57 [(2,(.pv (.bool t2)))] σ (B7 (cx w0) Tryz.f7 n R)
def b57:Prop:=
 A6 (cx w0) 132 lv n A5 Z (cAt code 57) 57 [(2,(.pv (.bool t2)))] σ (B7 (cx w0) Tryz.f7 n R)
def b0:Prop:=
 A6 (cx w0) 132 lv n A5 Z code 0 (J6 0 [j]) σ (B7 (cx w0) Tryz.f7 n R)
end
variable {Z:XT}{w0:B5}{n:Nat}{R:RT}{σ τ:A2}{j l_ j' l_':AV}{i i':Int}{t53 t80 t88 t2:Bool}{s t:List UInt8}
theorem n8_in(h:b9 (X w0 n) w0 n R σ j l_ i):n8 (X w0 n) w0 n R σ j l_ i:=I5 (J9 w0) (S:=A5) (by kernel_rfl:cAt code 8 = .loop (cAt code 9)) h
theorem n8_weak(e:M5 (cx w0) n [(1,j),(3,l_),(4,(.pv (.int .i64 i)))] σ [(1,j'),(3,l_'),(4,(.pv (.int .i64 i')))] τ)(h:n8 (X w0 n) w0 n R τ j' l_' i'):n8 (X w0 n) w0 n R σ j l_ i:=T5 (L:=lv) (k:=8) (by kernel_rfl:cAt code 8 = .loop (cAt code 9)) e h
theorem b9_eq:b9 Z w0 n R σ j l_ i=(
 opt (A3 B2 Du.td j 2) fun t23=>opt (A4 σ ax t23) fun t24=>opt (R2 ax.td t24) fun t25=>isI .i64 t25 fun t25_1=>B1 (decide ((i:Int)<t25_1)) (opt (A3 B2 Du.td j 2) fun t29=>opt (A4 σ ax t29) fun t30=>opt (B9 σ B2 ax.td t30 i) fun t32=>opt (A4 σ E4 t32) fun t33=>opt (C3 (σ ++ [.cells 39 (AV.ofValue E4.zero).cells]) E4 (.ptr (List.length σ) 0) t33) fun σ'=>opt (A3 B2 E4.td (.ptr (List.length σ) 0) 5) fun t34=>opt (A4 σ' R7 t34) fun t35=>A1 (cx w0) C6.id [t35] σ' fun r σ'_1=>opt (A3 B2 E4.td (.ptr (List.length σ) 0) 5) fun t37=>opt (C3 σ'_1 R7 t37 r) fun σ'_2=>opt (A4 σ'_2 E4 (.ptr (List.length σ) 0)) fun t39=>opt2 (J1 σ'_2 E4 false 1 [(0,t39)]) fun t40 σ'_3=>opt2 (N8 σ'_3 E4 l_ t40) fun t41 σ'_4=>n8 Z w0 n R σ'_4 j t41 (IntKind.wrap .i64 (i+1))) (n23 Z w0 n R σ j l_)):=by kernel_rfl
theorem b23_eq:b23 Z w0 n R σ j l_=(
 opt (A3 B2 Du.td j 0) fun t42=>opt (A4 σ D5 t42) fun t43=>opt (A3 B2 Du.td j 1) fun t44=>opt (A4 σ D5 t44) fun t45=>A1 (cx w0) C0.id [t43,t45,l_] σ fun r σ'=>isI .i64 r fun t47=>B1 ((t47:Int) != 0) (n26 Z w0 n R σ' j l_ true) (opt (R2 ax.td l_) fun t51=>isI .i64 t51 fun t51_1=>n26 Z w0 n R σ' j l_ ((t51_1:Int)==0))):=by kernel_rfl
theorem n23_in(h:b23 (X w0 n) w0 n R σ j l_):n23 (X w0 n) w0 n R σ j l_:=E0 (S:=A5) (by kernel_rfl) h
theorem b26_eq:b26 Z w0 n R σ j l_ t53=(
 B1 t53 (A1 (cx w0) O4.id [] σ fun r σ'=>isB r fun t54=>F2 (cx w0) n (.pv (.bool t54)) σ' R) (opt (A3 B2 Du.td j 0) fun t56=>opt (A4 σ D5 t56) fun t57=>opt (A3 B2 Du.td j 1) fun t58=>opt (A4 σ D5 t58) fun t59=>A1 (cx w0) G2.id [l_] σ fun r σ'=>((opt (A4 σ' D5 t56) fun t57_1=>((t57_1:AV)=t57))∧(((opt (A4 σ' D5 t58) fun t59_1=>((t59_1:AV)=t59))∧(A1 (cx w0) L5.id [t57,t59,r] σ' fun r_1 σ'_1=>isTup r_1 fun vs=>opt ((vs)[0]?) fun t63=>isS t63 fun t63_1=>isTup r_1 fun vs_1=>opt ((vs_1)[1]?) fun t64=>opt (A3 B2 Du.td j 0) fun t66=>opt (A4 σ'_1 D5 t66) fun t67=>opt (A3 B2 Du.td j 1) fun t68=>opt (A4 σ'_1 D5 t68) fun t69=>A1 (cx w0) G2.id [l_] σ'_1 fun r_2 σ'_2=>((opt (A4 σ'_2 D5 t66) fun t67_1=>((t67_1:AV)=t67))∧(((opt (A4 σ'_2 D5 t68) fun t69_1=>((t69_1:AV)=t69))∧(A1 (cx w0) C2.id [t67,t69,r_2] σ'_2 fun r_3 σ'_3=>isTup r_3 fun vs_2=>opt ((vs_2)[0]?) fun t73=>isS t73 fun t73_1=>isTup r_3 fun vs_3=>opt ((vs_3)[1]?) fun t74=>T0 B2 29 true .neq t64 (.pv (.raw .nilIface)) fun v=>isB v fun b=>B1 b (n38 Z w0 n R σ'_3 t63_1 t73_1 true) (T0 B2 29 true .neq t74 (.pv (.raw .nilIface)) fun v_1=>isB v_1 fun b_1=>n38 Z w0 n R σ'_3 t63_1 t73_1 b_1))))))))))):=by kernel_rfl
theorem n26_in(h:b26 (X w0 n) w0 n R σ j l_ t53):n26 (X w0 n) w0 n R σ j l_ t53:=E0 (S:=A5) (by kernel_rfl) h
theorem b38_eq:b38 Z w0 n R σ s t t80=(
 B1 t80 (F2 (cx w0) n (.pv (.bool false)) σ R) (B1 (decide (((List.length (s:List UInt8):Int):Int)>4194304)) (n46 Z w0 n R σ s t true) (n46 Z w0 n R σ s t (decide (((List.length (t:List UInt8):Int):Int)>4194304))))):=by kernel_rfl
theorem n38_in(h:b38 (X w0 n) w0 n R σ s t t80):n38 (X w0 n) w0 n R σ s t t80:=E0 (S:=A5) (by kernel_rfl) h
theorem b46_eq:b46 Z w0 n R σ s t t88=(
 B1 t88 (A1 (cx w0) O4.id [] σ fun r σ'=>isB r fun t89=>F2 (cx w0) n (.pv (.bool t89)) σ' R) (A1 (cx w0) C1.id [(.pv (.str s))] σ fun r σ'=>isTup r fun vs=>opt ((vs)[0]?) fun t93=>isTup r fun vs_1=>opt ((vs_1)[1]?) fun t94=>isTup r fun vs_2=>opt ((vs_2)[2]?) fun t95=>isTup r fun vs_3=>opt ((vs_3)[3]?) fun t96=>isS t96 fun t96_1=>isTup r fun vs_4=>opt ((vs_4)[4]?) fun t97=>isI .i64 t97 fun t97_1=>isTup r fun vs_5=>opt ((vs_5)[5]?) fun t98=>opt (C3 ((σ' ++ [.cells 23 (AV.ofValue D5.zero).cells]) ++ [.cells 23 (AV.ofValue D5.zero).cells]) D5 (.ptr (List.length σ') 0) t93) fun σ'_1=>opt (C3 σ'_1 D5 (.ptr (List.length (σ' ++ [.cells 23 (AV.ofValue D5.zero).cells])) 0) t94) fun σ'_2=>A1 (cx w0) G6.id [(.pv (.str t))] σ'_2 fun r_1 σ'_3=>isTup r_1 fun vs_6=>opt ((vs_6)[0]?) fun t102=>isTup r_1 fun vs_7=>opt ((vs_7)[1]?) fun t103=>isTup r_1 fun vs_8=>opt ((vs_8)[2]?) fun t104=>isTup r_1 fun vs_9=>opt ((vs_9)[3]?) fun t105=>isS t105 fun t105_1=>isTup r_1 fun vs_10=>opt ((vs_10)[4]?) fun t106=>isI .i64 t106 fun t106_1=>isTup r_1 fun vs_11=>opt ((vs_11)[5]?) fun t107=>opt (C3 ((σ'_3 ++ [.cells 23 (AV.ofValue D5.zero).cells]) ++ [.cells 23 (AV.ofValue D5.zero).cells]) D5 (.ptr (List.length σ'_3) 0) t102) fun σ'_4=>opt (C3 σ'_4 D5 (.ptr (List.length (σ'_3 ++ [.cells 23 (AV.ofValue D5.zero).cells])) 0) t103) fun σ'_5=>T0 B2 29 true .eql t98 (.pv (.raw .nilIface)) fun v=>isB v fun b=>B1 b (T0 B2 29 true .eql t107 (.pv (.raw .nilIface)) fun v_1=>isB v_1 fun b_1=>B1 b_1 (opt (A4 σ'_5 D5 (.ptr (List.length σ') 0)) fun t115=>opt (A4 σ'_5 D5 (.ptr (List.length σ'_3) 0)) fun t116=>T0 B2 23 false .eql t115 t116 fun v_2=>isB v_2 fun b_2=>B1 b_2 (opt (A4 σ'_5 D5 (.ptr (List.length (σ' ++ [.cells 23 (AV.ofValue D5.zero).cells])) 0)) fun t120=>opt (A4 σ'_5 D5 (.ptr (List.length (σ'_3 ++ [.cells 23 (AV.ofValue D5.zero).cells])) 0)) fun t121=>T0 B2 23 false .eql t120 t121 fun v_3=>isB v_3 fun b_3=>B1 b_3 (A1 (cx w0) F5.id [t95,t104] σ'_5 fun r_2 σ'_6=>isB r_2 fun t127=>B1 t127 (A1 (cx w0) O4.id [] σ'_6 fun r_3 σ'_7=>isB r_3 fun t130=>n57 Z w0 n R σ'_7 t130) (n57 Z w0 n R σ'_6 false)) (n57 Z w0 n R σ'_5 false)) (n57 Z w0 n R σ'_5 false)) (n57 Z w0 n R σ'_5 false)) (n57 Z w0 n R σ'_5 false))):=by kernel_rfl
theorem n46_in(h:b46 (X w0 n) w0 n R σ s t t88):n46 (X w0 n) w0 n R σ s t t88:=E0 (S:=A5) (by kernel_rfl) h
theorem b57_eq:b57 Z w0 n R σ t2=(
 F2 (cx w0) n (.pv (.bool t2)) σ R):=by kernel_rfl
theorem n57_in(h:b57 (X w0 n) w0 n R σ t2):n57 (X w0 n) w0 n R σ t2:=E0 (S:=A5) (by kernel_rfl) h
theorem b0_eq:b0 Z w0 n R σ j=(
 ((AV.cells j).all AV.one=true∧(n8 Z w0 n R (σ ++ [.cells 26 (AV.cells j)]) (.ptr (List.length σ) 0) .nilsl 0))):=by kernel_rfl
theorem calls(h:b0 (X w0 (List.length σ)) w0 (List.length σ) R σ j):A1 (cx w0) B3.id [j] σ R:=
 D3 (J9 w0) (x:=fe) (S:=A5) (B3.ok w0) (by kernel_rfl) h
end B3
end Go.Sv
end
