/- Package normal, reading: rows that are taken behind a mark. Package normal, reading: the commands of a text, as hunks without context: what the code answers. Package normal, reading: what Parse answers. -/
import Derived.Test.YtgdnoobpnhmpjaaGreatDoorSmJ
set_option linter.unusedVariables false
set_option linter.unusedSimpArgs false
set_option maxRecDepth 100000
section
namespace Go.Sv.Nm
open Go Go.RowKit Go.Proofs
def takeF:Nat→Ln→Int→List Ln→List Row×Nat×Bool
 | 0,_,_,_=>([],0,true)
 | _+1,_,_,[]=>([],0,false)
 | q+1,mk,kd,l::r=>if Lib.hasPrefix l mk=false then ([],0,false) else match r with
  | []=>(⟨kd,l.drop mk.length⟩::(takeF q mk kd []).1,(takeF q mk kd []).2.1+1,(takeF q mk kd []).2.2)
  | m::r'=>if m.headD 0=92 then (⟨kd,H4 (l.drop mk.length)⟩::(takeF q mk kd r').1,(takeF q mk kd r').2.1+2,(takeF q mk kd r').2.2)
   else (⟨kd,l.drop mk.length⟩::(takeF q mk kd (m::r')).1,(takeF q mk kd (m::r')).2.1+1,(takeF q mk kd (m::r')).2.2)
theorem takeF_no{q:Nat}{mk:Ln}{kd:Int}{l:Ln}{r:List Ln}(h:Lib.hasPrefix l mk=false):takeF (q+1) mk kd (l::r)=([],0,false):=by
 cases r<;>simp[takeF,h]
theorem takeF_out(mk:Ln)(kd:Int):∀(q:Nat) (L:List Ln),(takeF q mk kd L).2.1≤L.length∧(takeF q mk kd L).1.length≤(takeF q mk kd L).2.1 ∧ ∀x∈(takeF q mk kd L).1,∃l∈L,x.t.length≤l.length
 | 0,L=>⟨Nat.zero_le _,Nat.le_refl _,nofun⟩
 | q+1,[]=>⟨Nat.le_refl _,Nat.le_refl _,nofun⟩
 | q+1,l::r=>by
  unfold takeF
  split
  ·exact ⟨Nat.zero_le _,Nat.le_refl _,nofun⟩
  ·split
   ·obtain ⟨h1,h2,h3⟩:=takeF_out mk kd q []
    refine ⟨by simp only[List.length_cons,List.length_nil] at h1 ⊢;omega,by simp only[List.length_cons];omega,fun x hx=>?_⟩
    rcases List.mem_cons.1 hx with rfl|hx
    ·exact ⟨l,by simp,by rw[List.length_drop];omega⟩
    ·obtain ⟨y,hy,_⟩:=h3 x hx
     cases hy
   ·rename_i m r'
    split
    ·obtain ⟨h1,h2,h3⟩:=takeF_out mk kd q r'
     refine ⟨by simp only[List.length_cons];omega,by simp only[List.length_cons];omega,fun x hx=>?_⟩
     rcases List.mem_cons.1 hx with rfl|hx
     ·refine ⟨l,by simp,?_⟩
      have:(H4 (l.drop mk.length)).length≤(l.drop mk.length).length:=by
       unfold H4;split
       ·rw[List.length_dropLast];omega
       ·omega
      rw[List.length_drop] at this
      show (H4 (l.drop mk.length)).length≤_
      omega
     ·obtain ⟨y,hy,h⟩:=h3 x hx
      exact ⟨y,List.mem_cons_of_mem _ (List.mem_cons_of_mem _ hy),h⟩
    ·obtain ⟨h1,h2,h3⟩:=takeF_out mk kd q (m::r')
     refine ⟨by simp only[List.length_cons] at h1 ⊢;omega,by simp only[List.length_cons];omega,fun x hx=>?_⟩
     rcases List.mem_cons.1 hx with rfl|hx
     ·exact ⟨l,by simp,by rw[List.length_drop];omega⟩
     ·obtain ⟨y,hy,h⟩:=h3 x hx
      exact ⟨y,List.mem_cons_of_mem _ hy,h⟩
section
variable {w0:B4}{R:AV→A1→Prop}
abbrev rdC(n at_:Nat):List AV:=[.arr 0 n 0 n,.pv (.int .i64 (at_:Nat))]
abbrev pT(ls:List Ln)(at_:Nat)(out:List Hnk)(h:Hnk)(rows:List Row):A1:=[.arr 1 (ls.map PV.str) false,.cells 167 (rdC ls.length at_),.arr 6 (out.map O2) false,.cells 46 (hC h (.arr 4 rows.length 0 rows.length)),.arr 2 (rows.map P0) false]
theorem sr(L:Laid w0.w){ls:List Ln}(hn:ls.length≤1099511627776)(hne:∀l∈ls,l ≠ [])(hl:∀l∈ls,l.length≤1099511627776)(out:List Hnk)(h:Hnk)(mk:Ln)(kd n_:Int)(hn_:n_≤4294967296){n:Nat}(h5:n≤5):∀(q k at_:Nat) (rows:List Row),(n_-(k:Int)).toNat=q→at_≤ls.length→rows.length≤at_ →
  R (.pv (.bool (takeF q mk kd (ls.drop at_)).2.2)) (pT ls (at_+(takeF q mk kd (ls.drop at_)).2.1) out h (rows++(takeF q mk kd (ls.drop at_)).1)) →
  normal_reader_take.n6 (normal_reader_take.X w0 n) w0 n R (pT ls at_ out h rows) (.ptr 1 0) (.ptr 3 0) mk kd n_ k
 | 0,k,at_,rows,hq,ha,hr,hR=>by
  refine normal_reader_take.n6_in ?_
  rw[normal_reader_take.b7_eq,B0,if_neg (by omega)]
  refine normal_reader_take.n37_in ?_
  rw[normal_reader_take.b37_eq]
  refine D6 (by simpa using h5) ?_
  unfold takeF at hR
  simpa using hR
 | q+1,k,at_,rows,hq,ha,hr,hR=>by
  have hk:(k:Int)<n_:=by omega
  have bad:takeF (q+1) mk kd (ls.drop at_)=([],0,false)→normal_reader_take.n18 (normal_reader_take.X w0 n) w0 n R (pT ls at_ out h rows) (.ptr 1 0) (.ptr 3 0) mk kd n_ k true:=by
   intro e
   refine normal_reader_take.n18_in ?_
   rw[normal_reader_take.b18_eq,D4]
   refine D6 (by simpa using h5) ?_
   rw[e] at hR
   simpa using hR
  refine normal_reader_take.n6_in ?_
  rw[normal_reader_take.b7_eq,B0,if_pos hk]
  repeat ((with_reducible first|apply A0|apply wI|apply wT|apply wP|apply wS|apply wB);exact rfl)
  rw[B0]
  refine B5 (fun g=>bad ?_) (fun g=>?_)
  ·rw[List.drop_eq_nil_of_le (by omega)]
   rfl
  ·have hlt:at_<ls.length:=by omega
   have gl:ls[at_]? = some ls[at_]:=List.getElem?_eq_getElem hlt
   have hd:ls.drop at_=ls[at_]::ls.drop (at_+1):=List.drop_eq_getElem_cons hlt
   have hll:ls[at_].length≤1099511627776:=hl _ (List.getElem_mem hlt)
   generalize ls[at_]=l at gl hd hll
   repeat ((with_reducible first|apply A0|apply wI|apply wT|apply wP|apply wS|apply wB);exact rfl)
   refine A0 (gg (off:=0) (len:=ls.length) rfl rfl hlt) ?_
   rw[Nat.zero_add]
   refine A0 (Z1 rfl rfl gl) (F4 ?_)
   refine O3 (E5 ?_)
   cases hp:Lib.hasPrefix l mk with
   | false=>
    refine bad ?_
    rw[hd,takeF_no hp]
   | true=>
    have hpl:=jm hp
    refine normal_reader_take.n18_in ?_
    rw[normal_reader_take.b18_eq,show (!true)=false from rfl,C3]
    repeat ((with_reducible first|apply A0|apply wI|apply wT|apply wP|apply wS|apply wB);exact rfl)
    refine A0 (gg (off:=0) (len:=ls.length) rfl rfl hlt) ?_
    rw[Nat.zero_add]
    refine A0 (Z1 rfl rfl gl) (F4 ?_)
    refine A0 (F5 hpl) (F4 ?_)
    repeat ((with_reducible first|apply A0|apply wI|apply wT|apply wP|apply wS|apply wB);exact rfl)
    rw[K6 hlt (by omega)]
    have tail:∀(at2:Nat) (t:Ln),at2≤ls.length→at_<at2→(takeF (q+1) mk kd (ls.drop at_)).1=⟨kd,t⟩::(takeF q mk kd (ls.drop at2)).1→(takeF (q+1) mk kd (ls.drop at_)).2.1=(takeF q mk kd (ls.drop at2)).2.1+(at2-at_)→(takeF (q+1) mk kd (ls.drop at_)).2.2=(takeF q mk kd (ls.drop at2)).2.2 →
      normal_reader_take.n35 (normal_reader_take.X w0 n) w0 n R (pT ls at2 out h rows) (.ptr 1 0) (.ptr 3 0) mk kd t n_ k:=by
     intro at2 t h2 h3 e1 e2 e3
     refine normal_reader_take.n35_in ?_
     rw[normal_reader_take.b35_eq]
     repeat ((with_reducible first|apply A0|apply wI|apply wT|apply wP|apply wS|apply wB);exact rfl)
     refine J5 (v:=.pv (.sl [P0 (⟨kd,t⟩:Row)])) rfl ?_
     refine J5 (jp (es:=2) (xs:=rows.map P0) (ys:=[P0 (⟨kd,t⟩:Row)]) rfl rfl (List.length_map ..) rfl (qf (B:=1099511627777) (by rw[List.length_map];show rows.length+1≤_;omega) (by decide) (by decide))) ?_
     have e:rows.map P0 ++ [P0 (⟨kd,t⟩:Row)]=(rows ++ [(⟨kd,t⟩:Row)]).map P0:=by rw[List.map_append];rfl
     rw[e,List.length_map]
     repeat ((with_reducible first|apply A0|apply wI|apply wT|apply wP|apply wS|apply wB);exact rfl)
     rw[D8 (n:=(k:Int)+1) (by omega) (by omega)]
     refine sr L hn hne hl out h mk kd n_ hn_ h5 q (k+1) at2 (rows ++ [⟨kd,t⟩]) (by omega) h2 (by rw[List.length_append,List.length_singleton];omega) ?_
     rw[e1,e2,e3] at hR
     have ea:at_+((takeF q mk kd (ls.drop at2)).2.1+(at2-at_))=at2+(takeF q mk kd (ls.drop at2)).2.1:=by omega
     rw[ea] at hR
     rw[List.append_assoc]
     exact hR
    have h30:∀(b:Bool) (t:Ln),t=l.drop mk.length→(b=true→at_+1<ls.length)→((takeF (q+1) mk kd (ls.drop at_)).1=⟨kd,if b=true then H4 t else t⟩::(takeF q mk kd (ls.drop (at_+1+b.toNat))).1∧(takeF (q+1) mk kd (ls.drop at_)).2.1=(takeF q mk kd (ls.drop (at_+1+b.toNat))).2.1+(at_+1+b.toNat-at_)∧(takeF (q+1) mk kd (ls.drop at_)).2.2=(takeF q mk kd (ls.drop (at_+1+b.toNat))).2.2) →
      normal_reader_take.n30 (normal_reader_take.X w0 n) w0 n R (pT ls (at_+1) out h rows) (.ptr 1 0) (.ptr 3 0) mk kd t n_ k b:=by
     rintro b t rfl hb ⟨e1,e2,e3⟩
     refine normal_reader_take.n30_in ?_
     rw[normal_reader_take.b30_eq]
     cases b with
     | false=>
      rw[C3]
      exact tail (at_+1) _ (by omega) (by omega) e1 e2 e3
     | true=>
      have hb1:=hb rfl
      rw[D4]
      refine W8 (by rw[List.length_drop];omega) (F4 ?_)
      repeat ((with_reducible first|apply A0|apply wI|apply wT|apply wP|apply wS|apply wB);exact rfl)
      rw[K6 hb1 (by omega)]
      exact tail (at_+1+1) _ (by omega) (by omega) e1 e2 e3
    rw[B0]
    refine B5 (fun g2=>?_) (fun g2=>?_)
    ·have hlt2:at_+1<ls.length:=by omega
     have gl2:ls[at_+1]? = some ls[at_+1]:=List.getElem?_eq_getElem hlt2
     have hd2:ls.drop (at_+1)=ls[at_+1]::ls.drop (at_+1+1):=List.drop_eq_getElem_cons hlt2
     have hn2:=hne _ (List.getElem_mem hlt2)
     generalize ls[at_+1]=m at gl2 hd2 hn2
     obtain ⟨c,m',rfl⟩:=List.exists_cons_of_ne_nil hn2
     repeat ((with_reducible first|apply A0|apply wI|apply wT|apply wP|apply wS|apply wB);exact rfl)
     refine A0 (gg (off:=0) (len:=ls.length) (k:=at_+1) rfl rfl hlt2) ?_
     rw[show 0+(at_+1)=at_+1 by omega]
     refine A0 (Z1 rfl rfl gl2) (F4 ?_)
     refine A0 (M3 (k:=0) (s:=c::m') rfl) (G2 ?_)
     have hc:(((c.toNat:Nat):Int)==92)=decide (c=92):=by
      rw[Bool.eq_iff_iff,beq_iff_eq,decide_eq_true_eq]
      constructor
      ·intro h
       have:c.toNat=92:=by omega
       have h2:UInt8.ofNat c.toNat=UInt8.ofNat 92:=by rw[this]
       simpa using h2
      ·intro h;subst h;rfl
     rw[hc]
     by_cases g3:c=92
     ·rw[decide_eq_true g3]
      refine h30 true _ rfl (fun _=>hlt2) ?_
      have e:takeF (q+1) mk kd (ls.drop at_)=(⟨kd,H4 (l.drop mk.length)⟩::(takeF q mk kd (ls.drop (at_+1+1))).1,(takeF q mk kd (ls.drop (at_+1+1))).2.1+2,(takeF q mk kd (ls.drop (at_+1+1))).2.2):=by
       rw[hd,hd2,takeF,if_neg (by rw[hp];decide)]
       rw[if_pos (show (c::m').headD 0=92 from g3)]
      rw[e]
      refine ⟨rfl,?_,rfl⟩
      show (takeF q mk kd (ls.drop (at_+1+1))).2.1+2=(takeF q mk kd (ls.drop (at_+1+1))).2.1+(at_+1+1-at_)
      omega
     ·rw[decide_eq_false g3]
      refine h30 false _ rfl (fun h=>by cases h) ?_
      have e:takeF (q+1) mk kd (ls.drop at_)=(⟨kd,l.drop mk.length⟩::(takeF q mk kd (ls.drop (at_+1))).1,(takeF q mk kd (ls.drop (at_+1))).2.1+1,(takeF q mk kd (ls.drop (at_+1))).2.2):=by
       rw[hd,hd2,takeF,if_neg (by rw[hp];decide)]
       rw[if_neg (show ¬(c::m').headD 0=92 from g3)]
      rw[e]
      refine ⟨rfl,?_,rfl⟩
      show (takeF q mk kd (ls.drop (at_+1))).2.1+1=(takeF q mk kd (ls.drop (at_+1))).2.1+(at_+1+0-at_)
      omega
    ·refine h30 false _ rfl (fun h=>by cases h) ?_
     have hz:ls.drop (at_+1) = []:=List.drop_eq_nil_of_le (by omega)
     have e:takeF (q+1) mk kd (ls.drop at_)=(⟨kd,l.drop mk.length⟩::(takeF q mk kd (ls.drop (at_+1))).1,(takeF q mk kd (ls.drop (at_+1))).2.1+1,(takeF q mk kd (ls.drop (at_+1))).2.2):=by
      rw[hd,hz,takeF,if_neg (by rw[hp];decide)]
     rw[e]
     refine ⟨rfl,?_,rfl⟩
     show (takeF q mk kd (ls.drop (at_+1))).2.1+1=(takeF q mk kd (ls.drop (at_+1))).2.1+(at_+1+0-at_)
     omega
end
end Go.Sv.Nm
end
section
namespace Go.Sv.Nm
open Go Go.RowKit Go.Proofs
def plc(a n:Int):Int:=if n=0 then a else IntKind.wrap .i64 (a-1)
def folF(g h:Hnk):Bool:=decide (plc h.a h.n≥IntKind.wrap .i64 (plc g.a g.n+g.n))&&decide (plc h.b h.m≥IntKind.wrap .i64 (plc g.b g.m+g.m))
def lastOK(out:List Hnk)(h:Hnk):Bool:=match out.getLast? with
 | none=>true
 | some g=>folF g h
def begF(l:Ln):Bool:=decide (l.headD 0=92∨(48≤(l.headD 0).toNat∧(l.headD 0).toNat≤57))
def sepF(h:Hnk):Bool:=decide (h.n>0)&&decide (h.m>0)
def okF(ls:List Ln)(h:Hnk)(x:List Row×Nat×Bool)(at2:Nat):Bool:=x.2.2&&(!sepF h||(ls[at2]? == some [45,45,45,10]))
def at3F(ls:List Ln)(h:Hnk)(x:List Row×Nat×Bool)(at2:Nat):Nat:=if (okF ls h x at2&&sepF h)=true then at2+1 else at2
def hkF(ls:List Ln)(at_:Nat)(l:Ln):Except (Nat×Int) (Hnk×Nat):=
 if (cmdF (H4 l)).2=false then .error (at_+1,130) else
 let h:=(cmdF (H4 l)).1
 let x:=takeF h.n.toNat [60,32] 2 (ls.drop (at_+1))
 let at2:=at_+1+x.2.1
 if okF ls h x at2=false then .error (at2+1,130) else
 let at3:=at3F ls h x at2
 let y:=takeF h.m.toNat [62,32] 3 (ls.drop at3)
 if y.2.2=false then .error (at3+y.2.1+1,130) else
 if T1 { h with rows:=x.1++y.1 }=false then .error (at_+1,130) else .ok ({ h with rows:=x.1++y.1 },at3+y.2.1)
def parF:Nat→List Ln→Nat→List Hnk→Except (Nat×Int) (List Hnk×Nat)
 | 0,_,at_,out=>.ok (out,at_)
 | q+1,ls,at_,out=>match ls[at_]? with
  | none=>.ok (out,at_)
  | some l=>if begF l=false then .ok (out,at_) else match hkF ls at_ l with
   | .error e=>.error e
   | .ok (h,at2)=>if lastOK out h=false then .error (at_+1,112) else parF q ls at2 (out ++ [h])
section
variable {w0:B4}{σ:A1}{R:AV→A1→Prop}
theorem aj{a n:Int}(hR:R (.pv (.int .i64 (plc a n))) σ):A2 (cx w0) normal_place.id [.pv (.int .i64 a),.pv (.int .i64 n)] σ R:=by
 refine normal_place.calls ?_
 rw[normal_place.b0_eq,G6]
 unfold plc at hR
 refine B5 (fun g=>?_) (fun g=>?_)
 ·rw[if_pos g] at hR;exact D5 hR
 ·rw[if_neg g] at hR;exact D5 hR
theorem js(L:Laid w0.w){g h:Hnk}(hR:R (.pv (.bool (folF g h))) σ):A2 (cx w0) normal_follows.id [.pv (O2 g),.pv (O2 h)] σ R:=by
 refine A2.alone L rfl (fun w1 L1=>?_) rfl hR
 refine normal_follows.calls ?_
 rw[normal_follows.b0_eq]
 refine ⟨rfl,rfl,?_⟩
 have fin:∀(s:A1) t,t=folF g h→normal_follows.n4 (normal_follows.X w1 0) w1 0 (fun r' _=>r' = .pv (.bool (folF g h))) s t:=by
  rintro s t rfl
  refine normal_follows.n4_in ?_
  rw[normal_follows.b4_eq]
  exact D6 (Nat.zero_le _) rfl
 repeat ((with_reducible first|apply A0|apply wI|apply wT|apply wP|apply wS|apply wB);exact rfl)
 refine aj (G2 ⟨A0 rfl rfl,A0 rfl rfl,A0 rfl rfl,?_⟩)
 refine aj (G2 ⟨A0 rfl rfl,?_⟩)
 unfold folF at fin ⊢
 rw[B0]
 refine B5 (fun k1=>?_) (fun k1=>fin _ _ ?_)
 ·repeat ((with_reducible first|apply A0|apply wI|apply wT|apply wP|apply wS|apply wB);exact rfl)
  refine aj (G2 ⟨A0 rfl rfl,A0 rfl rfl,A0 rfl rfl,?_⟩)
  refine aj (G2 ⟨A0 rfl rfl,fin _ _ ?_⟩)
  rw[decide_eq_true k1,Bool.true_and]
 ·rw[decide_eq_false k1,Bool.false_and]
abbrev p3(ls:List Ln)(at_:Nat)(out:List Hnk):A1:=[.arr 1 (ls.map PV.str) false,.cells 167 (rdC ls.length at_),.arr 6 (out.map O2) false]
theorem take1_spec(L:Laid w0.w){ls:List Ln}(hn:ls.length≤1099511627776)(hne:∀l∈ls,l ≠ [])(hl:∀l∈ls,l.length≤1099511627776){out:List Hnk}{h:Hnk}{mk:Ln}{kd n_:Int}(hn_:n_≤4294967296){at_:Nat}(ha:at_≤ls.length)
  (hR:R (.pv (.bool (takeF n_.toNat mk kd (ls.drop at_)).2.2)) (pT ls (at_+(takeF n_.toNat mk kd (ls.drop at_)).2.1) out h (takeF n_.toNat mk kd (ls.drop at_)).1)):
  A2 (cx w0) normal_reader_take.id [.ptr 1 0,.ptr 3 0,.pv (.int .i64 n_),.pv (.str mk),.pv (.int .i64 kd)] (p3 ls at_ out ++ [.cells 46 (hC h .nilsl)]) R:=by
 refine normal_reader_take.calls ?_
 rw[normal_reader_take.b0_eq]
 refine normal_reader_take.n6_weak (r':=.ptr 1 0) (h_':=.ptr 3 0) (mark_':=mk) (kind':=kd) (t12':=n_) (t13':=(0:Nat)) (N2.cellNil (id:=3) (es:=2) (pre:=[.pv (.int .i64 h.a),.pv (.int .i64 h.n),.pv (.int .i64 h.b),.pv (.int .i64 h.m),.pv (.str h.head)]) (post:=[]) rfl) ?_
 exact sr L hn hne hl out h mk kd n_ hn_ (n:=4) (by decide) n_.toNat 0 at_ [] (by simp) ha (Nat.zero_le _) hR
theorem take2_spec(L:Laid w0.w){ls:List Ln}(hn:ls.length≤1099511627776)(hne:∀l∈ls,l ≠ [])(hl:∀l∈ls,l.length≤1099511627776){out:List Hnk}{h:Hnk}{mk:Ln}{kd n_:Int}(hn_:n_≤4294967296){at_:Nat}{rows:List Row}(ha:at_≤ls.length)(hr:rows.length≤at_)
  (hR:R (.pv (.bool (takeF n_.toNat mk kd (ls.drop at_)).2.2)) (pT ls (at_+(takeF n_.toNat mk kd (ls.drop at_)).2.1) out h (rows++(takeF n_.toNat mk kd (ls.drop at_)).1))):
  A2 (cx w0) normal_reader_take.id [.ptr 1 0,.ptr 3 0,.pv (.int .i64 n_),.pv (.str mk),.pv (.int .i64 kd)] (pT ls at_ out h rows) R:=by
 refine normal_reader_take.calls ?_
 rw[normal_reader_take.b0_eq]
 exact sr L hn hne hl out h mk kd n_ hn_ (n:=5) (by decide) n_.toNat 0 at_ rows (by simp) ha hr hR
end
end Go.Sv.Nm
end
section
namespace Go.Sv.Nm
open Go Go.RowKit Go.Proofs
def sizF(ls:List Ln)(at_:Nat):Nat:=(ls.take at_).flatten.length
def outA(text:Ln)(ls:List Ln):Except (Nat×Int) (List Hnk×Nat)→AV
 | .error (ln,e)=>.tup [.pv (.sl []),.pv (.str []),.pv (.int .i64 (ln:Nat)),.pv (.iface 61 (.int .i64 e))]
 | .ok (out,at_)=>.tup [.pv (.sl (out.map O2)),.pv (.str (text.drop (min (sizF ls at_) text.length))),.pv (.int .i64 0),.pv (.raw .nilIface)]
theorem outA_under(text:Ln)(ls:List Ln)(x:Except (Nat×Int) (List Hnk×Nat)):AV.under 0 (outA text ls x)=true:=by
 cases x with
 | error e=>rfl
 | ok p=>rfl
theorem sealEs_pv(k:Nat)(σ:A1):∀ps:List PV,ii k σ (ps.map AV.pv)=some (ps.map AV.pv)
 | []=>rfl
 | p::r=>by
  rw[List.map_cons,ii,sealEs_pv k σ r]
  rfl
theorem seal_first{σ:A1}{k id es n:Nat}{xs:List PV}{fz:Bool}(ps:List PV)(ho:σ[id]? = some (.arr es xs fz))(hn:xs.length=n)(hid:Nat.ble k id=true):bp k σ (.tup (.arr id n 0 n::ps.map AV.pv))=some (.tup (.pv (.sl xs)::ps.map AV.pv)):=by
 simp only[bp,ii,qr ho hn hid,sealEs_pv]
 rfl
theorem cmdF_out(s:Ln):0≤(cmdF s).1.a∧(cmdF s).1.a≤2147483648∧0≤(cmdF s).1.b∧(cmdF s).1.b≤2147483648∧(cmdF s).1.n≤4294967296∧(cmdF s).1.m≤4294967296∧(cmdF s).1.head = []∧(cmdF s).1.rows = []:=by
 obtain ⟨a1,a2,a3,a4,_⟩:=ranF_out s
 obtain ⟨b1,b2,b3,b4,_⟩:=ranF_out ((M9 s).2.2.2.1.drop 1)
 unfold cmdF
 split
 ·split
  ·split
   ·exact ⟨a1,a2,b1,b2,by show (0:Int)≤_;omega,b4,rfl,rfl⟩
   ·split
    ·exact ⟨a1,a2,b1,b2,a4,by show (0:Int)≤_;omega,rfl,rfl⟩
    ·split
     ·exact ⟨a1,a2,b1,b2,a4,b4,rfl,rfl⟩
     ·exact ⟨by decide,by decide,by decide,by decide,by decide,by decide,rfl,rfl⟩
  ·exact ⟨by decide,by decide,by decide,by decide,by decide,by decide,rfl,rfl⟩
 ·exact ⟨by decide,by decide,by decide,by decide,by decide,by decide,rfl,rfl⟩
section
variable {w0:B4}{R:AV→A1→Prop}
theorem ln_upto{σ:A1}{i k n len:Nat}{ks:List Ln}{fz:Bool}(ho:σ[i]? = some (.arr 1 (ks.map PV.str) fz))(hn:ks.length=n)(hk:k≤len):G7 σ B3 J7.td (.arr i n 0 len) none (some (.pv (.int .i64 (k:Int))))=some (.arr i n 0 k):=by
 show (if (0:Int)≤(0:Int)∧(0:Int)≤(k:Int)∧(k:Int)≤((len:Nat):Int) then (match B3 9,σ[i]? with
  | some ei,some (.arr es xs _)=>if xs.length=n∧es=ei.size then some (AV.arr i n (0+(0:Int).toNat) ((k:Int)-(0:Int)).toNat) else none
  | _,_=>none) else none)=_
 rw[if_pos (by omega),ho,ju]
 simp only
 rw[if_pos ⟨by rw[List.length_map];exact hn,rfl⟩,show ((k:Int)-(0:Int)).toNat=k by omega]
 rfl
theorem il{ls:List Ln}{text:Ln}{at_:Nat}{out:List Hnk}(hat:at_≤ls.length)(hn:ls.length≤8388608)(hT:sizF ls at_≤1099511627776)(hR:R (outA text ls (.ok (out,at_))) []):∀(r:List Ln) (k size:Nat),(ls.take at_).drop k=r→k≤at_→size+r.flatten.length=sizF ls at_ →
  normal_Parse.n98 (normal_Parse.X w0 0) w0 0 R (p3 ls at_ out) text (.arr 2 out.length 0 out.length) size (.arr 0 ls.length 0 at_) at_ k
 | [],k,size,hd,hk,hs=>by
  have hl:(ls.take at_).length≤k:=List.drop_eq_nil_iff.1 hd
  rw[List.length_take] at hl
  simp only[List.flatten_nil,List.length_nil,Nat.add_zero] at hs
  refine normal_Parse.n98_in ?_
  rw[normal_Parse.b99_eq,B0,if_neg (by omega)]
  refine normal_Parse.n111_in ?_
  rw[normal_Parse.b111_eq]
  have e:(if ((text.length:Int):Int)<(size:Int) then (text.length:Int) else (size:Int))=((min (sizF ls at_) text.length:Nat):Int):=by
   rw[← hs]
   split
   ·omega
   ·omega
  rw[e]
  refine A0 (F5 (Nat.min_le_right _ _)) (F4 ⟨A0 (F5 (Nat.min_le_right _ _)) rfl,?_⟩)
  refine N1 (σ:=[]) (L:=_) L5 rfl (seal_first (σ:=p3 ls at_ out) (k:=0) (id:=2) (es:=6) (n:=out.length) (xs:=out.map O2) [.str (text.drop (min (sizF ls at_) text.length)),.int .i64 0,.raw .nilIface] rfl (List.length_map ..) rfl) hR
 | l::r,k,size,hd,hk,hs=>by
  obtain ⟨h1,h2,h3⟩:=Q6 hd
  rw[List.length_take] at h3
  have gl:ls[k]? = some l:=by
   rw[List.getElem?_take] at h1
   split at h1
   ·exact h1
   ·cases h1
  rw[List.flatten_cons,List.length_append] at hs
  refine normal_Parse.n98_in ?_
  rw[normal_Parse.b99_eq,B0,if_pos (by omega)]
  refine A0 (gg (off:=0) (len:=at_) rfl rfl (by omega)) ?_
  rw[Nat.zero_add]
  refine A0 (Z1 rfl rfl gl) (F4 ?_)
  rw[D8 (n:=(size:Int)+_) (by omega) (by omega),K6 (n:=at_) (by omega) (by omega)]
  have e:(size:Int)+(l.length:Int)=((size+l.length:Nat):Int):=by omega
  rw[e]
  exact il hat hn hT hR r (k+1) (size+l.length) h2 (by omega) (by omega)
theorem par_end{ls:List Ln}{text:Ln}{at_:Nat}{out:List Hnk}(hat:at_≤ls.length)(hn:ls.length≤8388608)(hT:sizF ls at_≤1099511627776)(hR:R (outA text ls (.ok (out,at_))) []):
  normal_Parse.n92 (normal_Parse.X w0 0) w0 0 R (p3 ls at_ out) text (.ptr 1 0) (.arr 2 out.length 0 out.length):=by
 refine normal_Parse.n92_in ?_
 rw[normal_Parse.b92_eq]
 repeat ((with_reducible first|apply A0|apply wI|apply wT|apply wP|apply wS|apply wB);exact rfl)
 refine A0 (ln_upto (i:=0) (ks:=ls) rfl rfl hat) ?_
 repeat ((with_reducible first|apply A0|apply wI|apply wT|apply wP|apply wS|apply wB);exact rfl)
 exact il hat hn hT hR (ls.take at_) 0 0 rfl (Nat.zero_le _) (Nat.zero_add _)
end
end Go.Sv.Nm
end
