/- What the code of package context answers where it reads: the lines of a part. What the code of package context answers where it reads: a hunk. -/
import Derived.Test.YtebgkjjbbnbnlaaGreatDoorCxK
import Derived.Test.YtebgkjjbbnbnlaaGreatDoorSvBk
set_option linter.unusedVariables false
set_option linter.unusedSimpArgs false
set_option maxRecDepth 100000
section
namespace Go.Sv
section
open Go Go.RowKit Go.Proofs
variable {w0:B5}{σ:A2}{R:AV→A2→Prop}
theorem vp{x:P9}{n:Nat}(h:n=σ.length):(σ ++ [x])[n]? = some x:=by subst h;simp
theorem Hq{x y:P9}{n:Nat}(h:n=σ.length):(σ ++ [x]).set n y=σ ++ [y]:=by subst h;simp
abbrev ptT(σ:A2)(id:Nat)(ls:List Ln)(at_:Nat)(out:List Mkd):A2:=σ.set id (rdC ls at_) ++ [.arr 2 (out.map mkP) false]
abbrev ptA(σ:A2)(out:List Mkd):AV:=.arr σ.length out.length 0 out.length
theorem Xp(id:Nat)(ls:List Ln)(at_:Nat)(out:List Mkd):gu σ.length (ptT σ id ls at_ out) (ptA σ out)=some (.pv (O5 out)):=by
 have hg:(ptT σ id ls at_ out)[σ.length]? = some (.arr 2 (out.map mkP) false):=vp (by simp)
 show px σ.length (ptT σ id ls at_ out) (.arr σ.length out.length 0 out.length)=_
 simp only[px,hg]
 rw[show Nat.ble σ.length σ.length=true from Nat.ble_eq_true_of_le (Nat.le_refl _)]
 simp only
 rw[if_pos ⟨List.length_map _,by omega⟩]
 simp[List.take_of_length_le]
theorem Gz{kind:UInt8}{l:Ln}{x:Mkd}(h:rb kind l=some x):∃a r,N7 l=a::32::r∧(a=32∨a=kind∨a=33)∧x=⟨a,l.drop 2⟩:=by
 unfold rb at h
 split at h
 ·rename_i a b r e
  split at h
  ·rename_i hc
   cases h
   exact ⟨a,r,by rw[e,hc.1],hc.2,rfl⟩
  ·cases h
 ·cases h
theorem xb{id:Nat}{x y:P9}(hid:id<σ.length):(σ.set id x ++ [y])[id]? = some x:=by
 rw[List.getElem?_append_left (by simpa using hid),List.getElem?_set_self hid]
theorem Zm{id:Nat}{x x' y:P9}(hid:id<σ.length):(σ.set id x ++ [y]).set id x'=σ.set id x' ++ [y]:=by
 rw[List.set_append_left _ _ (by simpa using hid),List.set_set]
theorem Hh{id:Nat}{ls:List Ln}{at_:Nat}{out:List Mkd}(hw:wfS (σ.set id (rdC ls at_)))(h:R (.pv (O5 out)) (σ.set id (rdC ls at_))):F2 (cx w0) σ.length (ptA σ out) (ptT σ id ls at_ out) R:=by
 refine F2.sealed O3 (τ:=σ.set id (rdC ls at_)) ?_ (by simp) ?_ (Xp id ls at_ out) h
 ·rw[List.take_append_of_le_length (by simp),List.take_of_length_le (by simp)]
 ·unfold wfS at hw
  rwa [List.length_set] at hw
theorem Wd{id:Nat}{ls:List Ln}{kind:UInt8}{most:Int}{at_:Nat}{out:List Mkd}{bare:Bool}(hid:id<σ.length)(hat:at_≤8388608)
  (h:B4.n7 (B4.X w0 σ.length) w0 σ.length R (ptT σ id ls (at_+1) out) (.ptr id 0) (kind.toNat:Int) most (ptA σ out) bare):
  B4.n38 (B4.X w0 σ.length) w0 σ.length R (ptT σ id ls at_ out) (.ptr id 0) (kind.toNat:Int) most (ptA σ out) bare:=by
 refine B4.n38_in ?_
 rw[B4.b38_eq]
 refine A0 rfl (A0 rfl (A0 (Gi (xb hid)) (L3 ?_)))
 rw[F8 (n:=(at_:Int)+1) (by omega) (by omega),show (at_:Int)+1=((at_+1:Nat):Int) by omega]
 refine A0 rfl (A0 rfl (A0 (Vt (xb hid)) ?_))
 rw[Zm hid]
 exact h
set_option maxHeartbeats 800000 in
theorem Sm(L:Laid w0.w){id:Nat}{ls:List Ln}{kind:UInt8}{most:Int}(hid:id<σ.length)(hw:∀n,wfS (σ.set id (rdC ls n)))(hl:ls.length≤8388606)(hx:∀l∈ls,l.length≤8388608):∀(r:List Ln) (at_:Nat) (out:List Mkd) (bare:Bool),ls.drop at_=r→at_≤ls.length→out.length≤at_→(∀ x∈out,x.t.length≤8388608) →
  (∀ at',ls.drop at'=(V5 kind most r out bare).2→at'≤ls.length→R (.pv (O5 (V5 kind most r out bare).1)) (σ.set id (rdC ls at'))) →
  B4.n7 (B4.X w0 σ.length) w0 σ.length R (ptT σ id ls at_ out) (.ptr id 0) (kind.toNat:Int) most (ptA σ out) bare:=by
 intro r
 induction r with
 | nil=>
  intro at_ out bare hd hat hol ht hR
  have stop:=Hh (w0:=w0) (hw at_) (hR at_ hd hat)
  refine B4.n7_in ?_
  rw[B4.b8_eq]
  refine mf (xb hid) (by omega) hx ?_
  have hnf:ah (ls.drop at_)=([],false):=by rw[hd];rfl
  generalize ah (ls.drop at_)=nf at hnf
  obtain ⟨s0,ok0⟩:=nf
  have hok:ok0=false:=congrArg Prod.snd hnf
  repeat ((with_reducible first|apply A0|apply wI|apply wT|apply wP|apply wS|apply wB);exact rfl)
  refine A7 (fun g=>by rw[hok] at g;cases g) (fun g=>?_)
  generalize hb:false=b
  refine B4.n15_in ?_
  rw[B4.b15_eq]
  refine A7 (fun g=>by rw[← hb] at g;cases g) (fun g=>?_)
  refine A7 (fun g=>by rw[hok] at g;cases g) (fun g=>?_)
  generalize hb2:false=b2
  refine B4.n31_in ?_
  rw[B4.b31_eq]
  refine A7 (fun g=>by rw[← hb2] at g;cases g) (fun g=>stop)
 | cons l r ih=>
  intro at_ out bare hd hat hol ht hR
  obtain ⟨h1,h2,hk⟩:=G7 hd
  have hlx:=hx l (List.mem_of_getElem? h1)
  have hbl:=bd l
  have hstop:(V5 kind most (l::r) out bare)=(out,l::r)→F2 (cx w0) σ.length (ptA σ out) (ptT σ id ls at_ out) R:=by
   intro e
   rw[e] at hR
   exact Hh (hw at_) (hR at_ hd hat)
  have h31:∀t,(t=true → ∃x,rb kind l=some x∧V5 kind most (l::r) out bare=V5 kind most r (out ++ [x]) false)→(t=false→V5 kind most (l::r) out bare=(out,l::r)) →
    B4.n31 (B4.X w0 σ.length) w0 σ.length R (ptT σ id ls at_ out) (.ptr id 0) (kind.toNat:Int) most (ptA σ out) (N7 l) t:=by
   intro t h3 h4
   refine B4.n31_in ?_
   rw[B4.b31_eq]
   refine A7 (fun g=>?_) (fun g=>hstop (h4 g))
   obtain ⟨x,e1,e2⟩:=h3 g
   rw[e2] at hR
   obtain ⟨a,q,e3,_,rfl⟩:=Gz e1
   have hl2:2≤l.length:=by
    have:=bd l
    rw[e3] at this
    simp only[List.length_cons] at this
    omega
   rw[e3]
   refine A0 (R4 (k:=0) (c:=a) rfl) (L3 ?_)
   refine A0 rfl (A0 rfl (A0 (Uw (xb hid)) ?_))
   refine A0 rfl (A0 rfl (A0 (Gi (xb hid)) (L3 ?_)))
   refine A0 (O1 ny (Js h1) rfl) ?_
   repeat ((with_reducible first|apply A0|apply wI|apply wT|apply wP|apply wS|apply wB);exact rfl)
   refine A0 (K8 hl2) (K9 ?_)
   refine A0 (v:=.pv (mkP ⟨a,l.drop 2⟩)) rfl ?_
   refine J4 (v:=.pv (.sl [mkP ⟨a,l.drop 2⟩])) rfl ?_
   refine J4 (X5 (id:=σ.length) (es:=2) (ver:=out.length) (xs:=out.map mkP) (ys:=[mkP ⟨a,l.drop 2⟩]) rfl (vp (by simp)) (List.length_map _).symm rfl rfl ⟨by rw[List.length_map];show out.length+1≤_;omega,by rw[List.length_map];show (out.length+1)*24≤_;omega⟩) ?_
   have e:out.map mkP ++ [mkP ⟨a,l.drop 2⟩]=(out ++ [(⟨a,l.drop 2⟩:Mkd)]).map mkP:=by simp
   have e4:(out.map mkP).length + [mkP (⟨a,l.drop 2⟩:Mkd)].length=(out ++ [(⟨a,l.drop 2⟩:Mkd)]).length:=by simp
   rw[e,e4,Hq (by simp)]
   have k38:∀b,b=false→B4.n38 (B4.X w0 σ.length) w0 σ.length R (ptT σ id ls at_ (out ++ [⟨a,l.drop 2⟩])) (.ptr id 0) (kind.toNat:Int) most (ptA σ (out ++ [⟨a,l.drop 2⟩])) b:=by
    intro b hb
    refine Wd hid (by omega) ?_
    refine ih (at_+1) (out ++ [⟨a,l.drop 2⟩]) b h2 (by omega) (by rw[List.length_append,List.length_singleton];omega) (fun x hx'=>?_) (by rw[hb];exact hR)
    rcases List.mem_append.1 hx' with hx'|hx'
    ·exact ht x hx'
    ·rw[List.mem_singleton] at hx'
     rw[hx']
     show (l.drop 2).length≤_
     rw[List.length_drop];omega
   exact k38 _ rfl
  have h19:Lib.hasPrefix (N7 l) [92]=true → ∀t,t=decide (out = []∨bare=true)→B4.n19 (B4.X w0 σ.length) w0 σ.length R (ptT σ id ls at_ out) (.ptr id 0) (kind.toNat:Int) most (ptA σ out) t:=by
   intro hp t htt
   refine B4.n19_in ?_
   rw[B4.b19_eq]
   refine A7 (fun g=>hstop ?_) (fun g=>?_)
   ·rw[g] at htt
    rw[V5,if_pos hp,if_pos (of_decide_eq_true htt.symm)]
   ·rw[g] at htt
    have hn:=of_decide_eq_false htt.symm
    obtain ⟨q,w,rfl⟩:∃q w,out=q ++ [w]:=by
     rcases List.eq_nil_or_concat out with e|⟨q,w,e⟩
     ·exact absurd (.inl e) hn
     ·exact ⟨q,w,by rw[e,List.concat_eq_append]⟩
    have hql:(q ++ [w]).length=q.length+1:=by simp
    have hget:((q ++ [w]).map mkP)[q.length]? = some (.agg [.int .u8 w.m.toNat,.str w.t]):=by simp
    have hw8:w.t.length≤8388608:=ht w (by simp)
    have wl:IntKind.wrap .i64 ((((q ++ [w]).length:Nat):Int)-1)=(q.length:Int):=by rw[hql,F8 (by omega) (by omega)];omega
    have hga:(ptT σ id ls at_ (q ++ [w]))[σ.length]? = some (.arr 2 ((q ++ [w]).map mkP) false):=vp (by simp)
    have ep:V5 kind most (l::r) (q ++ [w]) bare=V5 kind most r (q ++ [⟨w.m,N7 w.t⟩]) true:=by
     rw[V5,if_pos hp,if_neg hn]
     congr 1
     unfold bw
     simp
    rw[ep] at hR
    refine A0 rfl (L3 ?_)
    rw[wl]
    refine A0 (nc (id:=σ.length) (xs:=(q ++ [w]).map mkP) ni hga (by omega) rfl (List.length_map _)) ?_
    rw[Nat.zero_add]
    refine A0 rfl (A0 rfl ?_)
    refine A0 (Fj (id:=σ.length) (xs:=(q ++ [w]).map mkP) hga (List.length_map _) hget rfl rfl) (K9 ?_)
    refine ii (by omega) (K9 ?_)
    refine A0 rfl (A0 rfl ?_)
    refine A0 (Ec (id:=σ.length) (xs:=(q ++ [w]).map mkP) hga (List.length_map _) hget rfl rfl rfl (by simp)) ?_
    have e:((q ++ [w]).map mkP).set q.length (.agg (T1 [.int .u8 w.m.toNat,.str w.t] (0+1) [.str (N7 w.t)]))=(q ++ [(⟨w.m,N7 w.t⟩:Mkd)]).map mkP:=by
     rw[List.map_append,List.set_append_right _ _ (by simp)]
     simp[T1]
    have e3:(q ++ [w]).length=(q ++ [(⟨w.m,N7 w.t⟩:Mkd)]).length:=by simp
    rw[e,Hq (by simp)]
    generalize hb:true=b
    have:=Wd (R:=R) (w0:=w0) (σ:=σ) (ls:=ls) (kind:=kind) (most:=most) (at_:=at_) (out:=q ++ [⟨w.m,N7 w.t⟩]) (bare:=b) hid (by omega) (ih (at_+1) (q ++ [⟨w.m,N7 w.t⟩]) b h2 (by omega) (by rw[← e3];omega) (fun x hx'=>by
     rcases List.mem_append.1 hx' with hx'|hx'
     ·exact ht x (by simp[hx'])
     ·rw[List.mem_singleton] at hx'
      rw[hx']
      exact Nat.le_trans (bd w.t) hw8) (by rw[← hb];exact hR))
    unfold ptA at this ⊢
    rw[e3]
    exact this
  have h15:∀(t:Bool) (s:Ln) (ok:Bool),s=N7 l→ok=true→t=Lib.hasPrefix (N7 l) [92]→B4.n15 (B4.X w0 σ.length) w0 σ.length R (ptT σ id ls at_ out) (.ptr id 0) (kind.toNat:Int) most (ptA σ out) bare s ok t:=by
   intro t s ok hs hok htt
   refine B4.n15_in ?_
   rw[B4.b15_eq]
   refine A7 (fun g=>?_) (fun g=>?_)
   ·have hp:Lib.hasPrefix (N7 l) [92]=true:=by rw[← htt,g]
    refine A0 rfl (L3 ?_)
    rw[H6]
    refine B6 (fun g2=>?_) (fun g2=>?_)
    ·have e:out = []:=List.length_eq_zero_iff.1 (by omega)
     generalize hb:true=b
     exact h19 hp b (by rw[← hb,decide_eq_true (.inl e)])
    ·have e:out ≠ []:=fun e=>g2 (by rw[e];rfl)
     refine h19 hp bare ?_
     cases bare<;>simp[e]
   ·have hp:Lib.hasPrefix (N7 l) [92]=false:=by rw[← htt,g]
    refine A7 (fun _=>?_) (fun g2=>by rw[hok] at g2;cases g2)
    have no:∀t,t=false→((out.length:Int)<most→rb kind l=none)→B4.n31 (B4.X w0 σ.length) w0 σ.length R (ptT σ id ls at_ out) (.ptr id 0) (kind.toNat:Int) most (ptA σ out) s t:=by
     intro t ht hn
     rw[hs]
     refine h31 t (fun e=>by rw[ht] at e;cases e) (fun _=>?_)
     rw[V5,if_neg (by rw[hp];decide)]
     by_cases hm:(out.length:Int)<most
     ·rw[if_pos hm,hn hm]
     ·rw[if_neg hm]
    refine A0 rfl (L3 ?_)
    rw[A8]
    refine B6 (fun g3=>?_) (fun g3=>?_)
    ·have yes:∀t x,t=true→rb kind l=some x→B4.n31 (B4.X w0 σ.length) w0 σ.length R (ptT σ id ls at_ out) (.ptr id 0) (kind.toNat:Int) most (ptA σ out) s t:=by
      intro t x ht hr
      rw[hs]
      refine h31 t (fun _=>⟨x,hr,?_⟩) (fun e=>by rw[ht] at e;cases e)
      rw[V5,if_neg (by rw[hp];decide),if_pos g3,hr]
     rw[A8]
     refine B6 (fun g4=>?_) (fun g4=>?_)
     ·obtain ⟨a,b,q,e⟩:∃a b q,N7 l=a::b::q:=by
       rw[hs] at g4
       cases e:N7 l with
       | nil=>rw[e] at g4;simp at g4
       | cons a r'=>
        cases r' with
        | nil=>rw[e] at g4;simp at g4
        | cons b q=>exact ⟨a,b,q,rfl⟩
      have hrow:rb kind l=if b=32∧(a=32∨a=kind∨a=33) then some ⟨a,l.drop 2⟩ else none:=by
       unfold rb;rw[e]
      have es:s=a::b::q:=by rw[hs,e]
      rw[es] at no yes ⊢
      refine A0 (R4 (k:=1) (c:=b) rfl) (L3 ?_)
      rw[H6]
      have u32:∀c:UInt8,((c.toNat:Int)=32)↔c=32:=fun c=>Dz (b:=32)
      have u33:∀c:UInt8,((c.toNat:Int)=33)↔c=33:=fun c=>Dz (b:=33)
      refine B6 (fun g5=>?_) (fun g5=>?_)
      ·have hb32:=(u32 b).1 g5
       refine A0 (R4 (k:=0) (c:=a) rfl) (L3 ?_)
       rw[H6]
       refine B6 (fun g6=>?_) (fun g6=>?_)
       ·generalize hbt:true=bt
        exact yes bt _ hbt.symm (by rw[hrow,if_pos ⟨hb32,.inl ((u32 a).1 g6)⟩])
       ·have ha32:a≠32:=fun e=>g6 ((u32 a).2 e)
        refine A0 (R4 (k:=0) (c:=a) rfl) (L3 ?_)
        rw[H6]
        refine B6 (fun g7=>?_) (fun g7=>?_)
        ·generalize hbt:true=bt
         exact yes bt _ hbt.symm (by rw[hrow,if_pos ⟨hb32,.inr (.inl (Dz.1 g7))⟩])
        ·have hak:a≠kind:=fun e=>g7 (by rw[e])
         refine A0 (R4 (k:=0) (c:=a) rfl) (L3 ?_)
         by_cases h33:a=33
         ·exact yes _ _ (beq_iff_eq.2 ((u33 a).2 h33)) (by rw[hrow,if_pos ⟨hb32,.inr (.inr h33)⟩])
         ·refine no _ (beq_false_of_ne (fun e=>h33 ((u33 a).1 e))) (fun _=>?_)
          rw[hrow,if_neg]
          rintro ⟨_,h|h|h⟩
          ·exact ha32 h
          ·exact hak h
          ·exact h33 h
      ·generalize hbt:false=bt
       exact no bt hbt.symm (fun _=>by rw[hrow,if_neg (fun h=>g5 ((u32 b).2 h.1))])
     ·generalize hbt:false=bt
      refine no bt hbt.symm (fun _=>?_)
      rw[hs] at g4
      unfold rb
      cases e:N7 l with
      | nil=>rfl
      | cons a r'=>
       cases r' with
       | nil=>rfl
       | cons b q=>rw[e] at g4;simp only[List.length_cons] at g4;omega
    ·generalize hbt:false=bt
     exact no bt hbt.symm (fun h=>absurd h g3)
  refine B4.n7_in ?_
  rw[B4.b8_eq]
  refine mf (xb hid) (by omega) hx ?_
  have hnf:ah (ls.drop at_)=(N7 l,true):=by rw[hd];rfl
  generalize ah (ls.drop at_)=nf at hnf
  obtain ⟨s0,ok0⟩:=nf
  have hs0:s0=N7 l:=congrArg Prod.fst hnf
  have hok:ok0=true:=congrArg Prod.snd hnf
  repeat ((with_reducible first|apply A0|apply wI|apply wT|apply wP|apply wS|apply wB);exact rfl)
  refine A7 (fun g=>?_) (fun g=>by rw[hok] at g;cases g)
  refine Z7 (F0 (h15 _ _ _ hs0 hok ?_))
  rw[hs0]
theorem yp(L:Laid w0.w){id:Nat}{ls:List Ln}{at_:Nat}{kind:UInt8}{most:Int}(ho:σ[id]? = some (rdC ls at_))(hw:∀n,wfS (σ.set id (rdC ls n)))(hl:ls.length≤8388606)(hat:at_≤ls.length)(hx:∀l∈ls,l.length≤8388608)
  (hR:∀at',ls.drop at'=(V5 kind most (ls.drop at_) [] false).2→at'≤ls.length→R (.pv (O5 (V5 kind most (ls.drop at_) [] false).1)) (σ.set id (rdC ls at'))):
  A1 (cx w0) B4.id [.ptr id 0,.pv (.int .u8 kind.toNat),.pv (.int .i64 most)] σ R:=by
 have hid:=(List.getElem?_eq_some_iff.1 ho).1
 refine B4.calls ?_
 rw[B4.b0_eq]
 generalize hb:false=b
 refine B4.n7_weak (r':=.ptr id 0) (kind':=(kind.toNat:Int)) (most':=most) (out':=.arr σ.length 0 0 0) (bare':=b) (τ:=σ ++ [.arr 2 [] false]) (M5.nil (t:=7) (es:=2) rfl rfl) ?_
 have:=Sm (R:=R) (w0:=w0) (kind:=kind) (most:=most) L hid hw hl hx (ls.drop at_) at_ [] b rfl hat (Nat.zero_le _) (fun x hx=>by cases hx) (by rw[← hb];exact hR)
 rw[ptT,Av ho] at this
 exact this
end
end Go.Sv
end
section
namespace Go.Sv
def dh(k:Int):List Row→Int→Int
 | [],n=>n
 | r::l,n=>dh k l (if r.k=k then n else n+1)
def Gj(head:Ln)(old fresh:Rng)(rows:List Row):Hnk:=⟨old.at_,dh 3 rows 0,fresh.at_,dh 2 rows 0,head,rows⟩
inductive jz(ls:List Ln)(first:Nat):Int→Int→Option (Hnk×Nat)→Prop
 | noOld (h:cd [42,42,42,32] [32,42,42,42,42] (ls.drop (first+1))=none):jz ls first ((first+1:Nat):Int) 100 none
 | noNew {old:Rng} {at2:Nat} (h:cd [42,42,42,32] [32,42,42,42,42] (ls.drop (first+1))=some old) (h2:ls.drop at2=(V5 45 ls.length (ls.drop (first+2)) [] false).2) (hle:at2≤ls.length) (h3:cd [45,45,45,32] [32,45,45,45,45] (ls.drop at2)=none):jz ls first (at2:Int) 100 none
 | noTog {old fresh:Rng} {at2:Nat} (h:cd [42,42,42,32] [32,42,42,42,42] (ls.drop (first+1))=some old) (h2:ls.drop at2=(V5 45 ls.length (ls.drop (first+2)) [] false).2) (hle:at2≤ls.length) (h3:cd [45,45,45,32] [32,45,45,45,45] (ls.drop at2)=some fresh)
   (h4:rd (V5 45 ls.length (ls.drop (first+2)) [] false).1 (V5 43 fresh.count (ls.drop (at2+1)) [] false).1=none):jz ls first (first:Int) 100 none
 | tog {old fresh:Rng} {at2 at3:Nat} {rows:List Row} (h:cd [42,42,42,32] [32,42,42,42,42] (ls.drop (first+1))=some old) (h2:ls.drop at2=(V5 45 ls.length (ls.drop (first+2)) [] false).2) (hle:at2≤ls.length) (h3:cd [45,45,45,32] [32,45,45,45,45] (ls.drop at2)=some fresh)
   (h4:rd (V5 45 ls.length (ls.drop (first+2)) [] false).1 (V5 43 fresh.count (ls.drop (at2+1)) [] false).1=some rows) (h5:ls.drop at3=(V5 43 fresh.count (ls.drop (at2+1)) [] false).2) (hle3:at3≤ls.length) (head:Ln) (hh:head=Lib.trimPrefix ((ah (ls.drop first)).1.drop 15) [32]):
   jz ls first (first:Int) (if (av old (dh 3 rows 0)&&av fresh (dh 2 rows 0))=true then (if J2 (Gj head old fresh rows)=true then 0 else 100) else 111) (if (av old (dh 3 rows 0)&&av fresh (dh 2 rows 0))=true∧J2 (Gj head old fresh rows)=true then some (Gj head old fresh rows,at3) else none)
section
open Go Go.RowKit Go.Proofs
variable {w0:B5}{σ:A2}{R:AV→A2→Prop}
abbrev nmX(p s:Ln):P9:=.cells 23 [.pv (.str p),.pv (.str s)]
abbrev cS(ls:List Ln)(at_:Nat)(p s p' s':Ln)(hs:List Hnk):A2:=[nmX [] [],nmX [] [],.arr 1 (ls.map PV.str) true,rdC ls at_,nmX p s,nmX p s,nmX p' s',nmX p' s',.arr 6 (hs.map K6) false]
abbrev hC1(a n b m:Int)(head:Ln)(rows:List Row):P9:=.cells 39 [.pv (.int .i64 a),.pv (.int .i64 n),.pv (.int .i64 b),.pv (.int .i64 m),.pv (.str head),.pv (M8 rows)]
abbrev zHn:P9:=.cells 39 [.pv (.int .i64 0),.pv (.int .i64 0),.pv (.int .i64 0),.pv (.int .i64 0),.pv (.str []),.nilsl]
abbrev wo(g:Rng):P9:=.cells 133 [.pv (.int .i64 g.at_),.pv (.int .i64 g.count),.pv (.bool g.two)]
abbrev ctS(ls:List Ln)(at_:Nat)(p s p' s':Ln)(hs:List Hnk)(n m:Int)(head:Ln)(old fresh:Rng)(rows:List Row):A2:=cS ls at_ p s p' s' hs ++ [zHn,hC1 0 n 0 m head rows,wo old,wo old,wo fresh,wo fresh]
variable {ls:List Ln}{at_ first:Nat}{p s p' s' head:Ln}{hs:List Hnk}{old fresh:Rng}
theorem Ms{rows:List Row}(hl:rows.length≤16777216)
  (next:B8.n71 (B8.X w0 9) w0 9 R (ctS ls at_ p s p' s' hs (dh 3 rows 0) (dh 2 rows 0) head old fresh rows) (.ptr 9 0) (first:Int) (.ptr 10 0) (.ptr 12 0) (.ptr 14 0)):∀(r:List Row) (k:Nat) (n m:Int),rows.drop k=r→0≤n→n≤k→0≤m→m≤k→dh 3 r n=dh 3 rows 0→dh 2 r m=dh 2 rows 0 →
  B8.n48 (B8.X w0 9) w0 9 R (ctS ls at_ p s p' s' hs n m head old fresh rows) (.ptr 9 0) (first:Int) (.ptr 10 0) (.ptr 12 0) (.ptr 14 0) (.pv (M8 rows)) rows.length k
 | [],k,n,m,hd,_,_,_,_,e1,e2=>by
  have hk:=N5 hd
  refine B8.n48_in ?_
  rw[B8.b49_eq,A8,if_neg (by omega)]
  simp only[dh] at e1 e2
  rw[e1,e2]
  exact next
 | c::r,k,n,m,hd,n0,n1,m0,m1,e1,e2=>by
  obtain ⟨h1,h2,hk⟩:=G7 hd
  have hg:(rows.map I3)[k]? = some (I3 c):=by rw[List.getElem?_map,h1];rfl
  rw[dh] at e1 e2
  have h70:∀n' m',n'=(if c.k=3 then n else n+1)→m'=(if c.k=2 then m else m+1)→B8.n70 (B8.X w0 9) w0 9 R (ctS ls at_ p s p' s' hs n' m' head old fresh rows ++ [.cells 51 [.pv (.int .i64 c.k),.pv (.str c.t)]]) (.ptr 9 0) (first:Int) (.ptr 10 0) (.ptr 12 0) (.ptr 14 0) (.pv (M8 rows)) rows.length k:=by
   rintro n' m' rfl rfl
   refine B8.n70_in ?_
   rw[B8.b70_eq,J3 hk (by omega)]
   refine B8.n48_weak (M5.drop (τ:=ctS ls at_ p s p' s' hs (if c.k=3 then n else n+1) (if c.k=2 then m else m+1) head old fresh rows) O3 (Nat.le_of_ble_eq_true rfl) rfl rfl) ?_
   exact Ms hl next r (k+1) _ _ h2 (by split<;>omega) (by split<;>omega) (by split<;>omega) (by split<;>omega) e1 e2
  have h65:∀n',n'=(if c.k=3 then n else n+1)→B8.n65 (B8.X w0 9) w0 9 R (ctS ls at_ p s p' s' hs n' m head old fresh rows ++ [.cells 51 [.pv (.int .i64 c.k),.pv (.str c.t)]]) (.ptr 9 0) (first:Int) (.ptr 10 0) (.ptr 12 0) (.ptr 14 0) (.ptr 15 0) (.pv (M8 rows)) rows.length k:=by
   intro n' hn'
   refine B8.n65_in ?_
   rw[B8.b65_eq]
   repeat ((with_reducible first|apply A0|apply wI|apply wT|apply wP|apply wS|apply wB);exact rfl)
   rw[Q2]
   refine B6 (fun g=>h70 _ _ hn' (by rw[if_pos g])) (fun g=>?_)
   repeat ((with_reducible first|apply A0|apply wI|apply wT|apply wP|apply wS|apply wB);exact rfl)
   rw[F8 (by omega) (by omega)]
   refine A0 rfl ?_
   exact h70 n' (m+1) hn' (by rw[if_neg g])
  refine B8.n48_in ?_
  rw[B8.b49_eq,A8,if_pos (by omega)]
  refine A0 (O1 df hg rfl) ?_
  repeat ((with_reducible first|apply A0|apply wI|apply wT|apply wP|apply wS|apply wB);exact rfl)
  rw[Q2]
  refine B6 (fun g=>h65 _ (by rw[if_pos g])) (fun g=>?_)
  repeat ((with_reducible first|apply A0|apply wI|apply wT|apply wP|apply wS|apply wB);exact rfl)
  rw[F8 (by omega) (by omega)]
  refine A0 rfl ?_
  exact h65 (n+1) (by rw[if_neg g])
abbrev ceA(h:Hnk)(line err:Int):AV:=.tup [.pv (K6 h),.pv (.int .i64 line),.pv (.iface 63 (.int .i64 err))]
abbrev cgA(h:Hnk)(line:Int):AV:=.tup [.pv (K6 h),.pv (.int .i64 line),.pv (.raw .nilIface)]
theorem Xf(L:Laid w0.w){rows:List Row}{n m:Int}(hl:rows.length≤16777216)(ht:∀x∈rows,x.t.length≤140737488355328)(hh:head.length≤140737488355328)(ho:-9223372036854775808≤old.at_∧old.at_≤9223372036854775807)(hf:-9223372036854775808≤fresh.at_∧fresh.at_≤9223372036854775807)
  (t:Bool) (hbad:t=true → ∀h,R (ceA h first 111) (cS ls at_ p s p' s' hs))
  (hgood:t=false→R (.tup [.pv (K6 ⟨old.at_,n,fresh.at_,m,head,rows⟩),.pv (.int .i64 first),kx (J2 ⟨old.at_,n,fresh.at_,m,head,rows⟩)]) (cS ls at_ p s p' s' hs)):
  B8.n74 (B8.X w0 9) w0 9 R (ctS ls at_ p s p' s' hs n m head old fresh rows) (.ptr 9 0) (first:Int) (.ptr 10 0) (.ptr 12 0) (.ptr 14 0) t:=by
 refine B8.n74_in ?_
 rw[B8.b74_eq]
 refine A7 (fun g=>?_) (fun g=>?_)
 ·repeat ((with_reducible first|apply A0|apply wI|apply wT|apply wP|apply wS|apply wB);exact rfl)
  exact qf (σ:=cS ls at_ p s p' s' hs) O3 rfl rfl (hbad g ⟨0,n,0,m,head,rows⟩)
 ·repeat ((with_reducible first|apply A0|apply wI|apply wT|apply wP|apply wS|apply wB);exact rfl)
  refine ⟨rfl,?_⟩
  repeat ((with_reducible first|apply A0|apply wI|apply wT|apply wP|apply wS|apply wB);exact rfl)
  refine iq L (h:=⟨old.at_,n,fresh.at_,m,head,rows⟩) (by show rows.length≤_;omega) ht hh ho hf ⟨rfl,?_⟩
  repeat ((with_reducible first|apply A0|apply wI|apply wT|apply wP|apply wS|apply wB);exact rfl)
  refine qf (σ:=cS ls at_ p s p' s' hs) O3 rfl ?_ (hgood g)
  unfold kx;split<;>rfl
theorem Zn(L:Laid w0.w){rows:List Row}{n m:Int}(hl:rows.length≤16777216)(ht:∀x∈rows,x.t.length≤140737488355328)(hh:head.length≤140737488355328)(ho:-9223372036854775808≤old.at_∧old.at_≤9223372036854775807)(hf:-9223372036854775808≤fresh.at_∧fresh.at_≤9223372036854775807)
  (hbad:(av old n&&av fresh m)=false → ∀h,R (ceA h first 111) (cS ls at_ p s p' s' hs))
  (hgood:(av old n&&av fresh m)=true→R (.tup [.pv (K6 ⟨old.at_,n,fresh.at_,m,head,rows⟩),.pv (.int .i64 first),kx (J2 ⟨old.at_,n,fresh.at_,m,head,rows⟩)]) (cS ls at_ p s p' s' hs)):
  B8.n71 (B8.X w0 9) w0 9 R (ctS ls at_ p s p' s' hs n m head old fresh rows) (.ptr 9 0) (first:Int) (.ptr 10 0) (.ptr 12 0) (.ptr 14 0):=by
 refine B8.n71_in ?_
 rw[B8.b71_eq]
 repeat ((with_reducible first|apply A0|apply wI|apply wT|apply wP|apply wS|apply wB);exact rfl)
 refine Dp L (g:=old) (F0 ?_)
 rw[E3]
 refine A7 (fun g=>?_) (fun g=>?_)
 ·repeat ((with_reducible first|apply A0|apply wI|apply wT|apply wP|apply wS|apply wB);exact rfl)
  refine Dp L (g:=fresh) (F0 ?_)
  refine Xf L hl ht hh ho hf _ (fun e=>hbad ?_) (fun e=>hgood ?_)
  ·have:av fresh m=false:=by simpa using e
   rw[this,Bool.and_false]
  ·have:av fresh m=true:=by simpa using e
   rw[g,this];rfl
 ·generalize hb:true=b
  refine Xf L hl ht hh ho hf b (fun e=>hbad (by rw[g];rfl)) (fun e=>by rw[← hb] at e;cases e)
theorem Ir(k:Int):∀(l:List Row) (n:Int),n≤dh k l n∧dh k l n≤n+l.length
 | [],n=>by simp[dh]
 | r::l,n=>by
  rw[dh]
  have:=Ir k l (if r.k=k then n else n+1)
  simp only[List.length_cons]
  split at this<;>rename_i h
  ·rw[if_pos h];omega
  ·rw[if_neg h];omega
theorem ig{kind:UInt8}{most:Int}{T:Nat}:∀(r:List Ln) (out:List Mkd) (bare:Bool),(∀ l∈r,l.length≤T)→(∀ x∈out,x.t.length≤T)→(V5 kind most r out bare).1.length≤out.length+r.length∧(∀ x∈(V5 kind most r out bare).1,x.t.length≤T) ∧ ∃q,r=q++(V5 kind most r out bare).2
 | [],out,bare,_,ho=>⟨by simp[V5],by simpa[V5] using ho,[],rfl⟩
 | l::r,out,bare,hT,ho=>by
  have hTr:∀x∈r,x.length≤T:=fun x hx=>hT x (List.mem_cons_of_mem _ hx)
  have hl:=hT l (by simp)
  have triv:(out,l::r).1.length≤out.length+(l::r).length∧(∀ x∈(out,l::r).1,x.t.length≤T) ∧ ∃q,l::r=q++(out,l::r).2:=⟨by simp,ho,[],rfl⟩
  rw[V5]
  split
  ·split
   ·exact triv
   ·have hb:∀x∈bw out,x.t.length≤T:=by
     unfold bw
     rcases List.eq_nil_or_concat out with e|⟨q,w,e⟩
     ·rw[e];simp
     ·rw[e,List.concat_eq_append]
      simp only[List.getLast?_append,List.getLast?_singleton,Option.some_or,List.dropLast_concat]
      intro x hx
      rcases List.mem_append.1 hx with hx|hx
      ·exact ho x (by rw[e,List.concat_eq_append];simp[hx])
      ·rw[List.mem_singleton] at hx
       rw[hx]
       exact Nat.le_trans (bd w.t) (ho w (by rw[e,List.concat_eq_append];simp))
    have hbl:(bw out).length=out.length:=by
     unfold bw
     rcases List.eq_nil_or_concat out with e|⟨q,w,e⟩
     ·rw[e];rfl
     ·rw[e,List.concat_eq_append];simp
    obtain ⟨i1,i2,q,i3⟩:=ig (kind:=kind) (most:=most) r (bw out) true hTr hb
    refine ⟨by simp only[List.length_cons];omega,i2,l::q,by rw[List.cons_append,←i3]⟩
  ·split
   ·split
    ·rename_i x hx
     obtain ⟨a,r',_,_,rfl⟩:=Gz hx
     obtain ⟨i1,i2,q,i3⟩:=ig (kind:=kind) (most:=most) r (out ++ [⟨a,l.drop 2⟩]) false hTr (fun y hy=>by
      rcases List.mem_append.1 hy with hy|hy
      ·exact ho y hy
      ·rw[List.mem_singleton] at hy
       rw[hy]
       show (l.drop 2).length≤T
       rw[List.length_drop];omega)
     rw[List.length_append,List.length_singleton] at i1
     refine ⟨by simp only[List.length_cons];omega,i2,l::q,by rw[List.cons_append,←i3]⟩
    ·exact triv
   ·exact triv
theorem um{T:Nat}:∀(n:Nat) (old fresh:List Mkd) (out rows:List Row),tf n old fresh out=some rows→(∀ x∈old,x.t.length≤T)→(∀ x∈fresh,x.t.length≤T)→(∀ x∈out,x.t.length≤T)→rows.length≤out.length+old.length+fresh.length ∧ ∀x∈rows,x.t.length≤T
 | 0,_,_,_,_,h,_,_,_=>by cases h
 | n+1,old,fresh,out,rows,h,ho,hf,hu=>by
  have so:=List.takeWhile_append_dropWhile (p:=fun x:Mkd=>!(x.m==32)) (l:=old)
  have sf:=List.takeWhile_append_dropWhile (p:=fun x:Mkd=>!(x.m==32)) (l:=fresh)
  have lo:=congrArg List.length so
  have lf:=congrArg List.length sf
  rw[List.length_append] at lo lf
  have hru:∀x∈out++bv (tkM old) (tkM fresh),x.t.length≤T:=by
   intro x hx
   rcases List.mem_append.1 hx with hx|hx
   ·exact hu x hx
   ·rcases List.mem_append.1 hx with hx|hx
    ·obtain ⟨y,hy,rfl⟩:=List.mem_map.1 hx
     exact ho y (by rw[← so];exact List.mem_append_left _ hy)
    ·obtain ⟨y,hy,rfl⟩:=List.mem_map.1 hx
     exact hf y (by rw[← sf];exact List.mem_append_left _ hy)
  have hrl:(out++bv (tkM old) (tkM fresh)).length=out.length+(tkM old).length+(tkM fresh).length:=by
   simp only[bv,List.length_append,List.length_map];omega
  change (tkM old).length+(tdM old).length=_ at lo
  change (tkM fresh).length+(tdM fresh).length=_ at lf
  change tkM old++tdM old=_ at so
  change tkM fresh++tdM fresh=_ at sf
  rw[tf] at h
  split at h
  ·split at h
   ·injection h with h
    rw[← h]
    exact ⟨by omega,hru⟩
   ·rename_i a o b f e1 e2
    split at h
    ·rw[e1] at lo so
     rw[e2] at lf sf
     obtain ⟨i1,i2⟩:=um n o f _ rows h (fun x hx=>ho x (by rw[← so];simp[hx])) (fun x hx=>hf x (by rw[← sf];simp[hx])) (fun x hx=>by
      rcases List.mem_append.1 hx with hx|hx
      ·exact hru x hx
      ·rw[List.mem_singleton] at hx
       rw[hx]
       exact ho a (by rw[← so];simp))
     rw[List.length_append,hrl] at i1
     simp only[List.length_cons,List.length_nil] at lo lf i1
     exact ⟨by omega,i2⟩
    ·cases h
   ·cases h
  ·cases h
theorem Wb{T:Nat}{o f:List Mkd}{rows:List Row}(h:rd o f=some rows)(ho:∀x∈o,x.t.length≤T)(hf:∀x∈f,x.t.length≤T){N:Nat}(h1:o.length≤N)(h2:f.length≤N):rows.length≤2*N ∧ ∀x∈rows,x.t.length≤T:=by
 have cf:∀l:List Mkd,(sj l).length≤l.length ∧ ∀x∈sj l,x∈l:=fun l=>⟨List.length_filter_le _ _,fun x hx=>(List.mem_filter.1 hx).1⟩
 unfold rd at h
 split at h
 ·cases h
 ·split at h
  ·obtain ⟨i1,i2⟩:=um (T:=T) _ _ _ _ _ h (fun x hx=>hf x ((cf f).2 x hx)) hf (by simp)
   have:=(cf f).1
   simp only[List.length_nil] at i1
   exact ⟨by omega,i2⟩
  ·split at h
   ·obtain ⟨i1,i2⟩:=um (T:=T) _ _ _ _ _ h ho (fun x hx=>ho x ((cf o).2 x hx)) (by simp)
    have:=(cf o).1
    simp only[List.length_nil] at i1
    exact ⟨by omega,i2⟩
   ·obtain ⟨i1,i2⟩:=um (T:=T) _ _ _ _ _ h ho hf (by simp)
    simp only[List.length_nil] at i1
    exact ⟨by omega,i2⟩
theorem Fm{b1 b2:Ln}{r:List Ln}{g:Rng}(h:cd b1 b2 r=some g):0≤g.at_∧g.at_≤2147483647:=by
 unfold cd at h
 split at h
 ·rename_i hc
  injection h with h
  rw[← h]
  exact pd _ hc.2.1
 ·cases h
theorem Kj(o:Option Rng):∃(g:Rng) (b:Bool),Ze o = .tup [.pv (.agg (Zw g)),.pv (.bool b)]∧Rb o=wo g∧(b=true→o=some g)∧(b=false→o=none):=by
 cases o with
 | none=>exact ⟨⟨0,0,false⟩,false,rfl,rfl,fun h=>(by cases h),fun _=>rfl⟩
 | some g=>exact ⟨g,true,rfl,rfl,fun _=>rfl,fun h=>(by cases h)⟩
theorem Xl{o:Option (List Row)}{w:AV}(h:ib o w):∃(rows:List Row) (b:Bool),w = .tup [.pv (M8 rows),.pv (.bool b)]∧(b=true→o=some rows)∧(b=false→o=none):=by
 cases o with
 | none=>obtain ⟨rows,rfl⟩:=h;exact ⟨rows,false,rfl,fun h=>(by cases h),fun _=>rfl⟩
 | some rows=>exact ⟨rows,true,h,fun _=>rfl,fun h=>(by cases h)⟩
theorem Ei(s t:Ln):(Lib.trimPrefix s t).length≤s.length:=by
 unfold Lib.trimPrefix
 split<;>simp
abbrev Xx(head:Ln):P9:=.cells 39 [.pv (.int .i64 0),.pv (.int .i64 0),.pv (.int .i64 0),.pv (.int .i64 0),.pv (.str head),.nilsl]
set_option maxHeartbeats 1000000 in
theorem Mg(L:Laid w0.w)(hl:ls.length≤8388606)(hat:first<ls.length)(hx:∀l∈ls,l.length≤8388608)(h15:15≤(ah (ls.drop first)).1.length)
  (hbad:∀line err h at',jz ls first line err none→R (ceA h line err) (cS ls at' p s p' s' hs))
  (hgood:∀line h at',jz ls first line 0 (some (h,at'))→R (cgA h line) (cS ls at' p s p' s' hs)):
  A1 (cx w0) B8.id [.ptr 3 0] (cS ls first p s p' s' hs) R:=by
 have hdl:∀n,∀l∈ls.drop n,l.length≤8388608:=fun n l h=>hx l (List.mem_of_mem_drop h)
 have hnl:(ah (ls.drop first)).1.length≤8388608:=tp (hdl first)
 refine B8.calls ?_
 show B8.b0 (B8.X w0 9) w0 9 R (cS ls first p s p' s' hs) (.ptr 3 0)
 rw[B8.b0_eq]
 repeat ((with_reducible first|apply A0|apply wI|apply wT|apply wP|apply wS|apply wB);exact rfl)
 refine mf (id:=3) (at_:=first) rfl (by omega) hx ?_
 repeat ((with_reducible first|apply A0|apply wI|apply wT|apply wP|apply wS|apply wB);exact rfl)
 refine A0 (K8 h15) (K9 ?_)
 refine ct (K9 ?_)
 generalize hh:Lib.trimPrefix ((ah (ls.drop first)).1.drop 15) [32]=head
 repeat ((with_reducible first|apply A0|apply wI|apply wT|apply wP|apply wS|apply wB);exact rfl)
 rw[F8 (by omega) (by omega),show (first:Int)+1=((first+1:Nat):Int) by omega]
 refine ya L (σ:=cS ls (first+1) p s p' s' hs ++ [zHn,Xx head]) (id:=3) (at_:=first+1) rfl (by omega) (by omega) hx ?_
 generalize ho:cd [42,42,42,32] [32,42,42,42,42] (ls.drop (first+1))=o
 obtain ⟨g,b,e1,e2,hb1,hb2⟩:=Kj o
 rw[e1,e2]
 repeat ((with_reducible first|apply A0|apply wI|apply wT|apply wP|apply wS|apply wB);exact rfl)
 rw[E3]
 refine A7 (fun gb=>?_) (fun gb=>?_)
 rotate_left
 ·have hn:=hb2 gb
  rw[hn,Hm]
  repeat ((with_reducible first|apply A0|apply wI|apply wT|apply wP|apply wS|apply wB);exact rfl)
  refine ⟨rfl,?_⟩
  repeat ((with_reducible first|apply A0|apply wI|apply wT|apply wP|apply wS|apply wB);exact rfl)
  exact U9 (σ:=cS ls (first+1) p s p' s' hs) (r':=ceA ⟨0,0,0,0,head,[]⟩ ((first+1:Nat):Int) 100) O3 rfl rfl (hbad _ 100 ⟨0,0,0,0,head,[]⟩ _ (.noOld (by rw[ho,hn])))
 have hs1:=hb1 gb
 rw[hs1] at ho
 have hf1:first+2≤ls.length:=by
  by_cases hc:first+2≤ls.length
  ·exact hc
  ·rw[List.drop_eq_nil_of_le (by omega)] at ho;cases ho
 rw[hs1,Hm]
 repeat ((with_reducible first|apply A0|apply wI|apply wT|apply wP|apply wS|apply wB);exact rfl)
 rw[List.length_map]
 refine yp L (σ:=cS ls (first+2) p s p' s' hs ++ [zHn,Xx head,wo g,wo g]) (id:=3) (at_:=first+2) (kind:=45) (most:=ls.length) rfl (fun n=>rfl) hl hf1 hx (fun at2 h2 hle2=>?_)
 refine ya L (σ:=cS ls at2 p s p' s' hs ++ [zHn,Xx head,wo g,wo g]) (id:=3) (at_:=at2) rfl (by omega) hle2 hx ?_
 generalize h3:cd [45,45,45,32] [32,45,45,45,45] (ls.drop at2)=o2
 obtain ⟨g2,b2,e3,e4,hc1,hc2⟩:=Kj o2
 rw[e3,e4]
 repeat ((with_reducible first|apply A0|apply wI|apply wT|apply wP|apply wS|apply wB);exact rfl)
 rw[E3]
 refine A7 (fun gb2=>?_) (fun gb2=>?_)
 rotate_left
 ·have hn:=hc2 gb2
  rw[hn,Hm]
  repeat ((with_reducible first|apply A0|apply wI|apply wT|apply wP|apply wS|apply wB);exact rfl)
  refine ⟨rfl,?_⟩
  repeat ((with_reducible first|apply A0|apply wI|apply wT|apply wP|apply wS|apply wB);exact rfl)
  exact U9 (σ:=cS ls at2 p s p' s' hs) (r':=ceA ⟨0,0,0,0,head,[]⟩ (at2:Int) 100) O3 rfl rfl (hbad _ 100 ⟨0,0,0,0,head,[]⟩ _ (.noNew ho h2 hle2 (by rw[h3,hn])))
 have hs2:=hc1 gb2
 rw[hs2] at h3
 have hf2:at2+1≤ls.length:=by
  by_cases hc:at2+1≤ls.length
  ·exact hc
  ·rw[List.drop_eq_nil_of_le (by omega)] at h3;cases h3
 rw[hs2,Hm]
 repeat ((with_reducible first|apply A0|apply wI|apply wT|apply wP|apply wS|apply wB);exact rfl)
 refine yp L (σ:=cS ls (at2+1) p s p' s' hs ++ [zHn,Xx head,wo g,wo g,wo g2,wo g2]) (id:=3) (at_:=at2+1) (kind:=43) (most:=g2.count) rfl (fun n=>rfl) hl hf2 hx (fun at3 h5 hle3=>?_)
 obtain ⟨p1,p2,_⟩:=ig (kind:=45) (most:=(ls.length:Int)) (T:=8388608) (ls.drop (first+2)) [] false (hdl _) (by simp)
 obtain ⟨q1,q2,_⟩:=ig (kind:=43) (most:=g2.count) (T:=8388608) (ls.drop (at2+1)) [] false (hdl _) (by simp)
 simp only[List.length_nil,List.length_drop] at p1 q1
 have p3:(V5 45 (ls.length:Int) (ls.drop (first+2)) [] false).1.length≤8388606:=by omega
 have q3:(V5 43 g2.count (ls.drop (at2+1)) [] false).1.length≤8388606:=by omega
 refine En L (by omega) (by omega) (fun w hw=>?_)
 obtain ⟨rows,b3,rfl,hd1,hd2⟩:=Xl hw
 repeat ((with_reducible first|apply A0|apply wI|apply wT|apply wP|apply wS|apply wB);exact rfl)
 rw[E3]
 refine A7 (fun gb3=>?_) (fun gb3=>?_)
 rotate_left
 ·repeat ((with_reducible first|apply A0|apply wI|apply wT|apply wP|apply wS|apply wB);exact rfl)
  exact U9 (σ:=cS ls at3 p s p' s' hs) (r':=ceA ⟨0,0,0,0,head,rows⟩ (first:Int) 100) O3 rfl rfl (hbad _ 100 ⟨0,0,0,0,head,rows⟩ _ (.noTog ho h2 hle2 h3 (hd2 gb3)))
 have h4:=hd1 gb3
 obtain ⟨l1,l2⟩:=Wb h4 p2 q2 p3 q3
 have hC:=jz.tog ho h2 hle2 h3 h4 h5 hle3 head hh.symm
 have o1:=Fm ho
 have o2:=Fm h3
 repeat ((with_reducible first|apply A0|apply wI|apply wT|apply wP|apply wS|apply wB);exact rfl)
 rw[List.length_map]
 have c3:=Ir 3 rows 0
 have c2:=Ir 2 rows 0
 have hhl:head.length≤8388608:=by
  rw[← hh]
  exact Nat.le_trans (Ei _ _) (by rw[List.length_drop];omega)
 refine Ms (by omega) (Zn L (by omega) (fun x hx=>Nat.le_trans (l2 x hx) (by omega)) (by omega) (by omega) (by omega) (fun e h=>?_) (fun e=>?_)) rows 0 0 0 rfl (by omega) (by omega) (by omega) (by omega) rfl rfl
 ·rw[e,if_neg (by simp),if_neg (by simp)] at hC
  exact hbad _ _ _ _ hC
 ·rw[if_pos e] at hC
  unfold kx
  by_cases hv:J2 (Gj head g g2 rows)=true
  ·rw[if_pos hv,if_pos ⟨e,hv⟩] at hC
   rw[if_pos (show J2 ⟨g.at_,dh 3 rows 0,g2.at_,dh 2 rows 0,head,rows⟩=true from hv)]
   exact hgood _ _ _ hC
  ·rw[if_neg hv,if_neg (fun h=>hv h.2)] at hC
   rw[if_neg (show ¬J2 ⟨g.at_,dh 3 rows 0,g2.at_,dh 2 rows 0,head,rows⟩=true from hv)]
   exact hbad _ _ _ _ hC
end
end Go.Sv
end
