/- A variable's part that is nil, taken as an empty row; a row that is written no more, handed on for good; a call alone that answers one of several values. What the code of package context answers where it reads: the line at hand, a header's name, numbers, ranges. -/
import Derived.Test.YtebgkjjbbnbnlaaGreatDoorSvY
import Derived.Test.YtebgkjjbbnbnlaaGreatDoorSvW
import Derived.Test.YtebgkjjbbnbnlaaGreatDoorUnT
import Derived.Test.YtebgkjjbbnbnlaaGreatDoorCxQ
import Derived.Test.YtebgkjjbbnbnlaaGreatDoorUnD
set_option linter.unusedVariables false
set_option maxRecDepth 100000
set_option linter.unusedSimpArgs false
section
namespace Go.Sv
open Go Go.RowKit
theorem D0.recell{C:Ctx}{m:Mp}{K:KS}{σ:A2}{w:World}(hB:D0 C m K σ w){id:Nat}{ty:TypeId}{cs cs':List AV}(ho:σ[id]? = some (.cells ty cs))(hl:cs'.length=cs.length)
  (hr:∀(j:Nat) a a' v,cs[j]? = some a→cs'[j]? = some a'→D1 m K a v→D1 m K a' v):D0 C m K (σ.set id (.cells ty cs')) w:=by
 have hlt:=(List.getElem?_eq_some_iff.1 ho).1
 have hget:∀(i:Nat) x,(σ.set id (.cells ty cs'))[i]? = some x→(i=id∧x = .cells ty cs')∨(i≠id∧σ[i]? = some x):=by
  intro i x h
  by_cases e:i=id
  ·subst e
   rw[List.getElem?_set_self hlt] at h
   cases h;exact .inl ⟨rfl,rfl⟩
  ·rw[List.getElem?_set_ne (Ne.symm e)] at h
   exact .inr ⟨e,h⟩
 have hold:∀(i:Nat) x,(σ.set id (.cells ty cs'))[i]? = some x → ∃y,σ[i]? = some y∧blk m i x=blk m i y:=by
  intro i x h
  rcases hget i x h with ⟨rfl,rfl⟩|⟨_,h⟩
  ·exact ⟨_,ho,rfl⟩
  ·exact ⟨x,h,rfl⟩
 refine ⟨hB.below,hB.keep,fun i ver l h=>?_,fun i x h=>?_,fun i x b h hb=>?_,fun i x i' x' b h h' hb hb'=>?_,hB.glob,hB.old⟩
 ·rw[List.length_set];exact hB.dom i ver l h
 ·rcases hget i x h with ⟨rfl,rfl⟩|⟨_,h⟩
  ·obtain ⟨b,cap,es,arr,hm,hh,hsz,hcr,hk⟩:=hB.obj i _ ho
   refine ⟨b,cap,es,arr,hm,hh,by rw[hl];exact hsz,fun j a v ha hv=>?_,hk⟩
   have hjl:j<cs.length:=by
    have:=(List.getElem?_eq_some_iff.1 ha).1
    omega
   have:=hcr j _ v (List.getElem?_eq_getElem hjl) hv
   exact ⟨hr j _ a v (List.getElem?_eq_getElem hjl) ha this.1,this.2⟩
  ·exact hB.obj i x h
 ·obtain ⟨y,hy,e⟩:=hold i x h
  rw[e] at hb
  exact hB.base i y b hy hb
 ·obtain ⟨y,hy,e⟩:=hold i x h
  obtain ⟨y',hy',e'⟩:=hold i' x' h'
  rw[e] at hb
  rw[e'] at hb'
  exact hB.apart i y i' y' b hy hy' hb hb'
theorem M5.cellNil{C:Ctx}{n:Nat}{env:Env}{σ:A2}{id es:Nat}{ty:TypeId}{pre post:List AV}(ho:σ[id]? = some (.cells ty (pre ++ .nilsl::post))):
  M5 C n env σ env (σ.set id (.cells ty (pre ++ .arr σ.length 0 0 0::post)) ++ [.arr es [] false]):=by
 intro hn m K w vs hB hE
 obtain ⟨m',hB',hx,hm⟩:=hB.arrNil es
 have hlt:=(List.getElem?_eq_some_iff.1 ho).1
 have ho':(σ ++ [P9.arr es [] false])[id]? = some (.cells ty (pre ++ .nilsl::post)):=by rw[List.getElem?_append_left hlt];exact ho
 have:=hB'.recell ho' (cs':=pre ++ .arr σ.length 0 0 0::post) (by simp) (fun j a a' v ha ha' hr=>by
  by_cases h1:j<pre.length
  ·rw[List.getElem?_append_left h1] at ha ha'
   rw[ha] at ha';cases ha';exact hr
  ·rw[List.getElem?_append_right (by omega)] at ha ha'
   cases h2:j-pre.length with
   | zero=>
    rw[h2] at ha ha'
    simp only[List.getElem?_cons_zero,Option.some.injEq] at ha ha'
    subst ha;subst ha'
    cases hr
    exact .arrNil _ hm
   | succ k=>
    rw[h2] at ha ha'
    simp only[List.getElem?_cons_succ] at ha ha'
    rw[ha] at ha';cases ha';exact hr)
 rw[List.set_append_left _ _ hlt] at this
 exact ⟨m',K,this,fun t=>(hE t).mono hx,hx.le n,by simp;omega⟩
def Bs(m:Mp)(K:KS)(w:World)(id es:Nat)(xs:List PV):KS:=fun b o v=>K b o v ∨
 ∃cap arr ty fr,m id xs.length=some (.at b cap es)∧w.heap[b]? = some (.cells arr ty fr)∧o<xs.length*es∧arr[o]? = some v
theorem D0.freeze{C:Ctx}{m:Mp}{K:KS}{σ:A2}{w:World}(hB:D0 C m K σ w){id es:Nat}{xs:List PV}{fz:Bool}(ho:σ[id]? = some (.arr es xs fz)):D0 C m (Bs m K w id es xs) (σ.set id (.arr es xs true)) w:=by
 have hlt:=(List.getElem?_eq_some_iff.1 ho).1
 have hx:∀b o v,K b o v→Bs m K w id es xs b o v:=fun _ _ _ h=>.inl h
 have hext:Ext m K m (Bs m K w id es xs):=⟨fun _ _ _ h=>h,hx⟩
 have hget:∀(i:Nat) x,(σ.set id (.arr es xs true))[i]? = some x→(i=id∧x = .arr es xs true)∨(i≠id∧σ[i]? = some x):=by
  intro i x h
  by_cases e:i=id
  ·subst e
   rw[List.getElem?_set_self hlt] at h
   cases h;exact .inl ⟨rfl,rfl⟩
  ·rw[List.getElem?_set_ne (Ne.symm e)] at h
   exact .inr ⟨e,h⟩
 have hold:∀(i:Nat) x,(σ.set id (.arr es xs true))[i]? = some x → ∃y,σ[i]? = some y∧blk m i x=blk m i y:=by
  intro i x h
  rcases hget i x h with ⟨rfl,rfl⟩|⟨_,h⟩
  ·exact ⟨_,ho,rfl⟩
  ·exact ⟨x,h,rfl⟩
 have hno:∀(i:Nat) x b,i≠id→σ[i]? = some x→b∈blk m i x → ∀o v,Bs m K w id es xs b o v→K b o v:=by
  intro i x b hne h hb o v hK
  rcases hK with h1|⟨cap,arr,ty,fr,h3,_⟩
  ·exact h1
  ·exact absurd (hB.apart i x id _ b h ho hb (by simp[blk,Loc.blk,h3])) hne
 refine ⟨hB.below,fun b o v h=>?_,fun i ver l h=>by rw[List.length_set];exact hB.dom i ver l h,fun i x h=>?_,fun i x b h hb=>?_,fun i x i' x' b h h' hb hb'=>?_,fun g a h=>(hB.glob g a h).mono hext,fun b o v h=>?_⟩
 ·rcases h with h|⟨cap,arr,ty,fr,h3,h4,h5,h6⟩
  ·exact hB.keep b o v h
  ·obtain ⟨_,arr',ty',fr',hh,_,_,_,hes,hcr,_⟩:=hB.arr_open ho h3
   rw[h4] at hh;cases hh
   have hl:o<(T3 xs).length:=by rw[L9 hes];exact h5
   refine ⟨by rw[X4 w b _ h4];exact h6,(hcr o _ v (List.getElem?_eq_getElem hl) h6).2⟩
 ·rcases hget i x h with ⟨rfl,rfl⟩|⟨hne,h⟩
  ·obtain ⟨hver,hoo⟩:=hB.obj i _ ho
   refine ⟨hver,?_⟩
   rcases hoo with ⟨rfl,hm⟩|⟨b,cap,arr,ty,fr,hm,hh,h1,h2,h3,h4,h5,h6,h7⟩
   ·exact .inl ⟨rfl,hm⟩
   ·refine .inr ⟨b,cap,arr,ty,fr,hm,hh,h1,h2,h3,h4,fun j p v x y=>⟨(h5 j p v x y).1.mono hx,(h5 j p v x y).2⟩,fun j g1 g2=>h6 j (by
     simp only[if_true] at g1
     split
     ·exact g1
     ·exact Nat.zero_le _) g2,fun j v hK=>?_⟩
    rcases hK with hK|⟨cap',arr',ty',fr',g1,g2,g3,g4⟩
    ·exact ⟨rfl,(h7 j v hK).2⟩
    ·exact ⟨rfl,g3⟩
  ·have hoo:=hB.obj i x h
   have hb:=hno i x
   cases x with
   | cells ty cs=>
    obtain ⟨b,cap,es,arr,hm,hh,hl,hr,hkk⟩:=hoo
    exact ⟨b,cap,es,arr,hm,hh,hl,fun j a v x y=>⟨(hr j a v x y).1.mono hext,(hr j a v x y).2⟩,fun o v hK=>hkk o v (hb b hne h (by simp[blk,Loc.blk,hm]) o v hK)⟩
   | arr es xs fz=>
    obtain ⟨hver,hoo⟩:=hoo
    refine ⟨hver,?_⟩
    rcases hoo with ⟨rfl,hm⟩|⟨b,cap,arr,ty,fr,hm,hh,h1,h2,h3,h4,h5,h6,h7⟩
    ·exact .inl ⟨rfl,hm⟩
    ·exact .inr ⟨b,cap,arr,ty,fr,hm,hh,h1,h2,h3,h4,fun j p v x y=>⟨(h5 j p v x y).1.mono hx,(h5 j p v x y).2⟩,h6,fun j v hK=>h7 j v (hb b hne h (by simp[blk,Loc.blk,hm]) j v hK)⟩
   | bld ty el s=>
    obtain ⟨b,cap,es,p,v,hm,hh,hp,hkk,hver,hoo⟩:=hoo
    refine ⟨b,cap,es,p,v,hm,hh,hp,fun o v hK=>hkk o v (hb b hne h (by simp[blk,Loc.blk,hm]) o v hK),hver,?_⟩
    rcases hoo with hoo|⟨b2,cap2,arr,fr,hm2,g1,g2,g3,g4,g5,g6,g7,g8,g9⟩
    ·exact .inl hoo
    ·exact .inr ⟨b2,cap2,arr,fr,hm2,g1,g2,g3,g4,g5,g6,g7,g8,fun o v hK=>g9 o v (hb b2 hne h (by simp[blk,Loc.blk,hm2]) o v hK)⟩
   | mp es=>
    obtain ⟨b,cap,s,arr,clock,hm,hh,hl,hr⟩:=hoo
    exact ⟨b,cap,s,arr,clock,hm,hh,hl,fun j e a x y=>⟨(hr j e a x y).1.mono hx,(hr j e a x y).2.mono hext⟩⟩
   | gone=>trivial
 ·obtain ⟨y,hy,e⟩:=hold i x h
  rw[e] at hb
  exact hB.base i y b hy hb
 ·obtain ⟨y,hy,e⟩:=hold i x h
  obtain ⟨y',hy',e'⟩:=hold i' x' h'
  rw[e] at hb
  rw[e'] at hb'
  exact hB.apart i y i' y' b hy hy' hb hb'
 ·rcases h with h|⟨cap,arr,ty,fr,h3,h4,h5,h6⟩
  ·exact hB.old b o v h
  ·exact .inr (hB.base id _ b ho (by simp[blk,Loc.blk,h3]))
theorem D1.frozen{C:Ctx}{m:Mp}{K:KS}{σ:A2}{w:World}(hB:D0 C m K σ w){id es:Nat}{xs:List PV}{fz:Bool}(ho:σ[id]? = some (.arr es xs fz)){v:Value}(hr:D1 m K (.arr id xs.length 0 xs.length) v):D1 m (Bs m K w id es xs) (.pv (.sl xs)) v:=by
 have hx:∀b o v,K b o v→Bs m K w id es xs b o v:=fun _ _ _ h=>.inl h
 rcases hr.arr_inv with ⟨b,cap,es',c,ad,rfl,hm,hcc,hl,hv,ha⟩|⟨h0,h1,h2,rfl,hm⟩
 ·cases xs with
  | nil=>exact .pv _ _ (.slNil _ _)
  | cons x0 xs0=>
   obtain ⟨rfl,arr,ty,fr,hh,hcap,hmax,hasz,hes,hcr,_,_⟩:=hB.arr_open ho hm
   have hc:c≠0:=by
    intro e
    rw[e] at hcc
    simp only[List.length_cons] at hv
    omega
   have had:ad=some ⟨b,0,none⟩:=by
    rcases ha with h|h
    ·exact absurd h hc
    ·rw[h,Nat.zero_mul]
   subst had
   have hfl:=L9 hes
   have hmul:(x0::xs0).length*es'≤cap*es':=Nat.mul_le_mul_right _ hcap
   refine .pv _ _ (.sl _ es' b 0 c (arr.toList.take ((x0::xs0).length*es')) (by omega) hes ?_ (fun j p v hp hv=>?_) (fun j v hv=>?_))
   ·have h9:arr.toList.length=cap*es':=by rw[Array.length_toList];exact hasz
    rw[List.length_take,hfl];omega
   ·rw[List.getElem?_take] at hv
    split at hv
    ·exact ((hcr _ p v hp (by simpa using hv)).1).mono hx
    ·cases hv
   ·rw[List.getElem?_take] at hv
    split at hv
    ·rename_i hj
     rw[Nat.zero_add]
     exact .inr ⟨cap,arr,ty,fr,hm,hh,hj,by simpa using hv⟩
    ·cases hv
 ·have:xs = []:=List.length_eq_zero_iff.1 h0
  subst this
  exact .pv _ _ (.slNil _ _)
inductive Frz(id:Nat)(xs:List PV):AV→AV→Prop
 | same (a:AV):Frz id xs a a
 | row (n:Nat) (hn:n=xs.length):Frz id xs (.arr id n 0 n) (.pv (.sl xs))
 | part (pre post:List AV) (n:Nat) (hn:n=xs.length):Frz id xs (.agg (pre ++ .arr id n 0 n::post)) (js (pre ++ .pv (.sl xs)::post))
theorem Frz.rep{C:Ctx}{m:Mp}{K:KS}{σ:A2}{w:World}(hB:D0 C m K σ w){id es:Nat}{xs:List PV}{fz:Bool}(ho:σ[id]? = some (.arr es xs fz)){a a':AV}(h:Frz id xs a a'){v:Value}(hr:D1 m K a v):D1 m (Bs m K w id es xs) a' v:=by
 have hext:Ext m K m (Bs m K w id es xs):=⟨fun _ _ _ h=>h,fun _ _ _ h=>.inl h⟩
 cases h with
 | same=>exact hr.mono hext
 | row n hn=>subst hn;exact D1.frozen hB ho hr
 | part pre post n hn=>
  subst hn
  cases hr with
  | agg _ us hl hrr h1=>
   refine ff (by simpa using hl) (fun j p v hp hv=>?_) h1
   by_cases g1:j<pre.length
   ·rw[List.getElem?_append_left g1] at hp
    exact (hrr j p v (by rw[List.getElem?_append_left g1];exact hp) hv).mono hext
   ·rw[List.getElem?_append_right (by omega)] at hp
    cases g2:j-pre.length with
    | zero=>
     rw[g2] at hp
     simp only[List.getElem?_cons_zero,Option.some.injEq] at hp
     subst hp
     exact D1.frozen hB ho (hrr j _ v (by rw[List.getElem?_append_right (by omega),g2];rfl) hv)
    | succ k=>
     rw[g2] at hp
     simp only[List.getElem?_cons_succ] at hp
     exact (hrr j p v (by rw[List.getElem?_append_right (by omega),g2];exact hp) hv).mono hext
inductive Mq(id:Nat)(xs:List PV):List AV→List AV→Prop
 | nil:Mq id xs [] []
 | cons {a a':AV} {l l':List AV} (h:Frz id xs a a') (t:Mq id xs l l'):Mq id xs (a::l) (a'::l')
theorem Mq.len{id:Nat}{xs:List PV}{l l':List AV}(h:Mq id xs l l'):l.length=l'.length:=by
 induction h with
 | nil=>rfl
 | cons _ _ ih=>simp[ih]
theorem Mq.at{id:Nat}{xs:List PV}{l l':List AV}(h:Mq id xs l l'):∀(j:Nat) a',l'[j]? = some a' → ∃a,l[j]? = some a∧Frz id xs a a':=by
 induction h with
 | nil=>intro j a' h;simp at h
 | cons h t ih=>
  intro j b hb
  cases j with
  | zero=>simp at hb;subst hb;exact ⟨_,rfl,h⟩
  | succ j=>simp at hb;exact ih j b hb
theorem A1.freeze{C:Ctx}{f:FuncId}{args args':List AV}{σ:A2}{R:AV→A2→Prop}{id es:Nat}{xs:List PV}{fz:Bool}(ho:σ[id]? = some (.arr es xs fz))(ha:Mq id xs args args')(h:A1 C f args' (σ.set id (.arr es xs true)) R):A1 C f args σ R:=by
 intro m K w vs hB hv
 have hv':oz m (Bs m K w id es xs) args' vs:=by
  refine ⟨by rw[← ha.len];exact hv.1,fun j a v hj hjv=>?_⟩
  obtain ⟨b,hb,hf⟩:=ha.at j a hj
  exact hf.rep hB ho (hv.2 j _ v hb hjv)
 refine R1.mono (h m _ w vs (hB.freeze ho) hv') fun v w' ⟨r,m',K',σ',hB',hl,hle,hr,hR⟩=>⟨r,m',K',σ',hB',by rw[List.length_set] at hl;exact hl,⟨by rw[List.length_set] at hle;exact hle.1,fun b o v hk=>hle.2 b o v (.inl hk)⟩,hr,hR⟩
theorem A1.freezeCell{C:Ctx}{f:FuncId}{args:List AV}{σ:A2}{R:AV→A2→Prop}{id id2 es n:Nat}{xs:List PV}{fz:Bool}{ty:TypeId}{pre post:List AV}(ho:σ[id]? = some (.arr es xs fz))(hc:σ[id2]? = some (.cells ty (pre ++ .arr id n 0 n::post)))(hn:n=xs.length)
  (h:A1 C f args ((σ.set id (.arr es xs true)).set id2 (.cells ty (pre ++ .pv (.sl xs)::post))) R):A1 C f args σ R:=by
 subst hn
 intro m K w vs hB hv
 have hext:Ext m K m (Bs m K w id es xs):=⟨fun _ _ _ h=>h,fun _ _ _ h=>.inl h⟩
 have hne:id≠id2:=fun e=>by subst e;rw[ho] at hc;cases hc
 have hc':(σ.set id (P9.arr es xs true))[id2]? = some (.cells ty (pre ++ .arr id xs.length 0 xs.length::post)):=by rw[List.getElem?_set_ne hne];exact hc
 have hB2:=(hB.freeze ho).recell hc' (cs':=pre ++ .pv (.sl xs)::post) (by simp) (fun j a a' v ha ha' hr=>by
  by_cases h1:j<pre.length
  ·rw[List.getElem?_append_left h1] at ha ha'
   rw[ha] at ha';cases ha';exact hr
  ·rw[List.getElem?_append_right (by omega)] at ha ha'
   cases h2:j-pre.length with
   | zero=>
    rw[h2] at ha ha'
    simp only[List.getElem?_cons_zero,Option.some.injEq] at ha ha'
    subst ha;subst ha'
    refine D1.frozen hB ho ?_
    rcases hr.arr_inv with ⟨b,cap,es',c,ad,rfl,hm,hcc,hl,hv,ha⟩|⟨h0,_,_,rfl,hm⟩
    ·exact .arr _ _ _ _ b cap es' c ad hm hcc hl hv ha
    ·rw[h0];exact .arrNil _ hm
   | succ k=>
    rw[h2] at ha ha'
    simp only[List.getElem?_cons_succ] at ha ha'
    rw[ha] at ha';cases ha';exact hr)
 have hv':oz m (Bs m K w id es xs) args vs:=⟨hv.1,fun j a v hj hjv=>(hv.2 j a v hj hjv).mono hext⟩
 refine R1.mono (h m _ w vs hB2 hv') fun v w' ⟨r,m',K',σ',hB',hl,hle,hr,hR⟩=>⟨r,m',K',σ',hB',by simpa using hl,⟨by have:=hle.1;simpa using this,fun b o v hk=>hle.2 b o v (.inl hk)⟩,hr,hR⟩
theorem A1.some_of{w0:B5}{f:FuncId}{args:List AV}{σ:A2}{R:AV→A2→Prop}{P:AV→Prop}(L:Laid w0.w)(ha:args.all AV.isPv=true)(h:∀w1:B5,Laid w1.w→A1 (cx w1) f args [] fun r' _=>P r')(hn:∀r,P r→AV.under 0 r=true)(hR:∀r,P r→R r σ):A1 (cx w0) f args σ R:=by
 intro m K w vs hB hv
 have hB1:D0 (cx ⟨w,K⟩) (fun _ _=>none) K [] w:=⟨Below.refl _ _,hB.keep,(fun _ _ _ h=>nomatch h),(fun id x h=>nomatch (show (none:Option P9)=some x from h)),(fun id x b h=>nomatch (show (none:Option P9)=some x from h)),(fun id x id' x' b h=>nomatch (show (none:Option P9)=some x from h)),(fun g a h=>nomatch (show (none:Option AV)=some a from h)),fun b o v h=>.inl h⟩
 have hv1:oz (fun _ _=>none) K args vs:=⟨hv.1,fun j a v hj hjv=>(hv.2 j a v hj hjv).pvs (List.all_eq_true.1 ha a (List.mem_of_getElem? hj))⟩
 refine R1.mono (h ⟨w,K⟩ (L.mono hB.below) _ K w vs hB1 hv1) fun v w' ⟨r',m',K',σ',hB',_,hle,hr,e⟩=>?_
 have hK:=hle.2
 refine ⟨r',m,K',σ,hB.moreK hB'.below hK (fun b o v h=>hB'.old b o v h) hB'.keep,Nat.le_refl _,⟨fun _ _ _ _ h=>h,hK⟩,(hr.cut (k:=0) (hn _ e)).mono ⟨fun id ver l h=>?_,fun _ _ _ h=>h⟩,hR _ e⟩
 simp[W8] at h
end Go.Sv
end
section
namespace Go.Sv
section
open Go Go.RowKit Go.Proofs
variable {w0:B5}{σ:A2}{R:AV→A2→Prop}
abbrev rdC(ls:List Ln)(at_:Nat):P9:=.cells 76 [.pv (re ls),.pv (.int .i64 (at_:Int))]
theorem Qv{α:Type}{xs:List α}{k:Nat}{c:α}(h:xs[k]? = some c):xs.drop k=c::xs.drop (k+1):=by
 have hlt:=(List.getElem?_eq_some_iff.1 h).1
 rw[List.drop_eq_getElem_cons hlt]
 rw[List.getElem?_eq_getElem hlt] at h
 cases h;rfl
theorem Js{ls:List Ln}{i:Nat}{l:Ln}(h:ls[i]? = some l):(ls.map PV.str)[i]? = some (.str l):=by rw[List.getElem?_map,h];rfl
theorem Gi{id:Nat}{ls:List Ln}{at_:Nat}(h:σ[id]? = some (rdC ls at_)):A4 σ ti3 (.ptr id 1)=some (.pv (.int .i64 (at_:Int))):=by simp only[A4,h];rfl
theorem Uw{id:Nat}{ls:List Ln}{at_:Nat}(h:σ[id]? = some (rdC ls at_)):A4 σ X7 (.ptr id 0)=some (.pv (re ls)):=by simp only[A4,h];rfl
theorem mf{id:Nat}{ls:List Ln}{at_:Nat}(ho:σ[id]? = some (rdC ls at_))(hl:ls.length≤8388608)(hx:∀l∈ls,l.length≤8388608)(hR:R (.tup [.pv (.str (ah (ls.drop at_)).1),.pv (.bool (ah (ls.drop at_)).2)]) σ):A1 (cx w0) I9.id [.ptr id 0] σ R:=by
 refine I9.calls ?_
 rw[I9.b0_eq]
 refine A0 rfl (A0 rfl (A0 (Gi ho) (L3 ?_)))
 refine A0 rfl (A0 rfl (A0 (Uw ho) ?_))
 refine A0 rfl (L3 ?_)
 rw[A8,List.length_map]
 refine B6 (fun g=>?_) (fun g=>?_)
 ·rw[List.drop_eq_nil_of_le (by omega)] at hR
  exact C4 (Nat.le_refl _) hR
 ·have hg:ls[at_]? = some (ls[at_]'(by omega)):=List.getElem?_eq_getElem (by omega)
  rw[Qv hg] at hR
  have hll:=hx _ (List.mem_of_getElem? hg)
  refine A0 rfl (A0 rfl (A0 (Uw ho) ?_))
  refine A0 rfl (A0 rfl (A0 (Gi ho) (L3 ?_)))
  refine A0 (O1 ny (Js hg) rfl) ?_
  repeat ((with_reducible first|apply A0|apply wI|apply wT|apply wP|apply wS|apply wB);exact rfl)
  refine ii (by omega) (K9 ?_)
  exact C4 (Nat.le_refl _) hR
theorem za:∀(l:Ln) (acc:Nat),l.all Z1=true→Lib.decFrom acc l=some (l.foldl (fun a c=>a*10+(c.toNat-48)) acc)
 | [],acc,_=>rfl
 | c::l,acc,h=>by
  rw[List.all_cons,Bool.and_eq_true] at h
  have hc:48≤c.toNat∧c.toNat≤57:=by
   have:=h.1
   unfold Z1 at this
   simpa using this
  rw[Lib.decFrom,Lib.digitVal,if_pos hc]
  exact za l _ h.2
theorem Mt{t:Ln}(h:t.all Z1=true):Lib.atoi (48::t)=some (Ue t:Int):=by
 have h2:=za t 0 h
 rw[Lib.atoi]
 rw[if_neg (by decide),if_neg (by decide),Lib.decNat]
 rw[if_neg (by simp),Lib.decFrom,Lib.digitVal,if_pos (by decide)]
 show (Lib.decFrom 0 t).map _=_
 rw[h2];rfl
theorem Vk{s:Ln}(h:s.all Z1=true):(s.dropWhile (· == 48)).all Z1=true:=by
 rw[List.all_eq_true] at h ⊢
 intro x hx
 exact h x ((List.dropWhile_sublist _).subset hx)
theorem ry(L:Laid w0.w){s:Ln}(hs:s.length≤8388608)(hR:R (.tup [.pv (.int .i64 (Z4 s).1),.pv (.bool (Z4 s).2)]) σ):A1 (cx w0) M6.id [.pv (.str s)] σ R:=by
 refine A1.alone L rfl (fun w1 L1=>?_) rfl hR
 have key:∀t,t=decide (s = []∨s.all Z1=false)→M6.n5 (M6.X w1 0) w1 0 (fun r _=>r = .tup [.pv (.int .i64 (Z4 s).1),.pv (.bool (Z4 s).2)]) [] s t:=by
  intro t ht
  refine M6.n5_in ?_
  rw[M6.b5_eq]
  refine A7 (fun g=>?_) (fun g=>?_)
  ·rw[g] at ht
   refine C4 (Nat.zero_le _) ?_
   rw[Z4,if_pos (of_decide_eq_true ht.symm)]
  ·rw[g] at ht
   have hn:=of_decide_eq_false ht.symm
   have hd:s.all Z1=true:=by
    cases h:s.all Z1 with
    | true=>rfl
    | false=>exact absurd (.inr h) hn
   refine De (by decide) (K9 ?_)
   rw[A8]
   refine B6 (fun g2=>?_) (fun g2=>?_)
   ·refine C4 (Nat.zero_le _) ?_
    rw[Z4,if_neg hn,if_pos (by omega)]
   ·refine ⟨by simp only[List.length_singleton];omega,?_⟩
    refine Tu (by simp only[List.length_append,List.length_singleton];omega) (Mt (Vk hd)) ?_
    repeat ((with_reducible first|apply A0|apply wI|apply wT|apply wP|apply wS|apply wB);exact rfl)
    refine C4 (Nat.zero_le _) ?_
    rw[Z4,if_neg hn,if_neg (by omega)]
    rfl
 refine M6.calls ?_
 rw[M6.b0_eq,U5]
 refine B6 (fun g=>?_) (fun g=>?_)
 ·exact key _ (decide_eq_true (.inl g)).symm
 ·refine Pp L1 (by omega) (K9 (key _ ?_))
  have h1:=Pu s
  rw[Bool.eq_iff_iff,decide_eq_true_eq]
  cases h:s.all Z1 with
  | true=>
   have:oy s = []:=h1.2 h
   rw[this];simp[g]
  | false=>
   have:oy s ≠ []:=fun e=>by rw[h1.1 e] at h;cases h
   simp[this]
abbrev Zw(g:Rng):List PV:=[.int .i64 g.at_,.int .i64 g.count,.bool g.two]
theorem Dp(L:Laid w0.w){g:Rng}{n:Int}(hR:R (.pv (.bool (av g n))) σ):A1 (cx w0) G9.id [.pv (.agg (Zw g)),.pv (.int .i64 n)] σ R:=by
 refine A1.alone L rfl (fun w1 L1=>?_) rfl hR
 have fin:∀S t,t=av g n→G9.n4 (G9.X w1 0) w1 0 (fun r _=>r = .pv (.bool (av g n))) S t:=by
  rintro S t rfl
  refine G9.n4_in ?_
  rw[G9.b4_eq]
  exact C4 (Nat.zero_le _) rfl
 refine G9.calls ?_
 rw[G9.b0_eq]
 refine ⟨rfl,?_⟩
 repeat ((with_reducible first|apply A0|apply wI|apply wT|apply wP|apply wS|apply wB);exact rfl)
 rw[H6]
 refine B6 (fun h=>?_) (fun h=>?_)
 ·generalize hb:true=b
  refine fin _ b ?_
  rw[← hb,av,decide_eq_true h];rfl
 ·repeat ((with_reducible first|apply A0|apply wI|apply wT|apply wP|apply wS|apply wB);exact rfl)
  rw[E3]
  refine A7 (fun h2=>?_) (fun h2=>?_)
  ·generalize hb:false=b
   refine fin _ b ?_
   rw[← hb,av,decide_eq_false h,h2];rfl
  ·refine fin _ _ ?_
   rw[av,decide_eq_false h,h2,Bool.false_or,Bool.not_false,Bool.true_and,Bool.eq_iff_iff,beq_iff_eq,decide_eq_true_eq]
theorem pd(s:Ln):(Z4 s).2=true→0≤(Z4 s).1∧(Z4 s).1≤2147483647:=by
 intro h
 unfold Z4 at h ⊢
 split at h
 ·cases h
 ·split at h
  ·cases h
  ·rename_i h1 h2
   rw[if_neg h1,if_neg h2]
   exact ⟨Int.natCast_nonneg _,of_decide_eq_true h⟩
theorem Te(s:Ln)(c:UInt8):(Y7 s c).1.length≤s.length∧(Y7 s c).2.1.length≤s.length:=by
 unfold Y7;split
 ·exact ⟨by rw[List.length_take];omega,by rw[List.length_drop];omega⟩
 ·exact ⟨Nat.le_refl _,by simp⟩
theorem Kh(s p:Ln):(dk s p).1.length≤s.length:=by
 unfold dk;split
 ·rw[List.length_take];omega
 ·exact Nat.le_refl _
theorem tp{r:List Ln}{T:Nat}(h:∀l∈r,l.length≤T):(ah r).1.length≤T:=by
 cases r with
 | nil=>simp[ah]
 | cons l r=>exact Nat.le_trans (bd l) (h l (by simp))
abbrev zR:P9:=.cells 133 [.pv (.int .i64 0),.pv (.int .i64 0),.pv (.bool false)]
def Ze(o:Option Rng):AV:=match o with
 | some g=>.tup [.pv (.agg (Zw g)),.pv (.bool true)]
 | none=>.tup [.pv (.agg [.int .i64 0,.int .i64 0,.bool false]),.pv (.bool false)]
def Hm(o:Option Rng)(at_:Nat):Nat:=match o with
 | some _=>at_+1
 | none=>at_
theorem Av{α:Type}{l:List α}{i:Nat}{x:α}(h:l[i]? = some x):l.set i x=l:=by
 apply List.ext_getElem?
 intro j
 by_cases e:j=i
 ·subst e
  rw[List.getElem?_set_self (List.getElem?_eq_some_iff.1 h).1,h]
 ·rw[List.getElem?_set_ne (Ne.symm e)]
theorem Vt{id:Nat}{ls:List Ln}{at_:Nat}{n:Nat}(ho:σ[id]? = some (rdC ls at_)):C3 σ ti3 (.ptr id 1) (.pv (.int .i64 (n:Int)))=some (σ.set id (rdC ls n)):=by
 show (if 1=1∧true=true then (match σ[id]? with
   | some (.cells ty cs)=>if 1+1≤cs.length then some (σ.set id (.cells ty (T1 cs 1 [.pv (.int .i64 (n:Int))]))) else none
   | _=>none) else none)=_
 rw[if_pos ⟨rfl,rfl⟩,ho]
 rfl
theorem Km{x:P9}:(σ ++ [x])[σ.length]? = some x:=by simp
theorem tx{ty:TypeId}{cs:List AV}{ti:TI}{v:AV}(h1:v.cells.length=ti.size)(h2:v.cells.all AV.one=true)(h3:cs.length=ti.size):C3 (σ ++ [.cells ty cs]) ti (.ptr σ.length 0) v=some (σ ++ [.cells ty v.cells]):=by
 unfold C3
 simp only
 rw[if_pos ⟨h1,h2⟩,Km]
 simp only
 rw[if_pos (by omega)]
 have:T1 cs 0 v.cells=v.cells:=by
  unfold T1
  rw[List.take_zero,List.nil_append,List.drop_eq_nil_of_le (by omega),List.append_nil]
 rw[this]
 simp
theorem ue{ty:TypeId}{cs:List AV}{ti:TI}(ha:ti.td.isAgg=true)(hs:cs.length=ti.size):A4 (σ ++ [.cells ty cs]) ti (.ptr σ.length 0)=some (js cs):=by
 simp only[A4,Km,ly,ha,if_true]
 rw[if_pos (by omega),List.drop_zero,List.take_of_length_le (by omega)]
theorem Mm{id:Nat}{x y:P9}(h:id<σ.length):(σ ++ [x]).set id y=σ.set id y ++ [x]:=List.set_append_left _ _ h
def Rb(o:Option Rng):P9:=match o with
 | some g=>.cells 133 [.pv (.int .i64 g.at_),.pv (.int .i64 g.count),.pv (.bool g.two)]
 | none=>zR
theorem ya(L:Laid w0.w){id:Nat}{ls:List Ln}{at_:Nat}{before behind:Ln}(ho:σ[id]? = some (rdC ls at_))(hl:ls.length≤8388607)(hat:at_≤ls.length)(hx:∀l∈ls,l.length≤8388608)
  (hR:R (Ze (cd before behind (ls.drop at_))) (σ.set id (rdC ls (Hm (cd before behind (ls.drop at_)) at_)) ++ [Rb (cd before behind (ls.drop at_))])):
  A1 (cx w0) D2.id [.ptr id 0,.pv (.str before),.pv (.str behind)] σ R:=by
 have hid:=(List.getElem?_eq_some_iff.1 ho).1
 have ho':(σ ++ [zR])[id]? = some (rdC ls at_):=Sc _ ho
 have hnl:=tp (r:=ls.drop at_) (T:=8388608) (fun l hl=>hx l (List.mem_of_mem_drop hl))
 have hsl:(dx before behind (ls.drop at_)).1.length≤8388608:=by
  have h1:=dg (ah (ls.drop at_)).1 before
  have h2:=Kh (X8 (ah (ls.drop at_)).1 before).1 behind
  unfold dx;split<;>omega
 have h27:∀(two:Bool) (from_ to:Int) (t:Bool),cd before behind (ls.drop at_)=(if t=true then none else some ⟨from_,to-from_+1,two⟩)→(t=false→0≤from_∧from_≤2147483647∧0≤to∧to≤2147483647) →
   D2.n27 (D2.X w0 σ.length) w0 σ.length R (σ ++ [zR]) (.ptr id 0) (.ptr σ.length 0) two from_ to t:=by
  intro two from_ to t hs hb
  refine D2.n27_in ?_
  rw[D2.b27_eq]
  refine A7 (fun g=>?_) (fun g=>?_)
  ·rw[if_pos g] at hs
   rw[hs] at hR
   refine A0 (v:=.pv (.agg [.int .i64 0,.int .i64 0,.bool false])) rfl ?_
   refine A0 (tx rfl rfl rfl) (A0 (ue rfl rfl) (C4 (by simp) ?_))
   have e:σ.set id (rdC ls at_)=σ:=Av ho
   unfold Hm at hR
   simp only[e] at hR
   exact hR
  ·rw[if_neg (by rw[g];decide)] at hs
   obtain ⟨b1,b2,b3,b4⟩:=hb g
   rw[hs] at hR
   refine A0 rfl (A0 rfl (A0 (Gi ho') (L3 ?_)))
   rw[F8 (n:=(at_:Int)+1) (by omega) (by omega),show (at_:Int)+1=((at_+1:Nat):Int) by omega]
   refine A0 rfl (A0 rfl (A0 (Vt ho') ?_))
   rw[Mm hid,F8 (n:=to-from_) (by omega) (by omega),F8 (by omega) (by omega)]
   refine A0 (v:=.pv (.agg [.int .i64 from_,.int .i64 (to-from_+1),.bool two])) rfl ?_
   have hlen:σ.length=(σ.set id (rdC ls (at_+1))).length:=by simp
   rw[hlen]
   refine A0 (tx rfl rfl rfl) (A0 (ue rfl rfl) (C4 (by simp) hR))
 have h20:∀(ok:Bool) (first last:Ln) (two:Bool),first.length≤8388608→last.length≤8388608→cd before behind (ls.drop at_)=(if ok=true∧(Z4 first).2=true∧(Z4 last).2=true ∧ ¬(Z4 last).1<(Z4 first).1 then some ⟨(Z4 first).1,(Z4 last).1-(Z4 first).1+1,two⟩ else none) →
   D2.n20 (D2.X w0 σ.length) w0 σ.length R (σ ++ [zR]) (.ptr id 0) (.ptr σ.length 0) ok first last two:=by
  intro ok first last two hf hla hs
  refine D2.n20_in ?_
  rw[D2.b20_eq]
  refine ry L hf ?_
  repeat ((with_reducible first|apply A0|apply wI|apply wT|apply wP|apply wS|apply wB);exact rfl)
  refine ry L hla ?_
  repeat ((with_reducible first|apply A0|apply wI|apply wT|apply wP|apply wS|apply wB);exact rfl)
  have bad:∀b:Bool,b=true → ¬(ok=true∧(Z4 first).2=true∧(Z4 last).2=true ∧ ¬(Z4 last).1<(Z4 first).1)→D2.n27 (D2.X w0 σ.length) w0 σ.length R (σ ++ [zR]) (.ptr id 0) (.ptr σ.length 0) two (Z4 first).1 (Z4 last).1 b:=by
   intro b hb hn
   rw[if_neg hn] at hs
   exact h27 two _ _ b (by rw[hs,if_pos hb]) (fun e=>by rw[hb] at e;cases e)
  rw[E3]
  refine A7 (fun g1=>?_) (fun g1=>?_)
  ·rw[E3]
   refine A7 (fun g2=>?_) (fun g2=>?_)
   ·rw[E3]
    refine A7 (fun g3=>?_) (fun g3=>?_)
    ·refine h27 two _ _ _ ?_ (fun e=>⟨(pd _ g2).1,(pd _ g2).2,(pd _ g3).1,(pd _ g3).2⟩)
     rw[hs]
     by_cases hlt:(Z4 last).1<(Z4 first).1
     ·rw[if_neg (fun h=>h.2.2.2 hlt),if_pos (decide_eq_true hlt)]
     ·rw[if_pos ⟨g1,g2,g3,hlt⟩,if_neg (by simpa using hlt)]
    ·generalize hb:true=b
     exact bad b hb.symm (fun h=>by rw[g3] at h;exact absurd h.2.2.1 (by decide))
   ·generalize hb:true=b
    exact bad b hb.symm (fun h=>by rw[g2] at h;exact absurd h.2.1 (by decide))
  ·generalize hb:true=b
   exact bad b hb.symm (fun h=>by rw[g1] at h;exact absurd h.1 (by decide))
 have h12:∀(s:Ln) (ok:Bool),(s,ok)=dx before behind (ls.drop at_)→D2.n12 (D2.X w0 σ.length) w0 σ.length R (σ ++ [zR]) (.ptr id 0) (.ptr σ.length 0) s ok:=by
  intro s ok he
  have e1:(dx before behind (ls.drop at_)).1=s:=by rw[← he]
  have e2:(dx before behind (ls.drop at_)).2=ok:=by rw[← he]
  rw[e1] at hsl
  obtain ⟨c1,c2⟩:=Te s 44
  refine D2.n12_in ?_
  rw[D2.b12_eq]
  refine Tl L (by omega) ?_
  repeat ((with_reducible first|apply A0|apply wI|apply wT|apply wP|apply wS|apply wB);exact rfl)
  rw[E3]
  have hsp:cd before behind (ls.drop at_)=(if ok=true∧(Z4 (Y7 s 44).1).2=true∧(Z4 (pi s)).2=true ∧ ¬(Z4 (pi s)).1<(Z4 (Y7 s 44).1).1 then some ⟨(Z4 (Y7 s 44).1).1,(Z4 (pi s)).1-(Z4 (Y7 s 44).1).1+1,(Y7 s 44).2.2⟩ else none):=by
   unfold cd
   rw[e1,e2]
  refine A7 (fun g=>?_) (fun g=>?_)
  ·have e3:pi s=(Y7 s 44).2.1:=by rw[pi,if_pos g]
   rw[e3] at hsp
   exact h20 ok _ _ _ (by omega) (by omega) hsp
  ·have e3:pi s=(Y7 s 44).1:=by rw[pi,if_neg (by rw[g];decide)]
   rw[e3] at hsp
   exact h20 ok _ _ _ (by omega) (by omega) hsp
 refine D2.calls ?_
 rw[D2.b0_eq]
 refine mf ho' (by omega) hx ?_
 repeat ((with_reducible first|apply A0|apply wI|apply wT|apply wP|apply wS|apply wB);exact rfl)
 refine io (by omega) ?_
 repeat ((with_reducible first|apply A0|apply wI|apply wT|apply wP|apply wS|apply wB);exact rfl)
 refine A7 (fun g=>?_) (fun g=>?_)
 ·have h1:=dg (ah (ls.drop at_)).1 before
  refine An L (by omega) ?_
  repeat ((with_reducible first|apply A0|apply wI|apply wT|apply wP|apply wS|apply wB);exact rfl)
  refine h12 _ _ ?_
  rw[dx,if_pos g]
 ·refine h12 _ _ ?_
  rw[dx,if_neg (by rw[g];decide)]
def nmsA(o:Option (Ln×Ln)):AV:=match o with
 | some (p,s)=>.tup [.pv (nmP p s),.pv (.bool true)]
 | none=>.tup [.pv (nmP [] []),.pv (.bool false)]
def Rd(o:Option (Ln×Ln)):P9:=match o with
 | some (p,s)=>.cells 23 [.pv (.str p),.pv (.str s)]
 | none=>.cells 23 [.pv (.str []),.pv (.str [])]
def Tt(o:Option (Ln×Ln))(at_:Nat):Nat:=match o with
 | some _=>at_+1
 | none=>at_
theorem xe(L:Laid w0.w){id:Nat}{ls:List Ln}{at_:Nat}{mark:Ln}(ho:σ[id]? = some (rdC ls at_))(hl:ls.length≤8388607)(hat:at_≤ls.length)(hx:∀l∈ls,l.length≤8388608)
  (hR:R (nmsA (am mark (ls.drop at_))) (σ.set id (rdC ls (Tt (am mark (ls.drop at_)) at_)) ++ [Rd (am mark (ls.drop at_))])):
  A1 (cx w0) H8.id [.ptr id 0,.pv (.str mark)] σ R:=by
 have hid:=(List.getElem?_eq_some_iff.1 ho).1
 have ho':(σ ++ [P9.cells 23 [.pv (.str []),.pv (.str [])]])[id]? = some (rdC ls at_):=Sc _ ho
 have hnl:=tp (r:=ls.drop at_) (T:=8388608) (fun l hl=>hx l (List.mem_of_mem_drop hl))
 have hcl:=dg (ah (ls.drop at_)).1 mark
 have bad:am mark (ls.drop at_)=none→R (.tup [.pv (nmP [] []),.pv (.bool false)]) (σ ++ [.cells 23 [.pv (.str []),.pv (.str [])]]):=by
  intro h
  rw[h] at hR
  unfold Tt at hR
  simp only[Av ho] at hR
  exact hR
 have h29:∀(path stamp:Ln) (t:Bool),am mark (ls.drop at_)=(if t=true then none else some (path,stamp))→H8.n29 (H8.X w0 σ.length) w0 σ.length R (σ ++ [.cells 23 [.pv (.str []),.pv (.str [])]]) (.ptr id 0) (.ptr σ.length 0) path stamp t:=by
  intro path stamp t hs
  refine H8.n29_in ?_
  rw[H8.b29_eq]
  refine A7 (fun g=>?_) (fun g=>?_)
  ·rw[if_pos g] at hs
   refine A0 (v:=.pv (nmP [] [])) rfl ?_
   exact A0 (tx rfl rfl rfl) (A0 (ue rfl rfl) (C4 (by simp) (bad hs)))
  ·rw[if_neg (by rw[g];decide)] at hs
   rw[hs] at hR
   refine A0 rfl (A0 rfl (A0 (Gi ho') (L3 ?_)))
   rw[F8 (n:=(at_:Int)+1) (by omega) (by omega),show (at_:Int)+1=((at_+1:Nat):Int) by omega]
   refine A0 rfl (A0 rfl (A0 (Vt ho') ?_))
   rw[Mm hid]
   refine A0 (v:=.pv (nmP path stamp)) rfl ?_
   have hlen:σ.length=(σ.set id (rdC ls (at_+1))).length:=by simp
   rw[hlen]
   exact A0 (tx rfl rfl rfl) (A0 (ue rfl rfl) (C4 (by simp) hR))
 have fail:am mark (ls.drop at_)=none→opt (U6 B2 D5 []) fun t26=>opt (C3 (σ ++ [.cells 23 [.pv (.str []),.pv (.str [])]]) D5 (.ptr (List.length σ) 0) t26) fun σ'=>opt (A4 σ' D5 (.ptr (List.length σ) 0)) fun v=>F2 (cx w0) σ.length (.tup [v,(.pv (.bool false))]) σ' R:=by
  intro h
  refine A0 (v:=.pv (nmP [] [])) rfl ?_
  exact A0 (tx rfl rfl rfl) (A0 (ue rfl rfl) (C4 (by simp) (bad h)))
 refine H8.calls ?_
 rw[H8.b0_eq]
 refine mf ho' (by omega) hx ?_
 repeat ((with_reducible first|apply A0|apply wI|apply wT|apply wP|apply wS|apply wB);exact rfl)
 refine io (by omega) ?_
 repeat ((with_reducible first|apply A0|apply wI|apply wT|apply wP|apply wS|apply wB);exact rfl)
 rw[E3]
 refine A7 (fun g=>?_) (fun g=>?_)
 ·refine uz L (by omega) ?_
  cases hu:tc (X8 (ah (ls.drop at_)).1 mark).1 with
  | none=>
   unfold Df
   repeat ((with_reducible first|apply A0|apply wI|apply wT|apply wP|apply wS|apply wB);exact rfl)
   rw[Q1]
   refine A0 rfl (A0 (v:=false) rfl (F0 ?_))
   rw[Bool.not_false,L4]
   refine fail ?_
   unfold am
   rw[if_neg (by rw[g];decide),hu]
  | some q=>
   obtain ⟨p,rest⟩:=q
   have hul:=Xd hu
   unfold Df
   repeat ((with_reducible first|apply A0|apply wI|apply wT|apply wP|apply wS|apply wB);exact rfl)
   rw[Q1]
   refine A0 rfl (A0 (v:=true) rfl (F0 ?_))
   rw[Bool.not_true,I7]
   refine io (by omega) ?_
   repeat ((with_reducible first|apply A0|apply wI|apply wT|apply wP|apply wS|apply wB);exact rfl)
   have hn:am mark (ls.drop at_)=if rest ≠ []∧(X8 rest [9]).2=false then none else some (p,(X8 rest [9]).1):=by
    unfold am
    rw[if_neg (by rw[g];decide),hu]
   rw[E3,U5]
   refine B6 (fun g2=>?_) (fun g2=>?_)
   ·generalize hb:false=b
    refine h29 _ _ b ?_
    rw[hn,if_neg (fun h=>h.1 g2),if_neg (by rw[← hb];decide)]
   ·refine h29 _ _ _ ?_
    rw[hn]
    cases hc:(X8 rest [9]).2 with
    | true=>rw[if_neg (fun h=>by cases h.2),if_neg (by decide)]
    | false=>rw[if_pos ⟨g2,rfl⟩];rfl
 ·refine fail ?_
  unfold am
  rw[if_pos g]
end
end Go.Sv
end
