/- Regions in the order of the text, loops, the end of a call: what the executor says is true of the model. No program stands in this text. What an operation looks at; quiet operations over a store that has grown. No program stands in this text. Quiet operations leave all as it was; what stands ahead of what in a region. No program stands in this text. Variables laid at a place that was kept free; what stands in a round of a region that draws. No program stands in this text. What the rounds of a region that draws lay down. No program stands in this text. Regions that draw their order. No program stands in this text. Code and whole calls over stores: what the executor says is true of the model. No program stands in this text. -/
import Derived.Test.YtgdnoobpnhmpjaaGreatDoorSvI
import Derived.Orders
set_option linter.unusedVariables false
set_option linter.unusedSimpArgs false
namespace Go.Sv
attribute [local semireducible] A2
section
open Go Go.RowKit
theorem wanted_of{ops:Array Oper}{m:Mp}{K:KS}{env:Env}{a:Act}(hE:U8 m K env a.tmps){o:Oper}{b:Bool}(h:P3 ops.toList env o=some b):Region.wanted o (yielded ops a.tmps)=b:=by
 unfold P3 at h
 unfold Region.wanted
 split at h
 ·rename_i hg
  cases h
  simp[hg]
 ·rename_i j want hg
  simp only[hg]
  split at h
  ·rename_i oj hj
   split at h
   ·rename_i d hd
    have hEd:=hE d
    have hop:(ops[j]?).bind (·.dst)=some d:=by
     have:ops[j]? = some oj:=by simpa using hj
     simp[this,hd]
    split at h
    ·rename_i v hv
     rw[hv] at hEd
     have hvv:=hEd.pv_inv.bool_inv
     have hsome:a.tmps[d]? = some (.bool v):=by
      rw[Array.getD_eq_getD_getElem?] at hvv
      cases hq:a.tmps[d]? with
      | none=>rw[hq] at hvv;simp[undef] at hvv
      | some x=>rw[hq] at hvv;simp at hvv;rw[hvv]
     have hy:yielded ops a.tmps j=some v:=by
      unfold yielded
      rw[hop]
      simp[hsome]
     rw[hy]
     split at h
     ·cases h;rfl
     ·cases h;rfl
     ·rename_i h1 h2
      cases h
      cases v<;>cases want<;>first|rfl|exact (h1 rfl rfl).elim|exact (h2 rfl rfl).elim
    ·rename_i hv
     rw[hv] at hEd
     cases h
     have hvv:a.tmps.getD d undef = .tuple #[]:=by
      generalize a.tmps.getD d undef=q at hEd
      cases hEd with
      | tup _ vs hl hr=>
       have:vs = #[]:=Array.eq_empty_of_size_eq_zero (by simpa using hl.symm)
       rw[this]
     have hy:yielded ops a.tmps j=none:=by
      unfold yielded
      rw[hop]
      rw[Array.getD_eq_getD_getElem?] at hvv
      cases hq:a.tmps[d]? with
      | none=>simp[hq]
      | some x=>rw[hq] at hvv;simp at hvv;simp[hq,hvv]
     rw[hy]
     rfl
    ·cases h
   ·cases h
  ·cases h
theorem jk{m:Mp}{K:KS}:C7 m K (.tup []) undef:=.tup _ _ rfl (fun j p v hp=>by simp at hp)
structure At(C:Ctx)(N n:Nat)(m0:Mp)(K0:KS)(m:Mp)(K:KS)(env:Env)(σ:A1)(a:Act)(w:World):Prop where
 bears:C5 C m K σ w
 len:n≤σ.length
 size:a.tmps.size=N
 reps:U8 m K env a.tmps
 defers:a.defers = []
 le:Le n m0 K0 m K
theorem At.next{C:Ctx}{N n:Nat}{m0:Mp}{K0:KS}{m:Mp}{K:KS}{env:Env}{σ:A1}{a:Act}{w:World}(h:At C N n m0 K0 m K env σ a w){m':Mp}{K':KS}{σ':A1}{w':World}(hB:C5 C m' K' σ' w')(hl:σ.length≤σ'.length)(hle:Le σ.length m K m' K')
  {dst:Option Tmp} {v:AV} {x:Value} (hx:C7 m' K' v x) {k:Env→Prop} (hk:nt N env dst v k):∃env',k env'∧At C N n m0 K0 m' K' env' σ' (a.put dst x) w':=by
 have hext:=hle.ext h.bears
 obtain ⟨env',hk',h1,h2,h3⟩:=putK_put hk h.size (h.reps.mono hext) hx
 exact ⟨env',hk',hB,Nat.le_trans h.len hl,h2,h1,h3.trans h.defers,h.le.trans (hle.less h.len)⟩
theorem pc{C:Ctx}(hC:Z5 C){N n:Nat}{m0:Mp}{K0:KS}{ops:Array Oper}{Q:Exit→Env→A1→Prop}:∀(r:List Oper) (i:Nat) (env:Env) (σ:A1),ops.toList.drop i=r→pops C N ops.toList r i env σ (Q .normal) →
  ∀m K a w,At C N n m0 K0 m K env σ a w→wpOps C.P ops (ma C N n m0 K0 Q) (List.range' i r.length) a w
 | [],i,env,σ,_,h,m,K,a,w,hA=>by
  simp only[List.length_nil,List.range'_zero]
  exact ⟨env,σ,m,K,hA.bears,hA.len,hA.size,hA.reps,hA.defers,hA.le,h⟩
 | o::r,i,env,σ,hr,h,m,K,a,w,hA=>by
  have ho:ops[i]? = some o:=by
   have:ops.toList[i]? = some o:=by
    have:=congrArg List.head? hr
    rw[List.head?_drop] at this
    simpa using this
   simpa using this
  have hr':ops.toList.drop (i+1)=r:=by
   have:=congrArg List.tail hr
   rw[List.tail_drop] at this
   simpa using this
  simp only[List.length_cons,List.range'_succ]
  simp only[wpOps,ho]
  simp only[pops] at h
  split at h
  ·rename_i hw
   rw[wanted_of hA.reps hw]
   simp only[if_true]
   left
   unfold pop at h
   refine op_sound hC hA.bears (fun x=>ev_rep hA.bears hA.reps x) h ?_
   intro v σ' m' K' w' x hk h1 h2 h3 h4
   obtain ⟨env',hk',hA'⟩:=hA.next h1 h2 h3 h4 (cv (df hk))
   exact pc hC r (i+1) env' σ' hr' hk' m' K' _ w' hA'
  ·rename_i hw
   rw[wanted_of hA.reps hw]
   simp only[Bool.false_eq_true,if_false]
   obtain ⟨env',hk',hA'⟩:=hA.next hA.bears (Nat.le_refl _) (Le.refl _ _ _) jk h
   exact pc hC r (i+1) env' σ hr' hk' m K _ w hA'
  ·exact h.elim
theorem At.swp{C:Ctx}{N n:Nat}{c:Code}{env:Env}{σ:A1}{Q:Exit→Env→A1→Prop}(h:∀m0 K0 m K a w,At C N n m0 K0 m K env σ a w→c.wp C.P (ma C N n m0 K0 Q) a w):Swp C N n c env σ Q:=
 fun m K w a hB hn hN hE hd=>h m K m K a w ⟨hB,hn,hN,hE,hd,Le.refl _ _ _⟩
theorem Swp.at{C:Ctx}{N n:Nat}{c:Code}{env:Env}{σ:A1}{Q:Exit→Env→A1→Prop}(h:Swp C N n c env σ Q){m0 K0 m K a w}(hA:At C N n m0 K0 m K env σ a w):c.wp C.P (ma C N n m0 K0 Q) a w:=by
 refine wp_mono (h m K w a hA.bears hA.len hA.size hA.reps hA.defers) fun e a' w' hp=>?_
 obtain ⟨env',σ',m',K',h1,h2,h3,h4,h5,h6,h7⟩:=hp
 exact ⟨env',σ',m',K',h1,h2,h3,h4,h5,hA.le.trans h6,h7⟩
theorem ma.at{C:Ctx}{N n:Nat}{m0:Mp}{K0:KS}{Q:Exit→Env→A1→Prop}{e:Exit}{a:Act}{w:World}(h:ma C N n m0 K0 Q e a w):∃env σ m K,At C N n m0 K0 m K env σ a w∧Q e env σ:=by
 obtain ⟨env',σ',m',K',h1,h2,h3,h4,h5,h6,h7⟩:=h
 exact ⟨env',σ',m',K',⟨h1,h2,h3,h4,h5,h6⟩,h7⟩
theorem At.post{C:Ctx}{N n:Nat}{m0:Mp}{K0:KS}{Q:Exit→Env→A1→Prop}{e:Exit}{m K env σ a w}(h:At C N n m0 K0 m K env σ a w)(hq:Q e env σ):ma C N n m0 K0 Q e a w:=
 ⟨env,σ,m,K,h.bears,h.len,h.size,h.reps,h.defers,h.le,hq⟩
theorem At.prune{C:Ctx}{N n:Nat}{m0:Mp}{K0:KS}{m K env σ a w}(h:At C N n m0 K0 m K env σ a w)(l:List Nat):At C N n m0 K0 m K (prune l env) σ a w:=
 ⟨h.bears,h.len,h.size,h.reps.prune l,h.defers,h.le⟩
theorem region_sound{C:Ctx}(hC:Z5 C){N n id:Nat}{ops:Array Oper}{env:Env}{σ:A1}{Q:Exit→Env→A1→Prop}(h:pops C N ops.toList ops.toList 0 env σ (Q .normal)):Swp C N n (.region id ops false) env σ Q:=by
 refine At.swp fun m0 K0 m K a w hA=>wp_region ?_
 have:=pc hC (n:=n) (m0:=m0) (K0:=K0) ops.toList 0 env σ rfl h m K a w hA
 rw[← List.range_eq_range'] at this
 simpa using this
theorem seq_sound{C:Ctx}{N n:Nat}{x y:Code}{env:Env}{σ:A1}{Q:Exit→Env→A1→Prop}{l:List Nat}(hx:Swp C N n x env σ (F2 (fun env σ=>Swp C N n y (prune l env) σ Q) Q)):Swp C N n (.seq x y) env σ Q:=by
 refine At.swp fun m0 K0 m K a w hA=>wp_seq (wp_mono (hx.at hA) fun e a' w' hp=>?_)
 obtain ⟨env',σ',m',K',hA',hq⟩:=hp.at
 cases e with
 | normal=>exact Swp.at hq (hA'.prune l)
 | exit j=>exact hA'.post (e:=.exit j) hq
 | goto j=>exact hA'.post (e:=.goto j) hq
 | ret=>exact hA'.post (e:=.ret) hq
 | panic c=>exact hA'.post (e:=.panic c) hq
 | outgrown=>exact hA'.post (e:=.outgrown) hq
theorem cond_sound{C:Ctx}{N n:Nat}{c:Operand}{x y:Code}{env:Env}{σ:A1}{Q:Exit→Env→A1→Prop}{b:Bool}(hc:ev C env c = .pv (.bool b))(h:Swp C N n (if b then x else y) env σ Q):Swp C N n (.cond c x y) env σ Q:=by
 refine At.swp fun m0 K0 m K a w hA=>?_
 have:=ev_rep hA.bears hA.reps c
 rw[hc] at this
 exact wp_cond this.pv_inv.bool_inv (Swp.at h hA)
theorem block_sound{C:Ctx}{N n id:Nat}{c:Code}{env:Env}{σ:A1}{Q:Exit→Env→A1→Prop}(h:Swp C N n c env σ (I3 id Q)):Swp C N n (.block id c) env σ Q:=by
 refine At.swp fun m0 K0 m K a w hA=>wp_block (wp_mono (h.at hA) fun e a' w' hp=>?_)
 obtain ⟨env',σ',m',K',hA',hq⟩:=hp.at
 cases e with
 | exit j=>
  simp only[I3] at hq
  rcases P8 j id with ⟨e,hb⟩|⟨e,hb⟩
  ·rw[hb] at hq
   simp only[Exit.inBlock,e,if_true]
   exact hA'.post hq
  ·rw[hb] at hq
   simp only[Exit.inBlock,e,if_false]
   exact hA'.post hq
 | normal=>exact hA'.post (e:=.normal) hq
 | goto j=>exact hA'.post (e:=.goto j) hq
 | ret=>exact hA'.post (e:=.ret) hq
 | panic c=>exact hA'.post (e:=.panic c) hq
 | outgrown=>exact hA'.post (e:=.outgrown) hq
theorem fb.wp{P:Program}{c:Code}{Q:Exit→Act→World→Prop}{a:Act}{w:World}(h:fb P c Q a w):(Code.loop c).wp P Q a w:=by
 intro b k cs
 obtain ⟨e,a',w',hq,harr⟩:=h b k cs
 exact ⟨e,a',w',hq,.of_steps (.one step_loop) harr⟩
theorem fb.mono{P:Program}{c:Code}{Q Q':Exit→Act→World→Prop}{a:Act}{w:World}(h:fb P c Q a w)(hq:∀e a w,Q e a w→Q' e a w):fb P c Q' a w:=by
 intro b k cs
 obtain ⟨e,a',w',h1,harr⟩:=h b k cs
 exact ⟨e,a',w',hq _ _ _ h1,harr⟩
theorem fb.round{P:Program}{c:Code}{Q:Exit→Act→World→Prop}{a:Act}{w:World}(h:c.wp P (Exit.then (fb P c Q) Q) a w):fb P c Q a w:=by
 intro b k cs
 obtain ⟨e,a₁,w₁,hq,harr⟩:=h b (.inLoop c::k) cs
 cases e with
 | normal=>
  obtain ⟨e₂,a₂,w₂,hq₂,harr₂⟩:=hq b k cs
  exact ⟨e₂,a₂,w₂,hq₂,.of_steps (Steps.trans harr (.one step_inLoop)) harr₂⟩
 | exit id=>exact ⟨_,a₁,w₁,hq,.pass (x:=.inLoop c) rfl (fun _ _=>.inl (by simp)) harr⟩
 | goto l=>exact ⟨_,a₁,w₁,hq,.pass (x:=.inLoop c) rfl (fun _ _=>.inl (by simp)) harr⟩
 | ret=>exact ⟨_,a₁,w₁,hq,.pass (x:=.inLoop c) rfl (fun _ _=>.inl (by simp)) harr⟩
 | panic ch=>exact ⟨_,a₁,w₁,hq,.pass (x:=.inLoop c) rfl (fun _ _=>.inl (by simp)) harr⟩
 | outgrown=>exact ⟨_,a₁,w₁,hq,.pass (x:=.inLoop c) rfl (fun _ _=>.inl (by simp)) harr⟩
theorem Z2.at{C:Ctx}{N n:Nat}{c:Code}{env:Env}{σ:A1}{Q:Exit→Env→A1→Prop}(h:Z2 C N n c env σ Q){m0 K0 m K a w}(hA:At C N n m0 K0 m K env σ a w):fb C.P c (ma C N n m0 K0 Q) a w:=by
 refine (h m K w a hA.bears hA.len hA.size hA.reps hA.defers).mono fun e a' w' hp=>?_
 obtain ⟨env',σ',m',K',h1,h2,h3,h4,h5,h6,h7⟩:=hp
 exact ⟨env',σ',m',K',h1,h2,h3,h4,h5,hA.le.trans h6,h7⟩
theorem loop_sound{C:Ctx}{N n:Nat}{c:Code}{env:Env}{σ:A1}{Q:Exit→Env→A1→Prop}{l:List Nat}(h:Z2 C N n c (prune l env) σ Q):Swp C N n (.loop c) env σ Q:=
 At.swp fun m0 K0 m K a w hA=>(Z2.at h (hA.prune l)).wp
theorem Z2.round{C:Ctx}{N n:Nat}{c:Code}{env:Env}{σ:A1}{Q:Exit→Env→A1→Prop}{l:List Nat}(h:Swp C N n c env σ (F2 (fun env σ=>Z2 C N n c (prune l env) σ Q) Q)):Z2 C N n c env σ Q:=by
 intro m K w a hB hn hN hE hd
 have hA:At C N n m K m K env σ a w:=⟨hB,hn,hN,hE,hd,Le.refl _ _ _⟩
 refine fb.round (wp_mono (h.at hA) fun e a' w' hp=>?_)
 obtain ⟨env',σ',m',K',hA',hq⟩:=hp.at
 cases e with
 | normal=>exact Z2.at hq (hA'.prune l)
 | exit j=>exact hA'.post (e:=.exit j) hq
 | goto j=>exact hA'.post (e:=.goto j) hq
 | ret=>exact hA'.post (e:=.ret) hq
 | panic c=>exact hA'.post (e:=.panic c) hq
 | outgrown=>exact hA'.post (e:=.outgrown) hq
end
section
open Go Go.RowKit
structure nr(ts:List Nat)(e e':Operand→AV):Prop where
 tmp:∀t,t∈ts→e (.tmp t)=e' (.tmp t)
 other:∀x,S7 x = []→e x=e' x
theorem nr.op{ts:List Nat}{e e':Operand→AV}(h:nr ts e e'){x:Operand}(hx:∀t,t∈S7 x→t∈ts):e x=e' x:=by
 cases x with
 | tmp t=>exact h.tmp t (hx t (by simp[S7]))
 | _=>exact h.other _ rfl
theorem nr.list{ts:List Nat}{e e':Operand→AV}(h:nr ts e e'){l:List Operand}(hx:∀t,t∈dh l→t∈ts):l.map e=l.map e':=by
 induction l with
 | nil=>rfl
 | cons x r ih=>
  simp only[dh,List.mem_append] at hx
  rw[List.map_cons,List.map_cons,h.op (fun t ht=>hx t (.inl ht)),ih (fun t ht=>hx t (.inr ht))]
theorem nr.pairs{ts:List Nat}{e e':Operand→AV}(h:nr ts e e'){l:List (Nat×Operand)}(hx:∀t,t∈dh (l.map (·.2))→t∈ts):(l.map fun p=>(p.1,e p.2))=l.map fun p=>(p.1,e' p.2):=by
 induction l with
 | nil=>rfl
 | cons x r ih=>
  simp only[List.map_cons,dh,List.mem_append] at hx
  rw[List.map_cons,List.map_cons,h.op (fun t ht=>hx t (.inl ht)),ih (fun t ht=>hx t (.inr ht))]
theorem nr.opt{ts:List Nat}{e e':Operand→AV}(h:nr ts e e'){x:Option Operand}(hx:∀t,t∈vo x→t∈ts):x.map e=x.map e':=by
 cases x with
 | none=>rfl
 | some x=>simp only[Option.map_some,h.op hx]
theorem U5{C:Ctx}{o:Oper}{e e':Operand→AV}{σ:A1}{k:AV→A1→Prop}(h:nr (I7 o.op) e e')(ha:Q3 C o e σ k):Q3 C o e' σ k:=by
 obtain ⟨dst,op,type,pos,after,guard⟩:=o
 have one:∀x,(∀ t,t∈S7 x→t∈I7 op)→e x=e' x:=fun x hx=>h.op hx
 have lst:∀l,(∀ t,t∈dh l→t∈I7 op)→l.map e=l.map e':=fun x hx=>h.list hx
 have prs:∀l:List (Nat×Operand),(∀ t,t∈dh (l.map (·.2))→t∈I7 op)→(l.map fun p=>(p.1,e p.2))=l.map fun p=>(p.1,e' p.2):=fun x hx=>h.pairs hx
 have opn:∀l,(∀ t,t∈vo l→t∈I7 op)→l.map e=l.map e':=fun x hx=>h.opt hx
 cases op
 case call c=>
  obtain ⟨callee,args,ts⟩:=c
  cases callee with
  | value f=>exact ha
  | invoke r n=>exact ha
  | builtin b=>
   have hl:args.toList.map e=args.toList.map e':=lst _ (fun t ht=>by simpa[I7] using ht)
   have ha0:∀x,args[0]? = some x→e x=e' x:=by
    intro x hx
    have h1:(args.toList.map e)[0]? = (args.toList.map e')[0]?:=by rw[hl]
    simpa[hx] using h1
   cases b
   case len=>
    simp only[Q3] at ha ⊢
    refine E6 ha fun t _ h=>E6 h fun x hx h=>?_
    rw[← ha0 x hx]
    exact h
   case append=>
    simp only[Q3] at ha ⊢
    split at ha
    ·rename_i t t2 s x hts hargs
     rw[hargs] at hl
     simp only[List.map_cons,List.map_nil,List.cons.injEq,and_true] at hl
     rw[hl.1,hl.2] at ha
     exact ha
    ·exact ha.elim
   case copy=>
    simp only[Q3] at ha ⊢
    split at ha
    ·rename_i t t2 s x hts hargs
     rw[hargs] at hl
     simp only[List.map_cons,List.map_nil,List.cons.injEq,and_true] at hl
     rw[hl.1,hl.2] at ha
     exact ha
    ·exact ha.elim
   case min=>
    simp only[Q3] at ha ⊢
    split at ha
    ·rename_i x r hargs
     rw[hargs] at hl
     simp only[List.map_cons,List.cons.injEq] at hl
     rw[hl.1,hl.2] at ha
     exact ha
    ·exact ha.elim
   case max=>
    simp only[Q3] at ha ⊢
    split at ha
    ·rename_i x r hargs
     rw[hargs] at hl
     simp only[List.map_cons,List.cons.injEq] at hl
     rw[hl.1,hl.2] at ha
     exact ha
    ·exact ha.elim
   all_goals exact ha
 case move x=>
  simp only[Q3] at ha ⊢
  rw[one x (fun t ht=>by simp[I7,ht])] at ha
  exact ha
 case assign x=>
  simp only[Q3] at ha ⊢
  rw[one x (fun t ht=>by simp[I7,ht])] at ha
  exact ha
 case nilCheck x=>
  simp only[Q3] at ha ⊢
  rw[one x (fun t ht=>by simp[I7,ht])] at ha
  exact ha
 case pick c a b=>
  simp only[Q3] at ha ⊢
  rw[one c (fun t ht=>by simp[I7,ht])] at ha
  rw[one a (fun t ht=>by simp[I7,ht])] at ha
  rw[one b (fun t ht=>by simp[I7,ht])] at ha
  exact ha
 case box t x=>
  simp only[Q3] at ha ⊢
  rw[one x (fun t ht=>by simp[I7,ht])] at ha
  exact ha
 case build t ps=>
  simp only[Q3] at ha ⊢
  rw[prs ps.toList (fun t ht=>by simp[I7,ht])] at ha
  exact ha
 case buildSlice t n ps=>
  simp only[Q3] at ha ⊢
  rw[prs ps.toList (fun t ht=>by simp[I7,ht])] at ha
  exact ha
 case load t a=>
  simp only[Q3] at ha ⊢
  rw[one a (fun t ht=>by simp[I7,ht])] at ha
  exact ha
 case store t a x=>
  simp only[Q3] at ha ⊢
  rw[one a (fun t ht=>by simp[I7,ht])] at ha
  rw[one x (fun t ht=>by simp[I7,ht])] at ha
  exact ha
 case binOp bo t x y yt=>
  simp only[Q3] at ha ⊢
  rw[one x (fun t ht=>by simp[I7,ht])] at ha
  rw[one y (fun t ht=>by simp[I7,ht])] at ha
  exact ha
 case unOp uo t x=>
  simp only[Q3] at ha ⊢
  rw[one x (fun t ht=>by simp[I7,ht])] at ha
  exact ha
 case convert s d x=>
  simp only[Q3] at ha ⊢
  rw[one x (fun t ht=>by simp[I7,ht])] at ha
  exact ha
 case makeInterface t x=>
  simp only[Q3] at ha ⊢
  rw[one x (fun t ht=>by simp[I7,ht])] at ha
  exact ha
 case makeFunc fn xs ys=>
  simp only[Q3] at ha ⊢
  rw[lst xs.toList (fun t ht=>by simp[I7,ht])] at ha
  rw[lst ys.toList (fun t ht=>by simp[I7,ht])] at ha
  exact ha
 case makeSlice t l c=>
  simp only[Q3] at ha ⊢
  rw[one l (fun t ht=>by simp[I7,ht])] at ha
  rw[one c (fun t ht=>by simp[I7,ht])] at ha
  exact ha
 case fieldAddr t x f=>
  simp only[Q3] at ha ⊢
  rw[one x (fun t ht=>by simp[I7,ht])] at ha
  exact ha
 case field t x f=>
  simp only[Q3] at ha ⊢
  rw[one x (fun t ht=>by simp[I7,ht])] at ha
  exact ha
 case indexAddr t x i=>
  simp only[Q3] at ha ⊢
  rw[one x (fun t ht=>by simp[I7,ht])] at ha
  rw[one i (fun t ht=>by simp[I7,ht])] at ha
  exact ha
 case index t x i=>
  simp only[Q3] at ha ⊢
  rw[one x (fun t ht=>by simp[I7,ht])] at ha
  rw[one i (fun t ht=>by simp[I7,ht])] at ha
  exact ha
 case typeAssert x s t ok=>
  simp only[Q3] at ha ⊢
  rw[one x (fun t ht=>by simp[I7,ht])] at ha
  exact ha
 case makeMap t r=>
  cases r with
  | some m=>exact ha
  | none=>exact ha
 case lookup t x i ok=>
  simp only[Q3] at ha ⊢
  rw[one x (fun t ht=>by simp[I7,ht])] at ha
  rw[one i (fun t ht=>by simp[I7,ht])] at ha
  exact ha
 case mapUpdate t x i v=>
  simp only[Q3] at ha ⊢
  rw[one x (fun t ht=>by simp[I7,ht])] at ha
  rw[one i (fun t ht=>by simp[I7,ht])] at ha
  rw[one v (fun t ht=>by simp[I7,ht])] at ha
  exact ha
 case extract x i=>
  simp only[Q3] at ha ⊢
  rw[one x (fun t ht=>by simp[I7,ht])] at ha
  exact ha
 case slice t x lo hi mx=>
  cases mx with
  | some m=>exact ha
  | none=>
   simp only[Q3] at ha ⊢
   rw[one x (fun t ht=>by simp[I7,ht]),opn lo (fun t ht=>by simp[I7,ht]),opn hi (fun t ht=>by simp[I7,ht])] at ha
   exact ha
 all_goals exact ha
def tz(σ σ':A1):Prop:=∀(id:Nat) x,σ[id]? = some x→σ'[id]? = some x
theorem aLoad_grown{σ σ':A1}(h:tz σ σ'){ti:TI}{a r:AV}(hl:A6 σ ti a=some r):A6 σ' ti a=some r:=by
 unfold A6 at *
 split at hl
 ·split at hl
  ·rename_i ho
   rw[h _ _ ho]
   exact hl
  ·cases hl
 ·split at hl
  ·rename_i ho
   rw[h _ _ ho]
   exact hl
  ·cases hl
 ·exact hl
 ·cases hl
theorem elems_grown{σ σ':A1}(h:tz σ σ'){a:AV}{xs:List PV}(hl:elems σ a=some xs):elems σ' a=some xs:=by
 unfold elems at *
 split at hl
 ·exact hl
 ·exact hl
 ·split at hl
  ·rename_i ho
   rw[h _ _ ho]
   exact hl
  ·cases hl
 ·exact hl
 ·cases hl
theorem aSlice_grown{σ σ':A1}(h:tz σ σ'){tab:TypeId→Option TI}{td:TD}{x:AV}{lo hi:Option AV}{r:AV}(hl:G7 σ tab td x lo hi=some r):G7 σ' tab td x lo hi=some r:=by
 unfold G7 at *
 split at hl
 ·cases hl
 ·split at hl
  ·split at hl
   ·rename_i hc
    rw[if_pos hc]
    split at hl
    ·exact hl
    ·exact hl
    ·exact hl
    ·split at hl
     ·rename_i ei es xs fz htab ho
      simp only[htab,h _ _ ho]
      exact hl
     ·cases hl
    ·cases hl
   ·cases hl
  ·cases hl
theorem rv{σ σ':A1}(h:tz σ σ'){tab:TypeId→Option TI}{td:TD}{x:AV}{i:Int}{r:AV}(hl:D1 σ tab td x i=some r):D1 σ' tab td x i=some r:=by
 unfold D1 at *
 split at hl
 ·split at hl
  ·cases hl
  ·split at hl
   ·exact hl
   ·split at hl
    ·rename_i ho
     simp only[h _ _ ho]
     exact hl
    ·cases hl
   ·exact hl
   ·cases hl
 ·exact hl
 ·cases hl
theorem ka{C:Ctx}{o:Oper}{e:Operand→AV}{σ σ':A1}{P:AV→Prop}(hk:F7 C o=0∨F7 C o=1)(hg:F7 C o=0∨tz σ σ')(h:Q3 C o e σ fun v _=>P v):Q3 C o e σ' fun v s=>P v∧s=σ':=by
 obtain ⟨dst,op,type,pos,after,guard⟩:=o
 have grown:F7 C ⟨dst,op,type,pos,after,guard⟩≠0→tz σ σ':=fun hn=>hg.resolve_left hn
 cases op
 case move x=>exact ⟨h,rfl⟩
 case pick c a b=>exact isB_mono h fun t h=>by cases t<;>exact ⟨h,rfl⟩
 case build t ps=>exact E6 h fun _ _ h=>E6 h fun _ _ h=>⟨h,rfl⟩
 case nilCheck x=>exact E6 h fun _ _ h=>⟨h,rfl⟩
 case binOp bo t x y yt=>
  simp only[Q3] at h ⊢
  exact aBinK_mono h fun v h=>⟨h,trivial⟩
 case unOp uo t x=>exact E6 h fun _ _ h=>⟨h,rfl⟩
 case makeInterface t x=>
  refine E6 h fun ti _ h=>?_
  split at h
  ·exact h.elim
  ·exact E6 h fun _ _ h=>⟨h,rfl⟩
 case makeFunc fn xs ys=>exact ⟨h,rfl⟩
 case fieldAddr t x f=>exact E6 h fun _ _ h=>E6 h fun _ _ h=>⟨h,rfl⟩
 case field t x f=>exact E6 h fun _ _ h=>E6 h fun _ _ h=>⟨h,rfl⟩
 case index t x i=>
  refine E6 h fun ti _ h=>?_
  split at h
  ·exact E6 h fun _ _ h=>⟨h,rfl⟩
  ·exact h.elim
 case typeAssert x s t ok=>exact E6 h fun _ _ h=>⟨h,rfl⟩
 case extract x i=>exact xc h fun _ h=>E6 h fun _ _ h=>⟨h,rfl⟩
 case load t a=>
  have hgr:=grown (by simp[F7])
  obtain ⟨ti,hti,h⟩:=C4 h
  obtain ⟨v,hv,h⟩:=C4 h
  simp only[Q3,hti,opt,aLoad_grown hgr hv]
  exact ⟨h,trivial⟩
 case slice t x lo hi mx=>
  cases mx with
  | some _=>exact h.elim
  | none=>
   have hgr:=grown (by simp[F7])
   obtain ⟨ti,hti,h⟩:=C4 h
   obtain ⟨v,hv,h⟩:=C4 h
   simp only[Q3,hti,opt,aSlice_grown hgr hv]
   exact ⟨h,trivial⟩
 case indexAddr t x i=>
  have hgr:=grown (by simp[F7])
  obtain ⟨ti,hti,h⟩:=C4 h
  simp only[Q3,hti,opt]
  split at h
  ·obtain ⟨v,hv,h⟩:=C4 h
   rw[rv hgr hv]
   exact ⟨h,trivial⟩
  ·exact h.elim
 case convert s d x=>
  obtain ⟨si,hsi,h⟩:=C4 h
  obtain ⟨di,hdi,h⟩:=C4 h
  obtain ⟨v,σ2,hv,h⟩:=ce h
  simp only[Q3,hsi,hdi,opt]
  have hk':fw di.td=0∨fw di.td=1:=by simpa[F7,hdi] using hk
  have key:W4 σ' C.tab si.td di.td (e x)=some (v,σ'):=by
   unfold W4 at *
   split at hv
   ·cases hv;rfl
   ·cases hv;rfl
   ·rename_i hd _;rw[hd] at hk';simp[fw] at hk'
   ·rename_i hd hns
    have hgr:=grown (by simp[F7,hdi,hd,fw])
    split at hv
    ·split at hv
     ·obtain ⟨s,hs,e1⟩:=Option.map_eq_some_iff.1 hv
      cases e1
      simp[hs]
     ·cases hv;rfl
     ·split at hv
      ·rename_i hx
       obtain ⟨s,hs,e1⟩:=Option.map_eq_some_iff.1 hv
       cases e1
       simp[elems_grown hgr hx,hs]
      ·cases hv
     ·cases hv
    ·cases hv
   ·cases hv
  simp only[key,opt2]
  exact ⟨h,trivial⟩
 case call c=>
  obtain ⟨callee,args,ts⟩:=c
  cases callee with
  | value f=>simp[F7] at hk
  | invoke r n=>simp[F7] at hk
  | builtin b=>
   cases b
   case len=>
    refine E6 h fun t0 ht0 h=>E6 h fun x0 _ h=>E6 h fun ti0 hti0 h=>?_
    obtain ⟨v,hv,h⟩:=C4 h
    have key:aLenS σ' ti0.td (e x0)=some v:=by
     unfold aLenS at hv ⊢
     cases hd:ti0.td with
     | map kt et=>
      rw[hd] at hv
      have hg1:=grown (by simp only[F7,ht0,hti0,hd];decide)
      simp only at hv ⊢
      split at hv
      ·split at hv
       ·rename_i ho
        simp only[hg1 _ _ ho]
        exact hv
       ·cases hv
      ·cases hv
     | _=>rw[hd] at hv;exact hv
    show opt (aLenS σ' ti0.td (e x0)) _
    rw[key]
    exact ⟨h,rfl⟩
   case min=>
    simp only[Q3] at h ⊢
    split at h
    ·exact E6 h fun _ _ h=>⟨h,trivial⟩
    ·exact h.elim
   case max=>
    simp only[Q3] at h ⊢
    split at h
    ·exact E6 h fun _ _ h=>⟨h,trivial⟩
    ·exact h.elim
   all_goals simp[F7] at hk
 all_goals simp[F7] at hk
end
section
open Go Go.RowKit
theorem convert_quiet{C:Ctx}(hC:X1 C){m:Mp}{K:KS}{σ:A1}{w:World}(hB:C5 C m K σ w){src dst:TypeId}{ts td:TI}(hS:N0 C.P src ts)(hD:N0 C.P dst td){x:AV}{xv:Value}(hx:C7 m K x xv){r:AV}{σ':A1}
  (hk:fw td.td≠3) (h:W4 σ C.tab ts.td td.td x=some (r,σ')):∃v,(convert src dst xv).run C.P w = .ok v w∧C7 m K r v:=by
 obtain ⟨ds,hus,hds⟩:=hS.under
 unfold W4 at h
 split at h
 ·rename_i k k' n heq
  cases h
  cases hx.pv_inv
  exact ⟨.int k (k.wrap n),by simp[convert,run_underlying hus,run_underlying (hD.int heq),Conv.intToInt],.pv _ _ (.int _ _)⟩
 ·rename_i s heq
  cases h
  cases hx.pv_inv
  exact ⟨.string ⟨s.toArray⟩,by simp[convert,run_underlying hus,run_underlying (hD.str heq)],.pv _ _ (.str _)⟩
 ·rename_i _ hd
  rw[hd] at hk
  exact absurd rfl hk
 ·rename_i el hsrc hdst hns
  split at h
  ·rename_i ei hel
   have hE:=hC _ _ hel
   split at h
   ·rename_i xs hei
    obtain ⟨s,hb,e⟩:=Option.map_eq_some_iff.1 h
    cases e
    exact ⟨_,W7 hB (hS.slice hsrc) (hE.int hei) (hD.str hdst) (by rfl) hx (by simp) hb,.pv _ _ (.str _)⟩
   ·rename_i hei
    cases h
    exact ⟨_,W7 (s:=[]) hB (hS.slice hsrc) (hE.int hei) (hD.str hdst) (by rfl) hx (by simp) rfl,.pv _ _ (.str _)⟩
   ·rename_i id ver off len hei
    split at h
    ·rename_i xs hxs
     obtain ⟨s,hb,e⟩:=Option.map_eq_some_iff.1 h
     cases e
     exact ⟨_,W7 hB (hS.slice hsrc) (hE.int hei) (hD.str hdst) hxs hx (by simp) hb,.pv _ _ (.str _)⟩
    ·cases h
   ·cases h
  ·cases h
 ·cases h
theorem quiet_sound{C:Ctx}(hC:Z5 C){m:Mp}{K:KS}{σ:A1}{w:World}(hB:C5 C m K σ w){e:Operand→AV}{ρ:Operand→Value}(he:∀x,C7 m K (e x) (ρ x)){o:Oper}{P:AV→Prop}(hk:F7 C o=0∨F7 C o=1)
  (h:Q3 C o e σ fun v _=>P v):∃v x,P v∧(execOp ρ o).run C.P w = .ok (.value x) w∧C7 m K v x:=by
 have hT:=hC.tab
 have hk2:F7 C o≠2:=by omega
 have hk3:F7 C o≠3:=by omega
 unfold Q3 at h
 split at h
 case h_1 x ho=>exact ⟨_,ρ x,h,by simp[execOp,ho],he x⟩
 case h_2 x ho=>simp[F7,ho] at hk3
 case h_3 c a b ho=>
  obtain ⟨t,ht,h⟩:=iy h
  have hc:=he c
  rw[ht] at hc
  have hcv:=hc.pv_inv.bool_inv
  cases t with
  | true=>exact ⟨_,ρ a,h,by simp[execOp,ho,hcv,asBool],he a⟩
  | false=>exact ⟨_,ρ b,h,by simp[execOp,ho,hcv,asBool],he b⟩
 case h_4 t ho=>simp[F7,ho] at hk2
 case h_5 t x ho=>simp[F7,ho] at hk2
 case h_6 t parts ho=>
  obtain ⟨ti,hti,h⟩:=C4 h
  obtain ⟨v,hv,h⟩:=C4 h
  obtain ⟨x,hx,hr⟩:=tu (w:=w) hT he (hT _ _ hti) hv
  refine ⟨_,x,h,?_,hr⟩
  have e1:(parts.map fun (i,x)=>(i,ρ x))=(parts.toList.map fun p=>(p.1,ρ p.2)).toArray:=by
   apply Array.ext';simp
  simp only[execOp,ho,Sem.run_bind]
  rw[e1,hx]
  rfl
 case h_7 t len parts ho=>simp[F7,ho] at hk3
 case h_8 t a ho=>
  obtain ⟨ti,hti,h⟩:=C4 h
  obtain ⟨v,hv,h⟩:=C4 h
  obtain ⟨x,hx,hr⟩:=ox hB (hT _ _ hti) (he a) hv
  exact ⟨_,x,h,by simp[execOp,ho,hx],hr⟩
 case h_9 t a x ho=>simp[F7,ho] at hk3
 case h_10 x ho=>
  obtain ⟨v,hv,h⟩:=C4 h
  obtain ⟨hrun,rfl⟩:=lq (he x) hv C.P w x ρ o rfl ho
  exact ⟨_,_,h,hrun,he x⟩
 case h_11 op t x y at_ ho=>
  obtain ⟨r,hk,v,hv,hr⟩:=ui (w:=w) hT (he x) (he y) h
  exact ⟨r,v,hk,by simp only[execOp,ho];rw[Sem.run_bind,hv];rfl,hr⟩
 case h_12 op t x ho=>
  obtain ⟨v,hv,h⟩:=C4 h
  obtain ⟨u,hu,hr⟩:=un_sound (P:=C.P) (w:=w) (he x) hv
  exact ⟨_,u,h,by simp[execOp,ho,hu],hr⟩
 case h_13 src dst x ho=>
  obtain ⟨ts,hts,h⟩:=C4 h
  obtain ⟨td,htd,h⟩:=C4 h
  obtain ⟨v,σ',hv,h⟩:=ce h
  obtain ⟨u,hu,hr⟩:=convert_quiet hT hB (hT _ _ hts) (hT _ _ htd) (he x) (by simpa[F7,ho,htd] using hk3) hv
  exact ⟨_,u,h,by simp[execOp,ho,hu],hr⟩
 case h_14 t x ho=>
  obtain ⟨ti,hti,h⟩:=C4 h
  split at h
  ·exact h.elim
  ·rename_i hn
   obtain ⟨v,hv,h⟩:=C4 h
   obtain ⟨u,hu,hr⟩:=dp (w:=w) hT (hT _ _ hti) hn (he x) hv
   exact ⟨_,u,h,by simp[execOp,ho,hu],hr⟩
 case h_15 fn first captured ho=>
  have r1:=jo he first
  have r2:=jo he captured
  exact ⟨_,_,h,by simp[execOp,ho,Instr.makeFunc],.func _ _ _ _ _ r1.1 r1.2 r2.1 r2.2⟩
 case h_16 t l c ho=>simp[F7,ho] at hk2
 case h_17 t x lo hi ho=>
  obtain ⟨ti,hti,h⟩:=C4 h
  obtain ⟨v,hv,h⟩:=C4 h
  obtain ⟨u,hu,hr⟩:=uf hT hB (hT _ _ hti) (he x) (lov:=lo.map ρ) (hiv:=hi.map ρ) (fun a ha=>by
   obtain ⟨y,rfl,rfl⟩:=Option.map_eq_some_iff.1 ha
   exact ⟨_,rfl,he y⟩) (fun hn=>by simpa using hn) (fun a ha=>by
   obtain ⟨y,rfl,rfl⟩:=Option.map_eq_some_iff.1 ha
   exact ⟨_,rfl,he y⟩) (fun hn=>by simpa using hn) hv
  exact ⟨_,u,h,by simp[execOp,ho,hu],hr⟩
 case h_18 t x f ho=>
  obtain ⟨ti,hti,h⟩:=C4 h
  obtain ⟨v,hv,h⟩:=C4 h
  obtain ⟨u,hu,hr⟩:=ky (w:=w) hT (hT _ _ hti) (he x) hv
  exact ⟨_,u,h,by simp[execOp,ho,hu],hr⟩
 case h_19 t x f ho=>
  obtain ⟨ti,hti,h⟩:=C4 h
  obtain ⟨v,hv,h⟩:=C4 h
  obtain ⟨u,hu,hr⟩:=tg (w:=w) hT (hT _ _ hti) (he x) hv
  exact ⟨_,u,h,by simp[execOp,ho,hu],hr⟩
 case h_20 t x i ho=>
  obtain ⟨ti,hti,h⟩:=C4 h
  split at h
  ·rename_i kd n hi
   obtain ⟨v,hv,h⟩:=C4 h
   have hix:=he i
   rw[hi] at hix
   obtain ⟨u,hu,hr⟩:=kx (k:=kd) hT hB (hT _ _ hti) (he x) hv
   exact ⟨_,u,h,by simp[execOp,ho,hix.pv_inv.int_inv,hu],hr⟩
  ·exact h.elim
 case h_21 t x i ho=>
  obtain ⟨ti,hti,h⟩:=C4 h
  split at h
  ·rename_i kd n hi
   obtain ⟨v,hv,h⟩:=C4 h
   have hix:=he i
   rw[hi] at hix
   obtain ⟨u,hu,hr⟩:=tv (k:=kd) (w:=w) hT (hT _ _ hti) (he x) hv
   exact ⟨_,u,h,by simp[execOp,ho,hix.pv_inv.int_inv,hu],hr⟩
  ·exact h.elim
 case h_22 x xt t ok ho=>
  obtain ⟨v,hv,h⟩:=C4 h
  obtain ⟨u,hu,hr⟩:=jn (w:=w) (xt:=xt) hT (he x) hv
  exact ⟨_,u,h,by simp[execOp,ho,hu],hr⟩
 case h_23 t i ho=>
  obtain ⟨vs,hvs,h⟩:=ph h
  obtain ⟨v,hv,h⟩:=C4 h
  have ht:=he t
  rw[hvs] at ht
  obtain ⟨u,hu,hr⟩:=ov (C:=C) (w:=w) ht hv
  exact ⟨_,u,h,by simp[execOp,ho,hu],hr⟩
 case h_24 args ts ho=>
  obtain ⟨t,ht,h⟩:=C4 h
  obtain ⟨x,hx,h⟩:=C4 h
  obtain ⟨ti,hti,h⟩:=C4 h
  obtain ⟨v,hv,h⟩:=C4 h
  obtain ⟨u,hu,hr⟩:=lenS_sound hB (ty:=o.type) (hT _ _ hti) (he x) hv ht (xs:=args.map ρ) (by simp[hx])
  refine ⟨_,u,h,?_,hr⟩
  rw[N4 ho]
  simp[builtin,hu]
 case h_25 args ts ho=>simp[F7,ho] at hk3
 case h_26 args ts ho=>simp[F7,ho] at hk3
 case h_27 args ts ho=>
  split at h
  ·rename_i x r hargs
   obtain ⟨v,hv,h⟩:=C4 h
   obtain ⟨u,hu,hr⟩:=dg (P:=C.P) (w:=w) (g:=Builtin.min2) we he r _ _ _ (he x) hv
   refine ⟨_,u,h,?_,hr⟩
   rw[N4 ho]
   simp[builtin,Builtin.min_,hargs,hu]
  ·exact h.elim
 case h_28 args ts ho=>
  split at h
  ·rename_i x r hargs
   obtain ⟨v,hv,h⟩:=C4 h
   obtain ⟨u,hu,hr⟩:=dg (P:=C.P) (w:=w) (g:=Builtin.max2) max2_sound he r _ _ _ (he x) hv
   refine ⟨_,u,h,?_,hr⟩
   rw[N4 ho]
   simp[builtin,Builtin.max_,hargs,hu]
  ·exact h.elim
 case h_29 t ho=>simp[F7,ho] at hk3
 case h_30 t x i ok ho=>simp[F7,ho] at hk3
 case h_31 t x i v ho=>simp[F7,ho] at hk3
 case h_32=>exact h.elim
theorem Y9(m i:Nat):C8 m i=m.testBit i:=by
 have h1:Nat.land (Nat.shiftRight m i) 1=m / 2 ^ i % 2:=by
  have:(m >>> i) &&& 1=m / 2 ^ i % 2:=by rw[Nat.and_one_is_mod,Nat.shiftRight_eq_div_pow]
  exact this
 unfold C8
 rw[h1,Nat.testBit_eq_decide_div_mod_eq]
 rcases P8 (m / 2 ^ i % 2) 1 with ⟨h,hb⟩|⟨h,hb⟩<;>simp[h,hb]
theorem M7(a b i:Nat):C8 (Nat.lor a b) i=(C8 a i||C8 b i):=by
 rw[Y9,Y9,Y9]
 exact Nat.testBit_or a b i
theorem bw(k i:Nat):C8 (Nat.pow 2 k) i=decide (k=i):=by
 rw[Y9]
 exact Nat.testBit_two_pow
theorem V4(i:Nat):C8 0 i=false:=by rw[Y9];simp
theorem land_sub{b loud done:Nat}:Nat.beq (Nat.land (Nat.land b loud) done) (Nat.land b loud)=true ↔ ∀j,C8 b j=true→C8 loud j=true→C8 done j=true:=by
 constructor
 ·intro h j h1 h2
  have e:Nat.land (Nat.land b loud) done=Nat.land b loud:=Nat.eq_of_beq_eq_true h
  rw[Y9] at *
  have e2:(Nat.land (Nat.land b loud) done).testBit j=(Nat.land b loud).testBit j:=by rw[e]
  have e3:((b.testBit j&&loud.testBit j)&&done.testBit j)=(b.testBit j&&loud.testBit j):=by
   have q1:(Nat.land (Nat.land b loud) done).testBit j=((b.testBit j&&loud.testBit j)&&done.testBit j):=by
    have h1:(Nat.land (Nat.land b loud) done).testBit j=((b &&& loud).testBit j&&done.testBit j):=Nat.testBit_and (b &&& loud) done j
    rw[h1,Nat.testBit_and]
   have q2:(Nat.land b loud).testBit j=(b.testBit j&&loud.testBit j):=Nat.testBit_and b loud j
   rw[← q1,←q2,e2]
  rw[h1,h2] at e3
  simpa using e3
 ·intro h
  have:Nat.land (Nat.land b loud) done=Nat.land b loud:=by
   apply Nat.eq_of_testBit_eq
   intro j
   have q1:(Nat.land (Nat.land b loud) done).testBit j=((b.testBit j&&loud.testBit j)&&done.testBit j):=by
    have h1:(Nat.land (Nat.land b loud) done).testBit j=((b &&& loud).testBit j&&done.testBit j):=Nat.testBit_and (b &&& loud) done j
    rw[h1,Nat.testBit_and]
   have q2:(Nat.land b loud).testBit j=(b.testBit j&&loud.testBit j):=Nat.testBit_and b loud j
   rw[q1,q2]
   have hj:=h j
   rw[Y9,Y9,Y9] at hj
   cases h1:b.testBit j<;>cases h2:loud.testBit j<;>simp
   exact hj h1 h2
  rw[this]
  simp
theorem wb(l:List Nat)(k:Nat):U7 l k=(l[k]?).getD 0:=by
 induction l generalizing k with
 | nil=>simp[U7]
 | cons x r ih=>cases k<;>simp[U7,ih]
theorem fc{acc:List Nat}{i:Nat}:∀{es:List Edge} {s:Nat},befOf acc i es=some s →
  (∀ e∈es,ab e=true→e.on<i∧C8 s e.on=true ∧ ∀j,C8 (U7 acc e.on) j=true→C8 s j=true) ∧ ∀j,C8 s j=true → ∃e∈es,ab e=true∧(j=e.on∨C8 (U7 acc e.on) j=true)
 | [],s,h=>by
  cases h
  exact ⟨by simp,fun j hj=>by rw[V4] at hj;cases hj⟩
 | e::r,s,h=>by
  simp only[befOf] at h
  split at h
  ·rename_i hb
   obtain ⟨h1,h2⟩:=fc h
   refine ⟨fun x hx hbx=>?_,fun j hj=>?_⟩
   ·rcases List.mem_cons.1 hx with rfl|hx
    ·rw[hb] at hbx;cases hbx
    ·exact h1 x hx hbx
   ·obtain ⟨x,hx,h3⟩:=h2 j hj
    exact ⟨x,List.mem_cons_of_mem _ hx,h3⟩
  ·rename_i hb
   split at h
   ·rename_i hle
    split at h
    ·rename_i s' hs'
     cases h
     obtain ⟨h1,h2⟩:=fc hs'
     refine ⟨fun x hx hbx=>?_,fun j hj=>?_⟩
     ·rcases List.mem_cons.1 hx with rfl|hx
      ·refine ⟨Nat.le_of_ble_eq_true hle,?_,fun j hj=>?_⟩
       ·rw[M7,M7,bw];simp
       ·rw[M7,M7,hj];simp
      ·obtain ⟨g1,g2,g3⟩:=h1 x hx hbx
       refine ⟨g1,?_,fun j hj=>?_⟩
       ·rw[M7,M7,g2];simp
       ·rw[M7,M7,g3 j hj];simp
     ·rw[M7,M7,bw] at hj
      simp only[Bool.or_eq_true,decide_eq_true_eq] at hj
      rcases hj with (hj|hj)|hj
      ·obtain ⟨x,hx,h3⟩:=h2 j hj
       exact ⟨x,List.mem_cons_of_mem _ hx,h3⟩
      ·exact ⟨e,by simp,hb,.inl hj.symm⟩
      ·exact ⟨e,by simp,hb,.inr hj⟩
    ·cases h
   ·cases h
theorem befs_spec:∀{r:List Oper} {i:Nat} {acc bs:List Nat},acc.length=i→befs i r acc=some bs →
  bs.length=i+r.length∧(∀ j,j<i→bs[j]? = acc[j]?) ∧ ∀(j:Nat) o,r[j]? = some o → ∃acc',(∀ k,k<i+j→U7 acc' k=U7 bs k)∧befOf acc' (i+j) o.after.toList=some (U7 bs (i+j))
 | [],i,acc,bs,hl,h=>by
  cases h
  exact ⟨by simpa using hl,fun _ _=>rfl,fun j o hj=>by simp at hj⟩
 | o::r,i,acc,bs,hl,h=>by
  simp only[befs] at h
  split at h
  ·rename_i s hs
   obtain ⟨h1,h2,h3⟩:=befs_spec (i:=i+1) (by simp[hl]) h
   have hnew:bs[i]? = some s:=by
    rw[h2 i (by omega),List.getElem?_append_right (by omega)]
    simp[hl]
   refine ⟨by rw[h1,List.length_cons];omega,fun j hj=>?_,fun j p hp=>?_⟩
   ·rw[h2 j (by omega),List.getElem?_append_left (by omega)]
   ·cases j with
    | zero=>
     simp at hp;subst hp
     refine ⟨acc,fun k hk=>?_,?_⟩
     ·rw[wb,wb,h2 k (by omega),List.getElem?_append_left (by omega)]
     ·rw[Nat.add_zero,wb,hnew];exact hs
    | succ j=>
     obtain ⟨acc',h4,h5⟩:=h3 j p (by simpa using hp)
     exact ⟨acc',fun k hk=>h4 k (by omega),by rw[show i+(j+1)=i+1+j by omega];exact h5⟩
  ·cases h
end
section
open Go Go.RowKit
theorem C5.more{C:Ctx}{m:Mp}{K:KS}{σ:A1}{w:World}(hB:C5 C m K σ w)(k:Nat):C5 C m K (σ++List.replicate k .gone) w:=by
 have hget:∀(id:Nat) x,(σ++List.replicate k M1.gone)[id]? = some x→(σ[id]? = some x)∨x = .gone:=by
  intro id x h
  by_cases hl:id<σ.length
  ·rw[List.getElem?_append_left hl] at h;exact .inl h
  ·rw[List.getElem?_append_right (by omega)] at h
   have:=(List.mem_replicate.1 (List.mem_of_getElem? h)).2
   exact .inr this
 refine ⟨hB.below,hB.keep,fun id ver l h=>?_,fun id x h=>?_,fun id x b h hb=>?_,fun id x id' x' b h h' hb hb'=>?_,hB.glob,hB.old⟩
 ·have:=hB.dom id ver l h
  rw[List.length_append];omega
 ·rcases hget id x h with h|rfl
  ·exact hB.obj id x h
  ·trivial
 ·rcases hget id x h with h|rfl
  ·exact hB.base id x b h hb
  ·simp[blk] at hb
 ·rcases hget id x h with h|rfl
  ·rcases hget id' x' h' with h'|rfl
   ·exact hB.apart id x id' x' b h h' hb hb'
   ·simp[blk] at hb'
  ·simp[blk] at hb
theorem C5.lay_cells{C:Ctx}{m:Mp}{K:KS}{σ:A1}{w:World}(hB:C5 C m K σ w){p:Nat}(hp:p<σ.length)(hg:σ[p]? = some .gone)(hm:∀ver,m p ver=none)(t:TypeId)(cs:List AV)(vs:Array Value)(hl:cs.length=vs.size)
  (hr:∀(j:Nat) a v,cs[j]? = some a→vs[j]? = some v→C7 m K a v∧v.oneCell'=true):
  ∃m',C5 C m' K (σ.set p (.cells t cs)) (w.alloc (.cells vs t))∧Ext m K m' K∧C7 m' K (.ptr p 0) (.pointer (some ⟨w.heap.size,0,none⟩)) ∧ ∀id,id≠p→m' id=m id:=by
 have hx:Ext m K (L8 m p 0 (.at w.heap.size 0 0)) K:=⟨T5 (hm 0),fun _ _ _ h=>h⟩
 have hsz:C.w0.heap.size≤w.heap.size:=hB.below.size
 have hblk:∀b,b∈blk (L8 m p 0 (.at w.heap.size 0 0)) p (.cells t cs)→b=w.heap.size:=fun b hb=>by simpa[blk,Loc.blk,I9] using hb
 refine ⟨L8 m p 0 (.at w.heap.size 0 0),hB.step p (.cells t cs) (fun id x h=>jx hp h) (by simp) (by simpa using hp) hx.1 (fun id h=>Q7 _ _ _ _ _ h) (hB.below.alloc hsz _)
  (fun b i v h=>S8 _ _ _ _ (hB.keep_lt h)) (fun id x b hne hs hb=>J4 _ _ _ (hB.lt hs hb)) ?_ ?_ ?_,hx,.ptr _ _ _ _ _ (I9 _ _ _ _),fun id h=>Q7 _ _ _ _ _ h⟩
 ·exact ⟨w.heap.size,0,0,vs,I9 _ _ _ _,Q1 _ _,hl,fun j a v x y=>⟨(hr j a v x y).1.mono hx,(hr j a v x y).2⟩,fun o v h=>absurd (hB.keep_lt h) (Nat.lt_irrefl _)⟩
 ·intro b hb
  have:=hblk b hb;subst this
  exact hsz
 ·intro b hb id x hne hs hx
  have:=hblk b hb;subst this
  exact absurd (hB.lt hs hx) (Nat.lt_irrefl _)
theorem C5.lay_bld{C:Ctx}{m:Mp}{K:KS}{σ:A1}{w:World}(hB:C5 C m K σ w){p:Nat}(hp:p<σ.length)(hg:σ[p]? = some .gone)(hnone:∀ver,m p ver=none)(t el:TypeId):
  ∃m',C5 C m' K (σ.set p (.bld t el [])) (w.alloc (.cells #[.pointer none,.slice none 0 0] t))∧Ext m K m' K∧C7 m' K (.ptr p 0) (.pointer (some ⟨w.heap.size,0,none⟩)) ∧ ∀id,id≠p→m' id=m id:=by
 have hsz:C.w0.heap.size≤w.heap.size:=hB.below.size
 have hm:∀i v x,m i v=some x→L8 (L8 m p 0 (.at w.heap.size 0 0)) p 1 .nil i v=some x:=by
  intro i v x h
  exact T5 (by simp[L8,hnone]) _ _ _ (T5 (hnone 0) _ _ _ h)
 have h0:L8 (L8 m p 0 (.at w.heap.size 0 0)) p 1 .nil p 0=some (.at w.heap.size 0 0):=by simp[L8]
 have h1:L8 (L8 m p 0 (.at w.heap.size 0 0)) p 1 .nil p 1=some .nil:=by simp[L8]
 have hblk:∀b,b∈blk (L8 (L8 m p 0 (.at w.heap.size 0 0)) p 1 .nil) p (.bld t el [])→b=w.heap.size:=by
  intro b hb
  simpa[blk,Loc.blk,h0,h1] using hb
 have hother:∀i,i≠p→L8 (L8 m p 0 (.at w.heap.size 0 0)) p 1 .nil i=m i:=fun i h=>by rw[Q7 _ _ _ _ _ h,Q7 _ _ _ _ _ h]
 refine ⟨_,hB.step p (.bld t el []) (fun id x h=>jx hp h) (by simp) (by simpa using hp) hm hother (hB.below.alloc hsz _)
  (fun b i v h=>S8 _ _ _ _ (hB.keep_lt h)) (fun id x b hne hs hb=>J4 _ _ _ (hB.lt hs hb)) ?_ ?_ ?_,⟨hm,fun _ _ _ h=>h⟩,.ptr _ _ _ _ _ h0,hother⟩
 ·refine ⟨w.heap.size,0,0,.pointer none,.slice none 0 0,h0,Q1 _ _,.inl rfl,fun o v h=>absurd (hB.keep_lt h) (Nat.lt_irrefl _),fun ver l h=>?_,.inl ⟨rfl,h1,rfl⟩⟩
  simp only[L8] at h
  split at h
  ·rename_i e;simp[e.2]
  ·split at h
   ·rename_i e;simp[e.2]
   ·rw[hnone] at h;cases h
 ·intro b hb
  have:=hblk b hb;subst this
  exact hsz
 ·intro b hb id x hne hs hx
  have:=hblk b hb;subst this
  exact absurd (hB.lt hs hx) (Nat.lt_irrefl _)
theorem C5.lay_arr{C:Ctx}{m:Mp}{K:KS}{σ:A1}{w:World}(hB:C5 C m K σ w){p:Nat}(hp:p<σ.length)(hg:σ[p]? = some .gone)(hm:∀ver,m p ver=none)(t:TypeId)(es:Nat)(xs:List PV)(vs:Array Value)(cap:Nat)(hsz:vs.size=cap*es)(hle:xs.length≤cap)(hcap:cap≤maxLen)
  (he:∀x∈xs,x.cells.length=es) (hr:∀(j:Nat) p v,(N8 xs)[j]? = some p→vs[j]? = some v→N7 K p v∧v.oneCell'=true):
  ∃m',C5 C m' K (σ.set p (.arr es xs false)) (w.alloc (.cells vs t))∧Ext m K m' K∧C7 m' K (.arr p xs.length 0 xs.length) (.slice (some ⟨w.heap.size,0,none⟩) xs.length cap) ∧ ∀id,id≠p→m' id=m id:=by
 have hx:Ext m K (L8 m p xs.length (.at w.heap.size cap es)) K:=⟨T5 (hm _),fun _ _ _ h=>h⟩
 have hsz0:C.w0.heap.size≤w.heap.size:=hB.below.size
 have hblk:∀b,b∈blk (L8 m p xs.length (.at w.heap.size cap es)) p (.arr es xs false)→b=w.heap.size:=fun b hb=>by simpa[blk,Loc.blk,I9] using hb
 refine ⟨L8 m p xs.length (.at w.heap.size cap es),hB.step p (.arr es xs false) (fun id x h=>jx hp h) (by simp) (by simpa using hp) hx.1 (fun id h=>Q7 _ _ _ _ _ h) (hB.below.alloc hsz0 _)
  (fun b i v h=>S8 _ _ _ _ (hB.keep_lt h)) (fun id x b hne hs hb=>J4 _ _ _ (hB.lt hs hb)) ?_ ?_ ?_,hx,.arr p xs.length 0 xs.length w.heap.size cap es cap _ (I9 _ _ _ _) (by omega) (by omega) hle (.inr (by simp)),fun id h=>Q7 _ _ _ _ _ h⟩
 ·refine ⟨fun ver l h=>?_,.inr ⟨w.heap.size,cap,vs,t,(0,0),I9 _ _ _ _,Q1 _ _,hle,hcap,hsz,he,hr,fun j _ _=>by simp,fun j v h=>absurd (hB.keep_lt h) (Nat.lt_irrefl _)⟩⟩
  unfold L8 at h
  split at h
  ·rename_i e;exact Nat.le_of_eq e.2
  ·rw[hm] at h;cases h
 ·intro b hb
  have:=hblk b hb;subst this
  exact hsz0
 ·intro b hb id x hne hs hx
  have:=hblk b hb;subst this
  exact absurd (hB.lt hs hx) (Nat.lt_irrefl _)
theorem lay_make{C:Ctx}{m:Mp}{K:KS}{σ:A1}{w:World}(hB:C5 C m K σ w){p:Nat}(hp:p<σ.length)(hg:σ[p]? = some .gone)(hm:∀ver,m p ver=none){t el:TypeId}{ti ei:TI}(hT:N0 C.P t ti)(hd:ti.td = .slice el)(hE:N0 C.P el ei)
  {n c:Int} {kl kc:IntKind} {ob:M1} (h:mkObj el ei n c=some ob):
  ∃x w' m',(Instr.makeSlice t (.int kl n) (.int kc c)).run C.P w = .ok x w'∧C5 C m' K (σ.set p ob) w'∧Ext m K m' K∧C7 m' K (mkRes ei p n) x ∧ ∀id,id≠p→m' id=m id:=by
 obtain ⟨i,hi,hz,his,hib⟩:=hE.info
 have hu:=hT.slice hd
 have hz0:=hE.zero
 unfold mkObj de at h
 unfold mkRes
 have run:0≤n→n≤c→gp c.toNat ei.bytes→(Instr.makeSlice t (.int kl n) (.int kc c)).run C.P w = .ok (.slice (some ⟨w.heap.size,0,none⟩) n.toNat c.toNat) (w.alloc (.cells (madeCells ei.zero.cells (c.toNat*i.size)) el)):=by
  intro h0 hnc hroom
  have hcn:((c.toNat:Nat):Int)=c:=Int.toNat_of_nonneg (by omega)
  have hb:(i.bytes:Int)*c≤281474976710656:=by
   have:=hroom.2
   rw[← hib] at this
   rw[← hcn,←Int.natCast_mul,Nat.mul_comm]
   omega
  exact run_make (P:=C.P) w t el i ei.zero hu hi hz kl kc n c h0 hnc hb (by have:=hroom.1;omega)
 cases hzv:AV.ofValue ei.zero with
 | nilsl=>
  rw[hzv] at h
  simp only at h ⊢
  split at h
  ·rename_i x1 ob1 hs
   split at hs
   ·rename_i hc
    obtain ⟨h0,hnc,hroom,hs1⟩:=hc
    cases h
    cases hs
    have hzr:ei.zero = .slice none 0 0:=by
     have:=U4 m K ei.zero
     rw[hzv] at this
     revert this
     generalize ei.zero=z
     intro this
     cases this
     rfl
    have hsz:(madeCells ei.zero.cells (c.toNat*i.size)).size=c.toNat:=by rw[size_madeCells,his,hs1,Nat.mul_one]
    obtain ⟨m',h1,h2,h3,h4⟩:=hB.lay_cells hp hg hm el (List.replicate n.toNat .nilsl) (madeCells ei.zero.cells (c.toNat*i.size)) (by rw[hsz,List.length_replicate,hnc]) (fun j a v ha hv=>by
     have ha':a = .nilsl:=(List.mem_replicate.1 (List.mem_of_getElem? ha)).2
     have hv':v = .slice none 0 0:=by
      unfold madeCells at hv
      simp only[Array.getElem?_map,Option.map_eq_some_iff] at hv
      obtain ⟨k,hk,rfl⟩:=hv
      rw[hzr]
      have:k % (Value.slice none 0 0).cells.size=0:=by
       show k % 1=0
       omega
      rw[this]
      rfl
     subst ha'
     subst hv'
     exact ⟨.nilsl,rfl⟩)
    cases h3 with
    | ptr _ _ b cap es hmm=>
     refine ⟨_,_,m',run h0 (by omega) hroom,h1,h2,?_,h4⟩
     rw[← hnc]
     exact .avs p n.toNat _ cap es hmm
   ·cases hs
  ·cases h
 | pv z=>
  rw[hzv] at h
  simp only[ah,hzv] at h ⊢
  split at h
  ·rename_i x1 ob1 hs
   split at hs
   ·rename_i hc
    obtain ⟨h0,hnc,hroom,hzl⟩:=hc
    cases h
    cases hs
    have hzr:N7 K z ei.zero:=by
     have:=U4 m K ei.zero
     rw[hzv] at this
     exact this.pv_inv
    have hes:∀x∈List.replicate n.toNat z,x.cells.length=ei.size:=fun x hx=>by rw[(List.mem_replicate.1 hx).2];exact hzl
    have hsz:(madeCells ei.zero.cells (c.toNat*i.size)).size=c.toNat*ei.size:=by rw[size_madeCells,his]
    obtain ⟨m',h1,h2,h3,h4⟩:=hB.lay_arr hp hg hm el ei.size (List.replicate n.toNat z) (madeCells ei.zero.cells (c.toNat*i.size)) c.toNat hsz (by simp;omega) (Nat.le_trans hroom.1 (by decide)) hes (fun j p v hp hv=>by
     have hlt:j<n.toNat*ei.size:=by
      have:=(List.getElem?_eq_some_iff.1 hp).1
      rw[I6 hes,List.length_replicate] at this
      exact this
     have hpos:0<ei.size:=Nat.pos_of_ne_zero (fun e=>by rw[e] at hlt;omega)
     have hdiv:j / ei.size<n.toNat:=(Nat.div_lt_iff_lt_mul hpos).2 hlt
     have hmod:j % ei.size<ei.size:=Nat.mod_lt _ hpos
     have hj:j / ei.size*ei.size+j % ei.size=j:=by rw[Nat.mul_comm];exact Nat.div_add_mod _ _
     have hg:=bd hes (i:=j / ei.size) (x:=z) (by simp[hdiv]) (j % ei.size) hmod
     rw[hj] at hg
     rw[hg] at hp
     have hv':v=ei.zero.cells[j % ei.size]!:=by
      unfold madeCells at hv
      simp only[Array.getElem?_map,Option.map_eq_some_iff] at hv
      obtain ⟨k,hk,rfl⟩:=hv
      have:k=j:=by
       have h2:=Array.getElem?_eq_some_iff.1 hk
       obtain ⟨_,h3⟩:=h2
       simpa using h3.symm
      rw[this,hz0.1]
     have hlt2:j % ei.size<ei.zero.cells.size:=by rw[hz0.1];exact hmod
     have hv2:ei.zero.cells[j % ei.size]? = some v:=by
      rw[hv',Array.getElem?_eq_getElem hlt2,getElem!_pos ei.zero.cells _ hlt2]
     exact hzr.cells.2 _ p v hp hv2)
    rw[List.length_replicate] at h3
    exact ⟨_,_,m',run h0 hnc hroom,h1,h2,h3,h4⟩
   ·cases hs
  ·cases h
 | _=>
  rw[hzv] at h
  simp only[ah,hzv] at h
  cases h
theorem alloc_sound{C:Ctx}(hC:Z5 C){m:Mp}{K:KS}{σ:A1}{w:World}(hB:C5 C m K σ w){e:Operand→AV}{ρ:Operand→Value}(he:∀x,C7 m K (e x) (ρ x)){o:Oper}(hk:F7 C o=2){ob:M1}(h:az C o e=some ob)
  {p:Nat} (hp:p<σ.length) (hg:σ[p]? = some .gone) (hm:∀ver,m p ver=none):
  ∃x w' m',(execOp ρ o).run C.P w = .ok (.value x) w'∧C5 C m' K (σ.set p ob) w'∧Ext m K m' K∧C7 m' K (W5 C o e p) x ∧ ∀id,id≠p→m' id=m id:=by
 unfold az at h
 split at h
 ·rename_i t l c ho
  split at h
  ·rename_i ti hti
   split at h
   ·rename_i el hd
    split at h
    ·rename_i ei hei
     split at h
     ·rename_i n k hn hk'
      have hl:=he l
      rw[hn] at hl
      have hc:=he c
      rw[hk'] at hc
      have e1:=hl.pv_inv.int_inv
      have e2:=hc.pv_inv.int_inv
      obtain ⟨x,w',m',h1,h2,h3,h4,h5⟩:=lay_make (kl:=.i64) (kc:=.i64) hB hp hg hm (hC.tab _ _ hti) hd (hC.tab _ _ hei) h
      refine ⟨x,w',m',?_,h2,h3,?_,h5⟩
      ·simp[execOp,ho,e1,e2,h1]
      ·unfold W5
       simp only[ho,hti,hd,hei,hn]
       exact h4
     ·cases h
    ·cases h
   ·cases h
  ·cases h
 ·rename_i t ho
  split at h
  ·rename_i ti hti
   cases h
   have hres:W5 C o e p = .ptr p 0:=by unfold W5;rw[ho]
   rw[hres]
   have hTI:=hC.tab _ _ hti
   have hrun:(execOp ρ o).run C.P w = .ok (.value (.pointer (some ⟨w.heap.size,0,none⟩))) (w.alloc (.cells ti.zero.cells t)):=by
    simp[execOp,ho,Instr.alloc,Y8 hTI,newVar,newRow]
   unfold newObj
   cases hb:C.isB t with
   | true=>
    have hz:=hC.bld t ti hb hti
    rw[hz] at hrun
    obtain ⟨m',h1,h2,h3,h4⟩:=hB.lay_bld hp hg hm t C.u8
    exact ⟨_,_,m',hrun,h1,h2,h3,h4⟩
   | false=>
    have hz:=rx (m:=m) (K:=K) hTI
    obtain ⟨m',h1,h2,h3,h4⟩:=hB.lay_cells hp hg hm t _ _ hz.1 hz.2
    exact ⟨_,_,m',hrun,h1,h2,h3,h4⟩
  ·cases h
 ·rename_i t x ho
  split at h
  ·rename_i h1
   cases h
   have hres:W5 C o e p = .ptr p 0:=by unfold W5;rw[ho]
   rw[hres]
   have hcr:=iv (he x) h1
   obtain ⟨m',h1,h2,h3,h4⟩:=hB.lay_cells hp hg hm t _ _ hcr.1 hcr.2
   exact ⟨_,_,m',by simp[execOp,ho,Instr.box,newVar,newRow],h1,h2,h3,h4⟩
  ·cases h
 ·cases h
theorem memN_iff{t:Nat}{l:List Nat}:pm t l=true↔t∈l:=by
 induction l with
 | nil=>simp[pm]
 | cons u r ih=>
  simp only[pm,List.mem_cons]
  rcases P8 t u with ⟨h,hb⟩|⟨h,hb⟩
  ·simp[h,hb]
  ·simp[h,hb,ih]
theorem wk{t:Nat}{l:List Nat}:pm t l=false↔t∉l:=by
 rw[← memN_iff];simp
structure Rg(C:Ctx)(ops:List Oper)(bs:List Nat):Prop where
 edges:∀(i:Nat) o,ops[i]? = some o → ∀e∈o.after.toList,ab e=true→e.on<i
 bef:∀(i:Nat) o,ops[i]? = some o → ∀j,C8 (U7 bs i) j=true → ∃e∈o.after.toList,ab e=true∧(j=e.on∨C8 (U7 bs e.on) j=true)
 bef2:∀(i:Nat) o,ops[i]? = some o → ∀e∈o.after.toList,ab e=true→C8 (U7 bs i) e.on=true ∧ ∀j,C8 (U7 bs e.on) j=true→C8 (U7 bs i) j=true
 self:∀(i:Nat) o d,ops[i]? = some o→o.dst=some d→d∉looks ops o
 reads:∀(i:Nat) o (j:Nat) p d,ops[i]? = some o→ops[j]? = some p→i≠j→p.dst=some d→d∈looks ops o→C8 (U7 bs i) j=true∨(C8 (U7 bs j) i=true∧F7 C p=3)
 once:∀(i:Nat) o (j:Nat) p d,ops[i]? = some o→ops[j]? = some p→o.dst=some d→p.dst=some d→i=j
 loud:∀(i:Nat) o (j:Nat) p,ops[i]? = some o→ops[j]? = some p→i≠j→F7 C o=3 → ¬(F7 C p=0∨F7 C p=1)→C8 (U7 bs i) j=true∨C8 (U7 bs j) i=true∨(softO o=true∧F7 C p=2)
theorem wo{C:Ctx}{ops:List Oper}{i:Nat}{o:Oper}{bi:Nat}:∀{j:Nat} {r:List Oper} {br:List Nat},r.length=br.length→rowOK C ops i o bi j r br=true → ∀(k:Nat) p,r[k]? = some p→po C ops i o bi (j+k) p (U7 br k)=true
 | j,[],[],_,_,k,p,hp=>by simp at hp
 | j,q::r,b::br,hl,h,k,p,hp=>by
  simp only[rowOK,Bool.and_eq_true] at h
  cases k with
  | zero=>simp at hp;subst hp;exact h.1
  | succ k=>
   have:=wo (j:=j+1) (by simpa using hl) h.2 k p (by simpa using hp)
   rw[show j+(k+1)=j+1+k by omega]
   exact this
theorem um{C:Ctx}{ops:List Oper}{bs:List Nat}:∀{i:Nat} {r:List Oper} {br:List Nat},r.length=br.length→sx C ops bs i r br=true → ∀(k:Nat) o,r[k]? = some o→rowOK C ops (i+k) o (U7 br k) 0 ops bs=true
 | i,[],[],_,_,k,p,hp=>by simp at hp
 | i,q::r,b::br,hl,h,k,p,hp=>by
  simp only[sx,Bool.and_eq_true] at h
  cases k with
  | zero=>simp at hp;subst hp;exact h.1
  | succ k=>
   have:=um (i:=i+1) (by simpa using hl) h.2 k p (by simpa using hp)
   rw[show i+(k+1)=i+1+k by omega]
   exact this
theorem Rg.of{C:Ctx}{ops:List Oper}{bs:List Nat}(hb:befs 0 ops []=some bs)(hr:sx C ops bs 0 ops bs=true):Rg C ops bs∧bs.length=ops.length:=by
 obtain ⟨h1,h2,h3⟩:=befs_spec (by rfl) hb
 have hl:ops.length=bs.length:=by rw[h1];omega
 have hpair:∀(i:Nat) o (j:Nat) p,ops[i]? = some o→ops[j]? = some p→po C ops i o (U7 bs i) j p (U7 bs j)=true:=by
  intro i o j p ho hp
  have:=wo hl (um hl hr i o ho) j p hp
  simpa using this
 have hed:∀(i:Nat) o,ops[i]? = some o → ∀e∈o.after.toList,ab e=true→e.on<i:=by
  intro i o ho e he hbe
  obtain ⟨acc',h4,h5⟩:=h3 i o ho
  have:=((fc h5).1 e he hbe).1
  omega
 refine ⟨⟨hed,fun i o ho j hj=>?_,fun i o ho e he hbe=>?_,fun i o d ho hd=>?_,fun i o j p d ho hp hne hd hdl=>?_,fun i o j p d ho hp hd hd'=>?_,fun i o j p ho hp hne hk hk'=>?_⟩,hl.symm⟩
 ·obtain ⟨acc',h4,h5⟩:=h3 i o ho
  rw[Nat.zero_add] at h5
  obtain ⟨e,he,hbe,hje⟩:=(fc h5).2 j hj
  refine ⟨e,he,hbe,?_⟩
  rcases hje with h|h
  ·exact .inl h
  ·have:=hed i o ho e he hbe
   rw[h4 e.on (by omega)] at h
   exact .inr h
 ·obtain ⟨acc',h4,h5⟩:=h3 i o ho
  rw[Nat.zero_add] at h5
  obtain ⟨g1,g2,g3⟩:=(fc h5).1 e he hbe
  exact ⟨g2,fun j hj=>g3 j (by rw[h4 e.on (by omega)];exact hj)⟩
 ·have:=hpair i o i o ho ho
  unfold po at this
  rw[show Nat.beq i i=true by simp] at this
  simp only[hd] at this
  exact wk.1 (by simpa using this)
 ·have:=hpair i o j p ho hp
  unfold po at this
  rcases P8 i j with ⟨e,_⟩|⟨_,hbq⟩
  ·exact absurd e hne
  ·rw[hbq] at this
   simp only[hd,Bool.and_eq_true,Bool.or_eq_true] at this
   rcases this.1.1 with (h|h)|h
   ·exact .inl h
   ·exact absurd hdl (wk.1 (by simpa using h))
   ·exact .inr ⟨h.1,Nat.eq_of_beq_eq_true h.2⟩
 ·rcases Nat.decEq i j with hne|e
  ·have:=hpair i o j p ho hp
   unfold po at this
   rcases P8 i j with ⟨e,_⟩|⟨_,hbq⟩
   ·exact e
   ·rw[hbq] at this
    simp only[hd,hd',Bool.and_eq_true] at this
    have h:=this.1.2
    simp at h
  ·exact e
 ·have:=hpair i o j p ho hp
  unfold po at this
  rcases P8 i j with ⟨e,_⟩|⟨_,hbq⟩
  ·exact absurd e hne
  ·rw[hbq] at this
   simp only[Bool.and_eq_true] at this
   have h:=this.2
   have e0:Nat.beq (F7 C p) 0=false:=by
    rcases P8 (F7 C p) 0 with ⟨h,_⟩|⟨_,h⟩
    ·exact absurd (.inl h) hk'
    ·exact h
   have e1:Nat.beq (F7 C p) 1=false:=by
    rcases P8 (F7 C p) 1 with ⟨h,_⟩|⟨_,h⟩
    ·exact absurd (.inr h) hk'
    ·exact h
   rw[hk,e0,e1] at h
   rw[show Nat.beq 3 3=true from rfl] at h
   simp only[Bool.or_false,Bool.or_eq_true,Bool.and_eq_true] at h
   rcases h with (h|h)|h
   ·exact .inl h
   ·exact .inr (.inl h)
   ·exact .inr (.inr ⟨h.1,Nat.eq_of_beq_eq_true h.2⟩)
theorem Rg.trans{C:Ctx}{ops:List Oper}{bs:List Nat}(hR:Rg C ops bs){i:Nat}{o:Oper}(ho:ops[i]? = some o){j k:Nat}(hj:C8 (U7 bs i) j=true)(hk:C8 (U7 bs j) k=true):C8 (U7 bs i) k=true:=by
 induction i using Nat.strongRecOn generalizing o with
 | _ i ih=>
  obtain ⟨e,he,hb,h⟩:=hR.bef i o ho j hj
  obtain ⟨h1,h2⟩:=hR.bef2 i o ho e he hb
  rcases h with rfl|h
  ·exact h2 k hk
  ·have hlt:=hR.edges i o ho e he hb
   have hlen:i<ops.length:=(List.getElem?_eq_some_iff.1 ho).1
   exact h2 k (ih e.on hlt (List.getElem?_eq_getElem (by omega)) h)
end
section
open Go Go.RowKit
theorem ie{C:Ctx}:∀(r:List Oper) (i j:Nat),C8 (R0 C i r) j=true ↔ ∃k o,j=i+k∧r[k]? = some o∧F7 C o=3
 | [],i,j=>by simp[R0,V4]
 | o::r,i,j=>by
  have ih:=ie (C:=C) r (i+1) j
  have step:(∃ k p,j=i+k∧(o::r)[k]? = some p∧F7 C p=3)↔(j=i∧F7 C o=3) ∨ ∃k p,j=i+1+k∧r[k]? = some p∧F7 C p=3:=by
   constructor
   ·rintro ⟨k,p,h1,h2,h3⟩
    cases k with
    | zero=>simp at h2;subst h2;exact .inl ⟨by omega,h3⟩
    | succ k=>exact .inr ⟨k,p,by omega,by simpa using h2,h3⟩
   ·rintro (⟨h1,h2⟩|⟨k,p,h1,h2,h3⟩)
    ·exact ⟨0,o,by omega,rfl,h2⟩
    ·exact ⟨k+1,p,by omega,by simpa using h2,h3⟩
  rw[step,←ih]
  simp only[R0]
  rcases P8 (F7 C o) 3 with ⟨e,hb⟩|⟨e,hb⟩
  ·rw[hb]
   simp only[M7,bw,Bool.or_eq_true,decide_eq_true_eq,e,and_true]
   constructor
   ·rintro (h|h)
    ·exact .inl h.symm
    ·exact .inr h
   ·rintro (h|h)
    ·exact .inl h.symm
    ·exact .inr h
  ·rw[hb]
   simp[e]
theorem V0{C:Ctx}{loud done:Nat}:∀(r:List Oper) (br:List Nat) (i:Nat),r.length=br.length → ∀x,x∈K5 C loud done i r br ↔
  ∃k o,x=(i+k,o)∧r[k]? = some o∧C8 done (i+k)=false∧F7 C o≠3 ∧ ∀j,C8 (U7 br k) j=true→C8 loud j=true→C8 done j=true
 | [],[],i,_,x=>by simp[K5]
 | [],_::_,i,h,x=>by simp at h
 | _::_,[],i,h,x=>by simp at h
 | o::r,b::br,i,hl,x=>by
  have ih:=V0 (C:=C) (loud:=loud) (done:=done) r br (i+1) (by simpa using hl) x
  have step:(∃ k p,x=(i+k,p)∧(o::r)[k]? = some p∧C8 done (i+k)=false∧F7 C p≠3 ∧ ∀j,C8 (U7 (b::br) k) j=true→C8 loud j=true→C8 done j=true) ↔
    (x=(i,o)∧C8 done i=false∧F7 C o≠3 ∧ ∀j,C8 b j=true→C8 loud j=true→C8 done j=true) ∨
    ∃k p,x=(i+1+k,p)∧r[k]? = some p∧C8 done (i+1+k)=false∧F7 C p≠3 ∧ ∀j,C8 (U7 br k) j=true→C8 loud j=true→C8 done j=true:=by
   constructor
   ·rintro ⟨k,p,h1,h2,h3,h4,h5⟩
    cases k with
    | zero=>simp at h2;subst h2;exact .inl ⟨h1,h3,h4,h5⟩
    | succ k=>exact .inr ⟨k,p,by rw[h1];congr 1;omega,by simpa using h2,by rw[show i+1+k=i+(k+1) by omega];exact h3,h4,h5⟩
   ·rintro (⟨h1,h2,h3,h4⟩|⟨k,p,h1,h2,h3,h4,h5⟩)
    ·exact ⟨0,o,h1,rfl,h2,h3,h4⟩
    ·exact ⟨k+1,p,by rw[h1];congr 1;omega,by simpa using h2,by rw[show i+(k+1)=i+1+k by omega];exact h3,h4,h5⟩
  rw[step,←ih]
  simp only[K5]
  split
  ·rename_i hc
   simp only[Bool.and_eq_true,Bool.not_eq_true'] at hc
   rw[List.mem_cons]
   have h3:F7 C o≠3:=by
    rcases P8 (F7 C o) 3 with ⟨e,hb⟩|⟨e,hb⟩
    ·rw[hb] at hc;simp at hc
    ·exact e
   constructor
   ·rintro (h|h)
    ·exact .inl ⟨h,hc.1.1,h3,land_sub.1 hc.2⟩
    ·exact .inr h
   ·rintro (h|h)
    ·exact .inl h.1
    ·exact .inr h
  ·rename_i hc
   constructor
   ·exact fun h=>.inr h
   ·rintro (h|h)
    ·exfalso
     simp only[Bool.and_eq_false_iff,Bool.not_eq_false'] at hc
     rcases hc with (hc|hc)|hc
     ·rw[h.2.1] at hc;cases hc
     ·exact h.2.2.1 (Nat.eq_of_beq_eq_true hc)
     ·have:=land_sub.2 h.2.2.2
      rw[this] at hc;cases hc
    ·exact h
theorem ij{C:Ctx}{loud done:Nat}:∀(r:List Oper) (br:List Nat) (i:Nat),r.length=br.length→(K5 C loud done i r br).Pairwise fun x y=>x.1<y.1
 | [],[],i,_=>by simp[K5]
 | [],_::_,i,h=>by simp at h
 | _::_,[],i,h=>by simp at h
 | o::r,b::br,i,hl=>by
  have ih:=ij (C:=C) (loud:=loud) (done:=done) r br (i+1) (by simpa using hl)
  simp only[K5]
  split
  ·refine List.pairwise_cons.2 ⟨fun x hx=>?_,ih⟩
   obtain ⟨k,p,e,_⟩:=(V0 r br (i+1) (by simpa using hl) x).1 hx
   rw[e];simp only;omega
  ·exact ih
theorem ia{C:Ctx}{done:Nat}:∀{r:List Oper} {br:List Nat} {i l:Nat} {o:Oper} {b:Nat},aa C done i r br=some (l,o,b) →
  ∃k,l=i+k∧r[k]? = some o∧b=U7 br k∧C8 done l=false∧F7 C o=3 ∧ ∀k',k'<k → ∀p,r[k']? = some p→F7 C p=3→C8 done (i+k')=true
 | [],br,i,l,o,b,h=>by simp[aa] at h
 | q::r,[],i,l,o,b,h=>by simp[aa] at h
 | q::r,c::br,i,l,o,b,h=>by
  simp only[aa] at h
  split at h
  ·rename_i hc
   cases h
   simp only[Bool.and_eq_true,Bool.not_eq_true'] at hc
   exact ⟨0,rfl,rfl,rfl,hc.1,Nat.eq_of_beq_eq_true hc.2,fun k' hk'=>by omega⟩
  ·rename_i hc
   obtain ⟨k,h1,h2,h3,h4,h5,h6⟩:=ia h
   refine ⟨k+1,by omega,by simpa using h2,h3,h4,h5,fun k' hk' p hp hk=>?_⟩
   cases k' with
   | zero=>
    simp at hp;subst hp
    rw[hk] at hc
    simp at hc
    exact hc
   | succ k'=>
    have:=h6 k' (by omega) p (by simpa using hp) hk
    rw[show i+(k'+1)=i+1+k' by omega]
    exact this
theorem ny{C:Ctx}{done:Nat}:∀{r:List Oper} {br:List Nat} {i:Nat},r.length=br.length→aa C done i r br=none → ∀(k:Nat) p,r[k]? = some p→F7 C p=3→C8 done (i+k)=true
 | [],br,i,_,h,k,p,hp,_=>by simp at hp
 | q::r,[],i,hl,h,k,p,hp,_=>by simp at hl
 | q::r,c::br,i,hl,h,k,p,hp,hk=>by
  simp only[aa] at h
  split at h
  ·cases h
  ·rename_i hc
   cases k with
   | zero=>
    simp at hp;subst hp
    rw[hk] at hc
    simp at hc
    exact hc
   | succ k=>
    have:=ny (by simpa using hl) h k p (by simpa using hp) hk
    rw[show i+(k+1)=i+1+k by omega]
    exact this
theorem dc:∀(l:List (Nat×Oper)) (j:Nat),C8 (cd l) j=true ↔ ∃o,(j,o)∈l
 | [],j=>by simp[cd,V4]
 | (i,o)::r,j=>by
  have ih:=dc r j
  simp only[cd,M7,bw,Bool.or_eq_true,decide_eq_true_eq,List.mem_cons,Prod.mk.injEq]
  rw[ih]
  constructor
  ·rintro (h|⟨p,h⟩)
   ·exact ⟨o,.inl ⟨h.symm,rfl⟩⟩
   ·exact ⟨p,.inr h⟩
  ·rintro ⟨p,h|h⟩
   ·exact .inl h.1.symm
   ·exact .inr ⟨p,h⟩
def Det(A:(AV→A1→Prop)→Prop):Prop:=∀k,A k → ∃v σ,k v σ ∧ ∀k':AV→A1→Prop,k' v σ→A k'
theorem Det.here(v:AV)(σ:A1):Det fun k=>k v σ:=fun k h=>⟨v,σ,h,fun _ h=>h⟩
theorem Det.opt{α:Type}{x:Option α}{F:α→(AV→A1→Prop)→Prop}(h:∀a,Det (F a)):Det fun k=>opt x fun a=>F a k:=by
 intro k hk
 cases x with
 | none=>exact hk.elim
 | some a=>exact h a k hk
theorem Det.opt2{x:Option (AV×A1)}:Det fun k=>opt2 x k:=by
 intro k hk
 cases x with
 | none=>exact hk.elim
 | some p=>exact ⟨p.1,p.2,hk,fun _ h=>h⟩
theorem Det.isB{a:AV}{F:Bool→(AV→A1→Prop)→Prop}(h:∀a,Det (F a)):Det fun k=>isB a fun b=>F b k:=by
 intro k hk
 obtain ⟨b,rfl,hk⟩:=iy hk
 exact h b k hk
theorem Det.isI{kd:IntKind}{a:AV}{F:Int→(AV→A1→Prop)→Prop}(h:∀a,Det (F a)):Det fun k=>isI kd a fun b=>F b k:=by
 intro k hk
 obtain ⟨b,rfl,hk2⟩:=qt hk
 obtain ⟨v,σ,h1,h2⟩:=h b k hk2
 refine ⟨v,σ,h1,fun k' hk'=>?_⟩
 show (if kd=kd then F b k' else False)
 rw[if_pos rfl];exact h2 k' hk'
theorem Det.isTup{a:AV}{F:List AV→(AV→A1→Prop)→Prop}(h:∀a,Det (F a)):Det fun k=>isTup a fun b=>F b k:=by
 intro k hk
 obtain ⟨b,rfl,hk⟩:=ph hk
 exact h b k hk
theorem Det.none:Det fun _=>False:=fun _ h=>h.elim
theorem Det.and{p:Prop}{A:(AV→A1→Prop)→Prop}(h:Det A):Det fun k=>p∧A k:=by
 intro k hk
 obtain ⟨v,σ,h1,h2⟩:=h k hk.2
 exact ⟨v,σ,h1,fun k' hk'=>⟨hk.1,h2 k' hk'⟩⟩
theorem Det.binK{tab:TypeId→Option TI}{t:TypeId}{lit:Bool}{op:BinOp}{x y:AV}{σ:A1}:Det fun k=>Q9 tab t lit op x y fun v=>k v σ:=by
 unfold Q9
 split
 ·cases op<;>simp only<;>first
   | exact Det.and (Det.here _ _)
   | (split<;>first|exact Det.here _ _|exact Det.and (Det.here _ _)|exact Det.none)
 ·cases op<;>simp only<;>first|exact Det.and (Det.here _ _)|exact Det.here _ _|exact Det.none
 ·unfold aEqK
  cases op<;>simp only<;>first|exact Det.opt fun _=>Det.opt fun _=>Det.here _ _|exact Det.none
theorem aopK_det{C:Ctx}{o:Oper}{e:Operand→AV}{σ:A1}:Det fun k=>Q3 C o e σ k:=by
 unfold Q3
 split
 case h_1=>exact Det.here _ _
 case h_2=>exact Det.here _ _
 case h_3=>exact Det.isB fun b=>by cases b<;>exact Det.here _ _
 case h_4=>exact Det.opt fun _=>Det.here _ _
 case h_5=>exact Det.and (Det.here _ _)
 case h_6=>exact Det.opt fun _=>Det.opt fun _=>Det.here _ _
 case h_7=>exact Det.opt fun ti=>by
            split
            ·exact Det.opt fun _=>Det.opt2
            ·exact Det.none
 case h_8=>exact Det.opt fun _=>Det.opt fun _=>Det.here _ _
 case h_9=>exact Det.opt fun _=>Det.opt fun _=>Det.here _ _
 case h_10=>exact Det.opt fun _=>Det.here _ _
 case h_11=>exact Det.binK
 case h_12=>exact Det.opt fun _=>Det.here _ _
 case h_13=>exact Det.opt fun _=>Det.opt fun _=>Det.opt2
 case h_14=>exact Det.opt fun ti=>by
             split
             ·exact Det.none
             ·exact Det.opt fun _=>Det.here _ _
 case h_15=>exact Det.here _ _
 case h_16=>exact Det.opt fun ti=>by
             split
             ·exact Det.opt fun _=>Det.isI fun _=>Det.isI fun _=>Det.opt2
             ·exact Det.none
 case h_17=>exact Det.opt fun _=>Det.opt fun _=>Det.here _ _
 case h_18=>exact Det.opt fun _=>Det.opt fun _=>Det.here _ _
 case h_19=>exact Det.opt fun _=>Det.opt fun _=>Det.here _ _
 case h_20=>exact Det.opt fun ti=>by
             split
             ·exact Det.opt fun _=>Det.here _ _
             ·exact Det.none
 case h_21=>exact Det.opt fun ti=>by
             split
             ·exact Det.opt fun _=>Det.here _ _
             ·exact Det.none
 case h_22=>exact Det.opt fun _=>Det.here _ _
 case h_23=>exact Det.isTup fun _=>Det.opt fun _=>Det.here _ _
 case h_24=>exact Det.opt fun _=>Det.opt fun _=>Det.opt fun _=>Det.opt fun _=>Det.here _ _
 case h_25=>
  split
  ·exact Det.opt fun _=>Det.opt fun _=>by
    split
    ·exact Det.none
    ·split
     ·exact Det.opt fun _=>Det.opt2
     ·exact Det.none
  ·exact Det.none
 case h_26=>
  split
  ·exact Det.opt fun _=>by
    split
    ·exact Det.opt fun _=>Det.opt2
    ·exact Det.none
  ·exact Det.none
 case h_27=>
  split
  ·exact Det.opt fun _=>Det.here _ _
  ·exact Det.none
 case h_28=>
  split
  ·exact Det.opt fun _=>Det.here _ _
  ·exact Det.none
 case h_29=>exact Det.here _ _
 case h_30=>exact Det.opt fun _=>Det.opt fun _=>Det.here _ _
 case h_31=>exact Det.opt fun _=>Det.opt fun _=>Det.here _ _
 case h_32=>exact Det.none
theorem O5{ops:List Oper}{env env':Env}{o:Oper}(h:∀t,t∈looks ops o→J6 env t=J6 env' t):P3 ops env o=P3 ops env' o:=by
 unfold P3
 split
 ·rfl
 ·rename_i j want hg
  cases hj:ops[j]? with
  | none=>rfl
  | some oj=>
   cases hd:oj.dst with
   | none=>simp only[hd]
   | some d=>
    have:d∈looks ops o:=by
     unfold looks lm
     simp[hg,hj,hd]
    simp only[hd]
    rw[h d this]
theorem X2{C:Ctx}{ops:List Oper}{env env':Env}{o:Oper}(h:∀t,t∈looks ops o→J6 env t=J6 env' t):nr (I7 o.op) (ev C env) (ev C env'):=
 ⟨fun t ht=>h t (by unfold looks;exact List.mem_append_left _ ht),fun x hx=>by cases x<;>first|rfl|simp[S7] at hx⟩
theorem bb{C:Ctx}{o:Oper}{e e':Operand→AV}(h:nr (I7 o.op) e e'){id:Nat}:W5 C o e id=W5 C o e' id:=by
 unfold W5
 split
 ·rename_i t l c ho
  rw[h.op (x:=l) (fun t ht=>by rw[ho];exact List.mem_append_left _ ht)]
 ·rfl
theorem av{C:Ctx}{o:Oper}{e e':Operand→AV}(h:nr (I7 o.op) e e'):az C o e=az C o e':=by
 unfold az
 split
 ·rename_i t l c ho
  rw[h.op (x:=l) (fun t ht=>by rw[ho];exact List.mem_append_left _ ht),h.op (x:=c) (fun t ht=>by rw[ho];exact List.mem_append_right _ ht)]
 ·rfl
 ·rename_i t x ho
  rw[h.op (x:=x) (fun t ht=>by rw[ho];exact ht)]
 ·rfl
inductive Done(C:Ctx)(N:Nat)(ops:List Oper)(o:Oper)(env:Env)(σ S:A1)(p:Nat):Prop
 | quiet (hk:F7 C o=0∨F7 C o=1) (hw:P3 ops env o=some true) (hd:∀d,o.dst=some d→d<N) (h:Q3 C o (ev C env) σ fun v _=>∀d,o.dst=some d→v=J6 env d)
 | skip (hw:P3 ops env o=some false) (h:∀d,o.dst=some d→d<N∧J6 env d = .tup [])
 | lays (hk:F7 C o=2) (hw:P3 ops env o=some true) (ob:M1) (hob:az C o (ev C env)=some ob) (hS:S[p]? = some ob) (h:∀d,o.dst=some d→d<N∧J6 env d=W5 C o (ev C env) (σ.length+p))
theorem Done.congr{C:Ctx}{N:Nat}{ops:List Oper}{o:Oper}{env env':Env}{σ S S':A1}{p:Nat}(h:Done C N ops o env σ S p)(hl:∀t,t∈looks ops o→J6 env t=J6 env' t)(hd:∀d,o.dst=some d→J6 env d=J6 env' d)
  (hS:∀ob,S[p]? = some ob→S'[p]? = some ob):Done C N ops o env' σ S' p:=by
 have hw:=O5 hl
 cases h with
 | quiet hk hw' hdn h=>
  refine .quiet hk (hw ▸ hw') hdn ?_
  have:=U5 (X2 hl) h
  exact V2 this fun v σ' hv _ d e=>by rw[← hd d e];exact hv d e
 | skip hw' h=>exact .skip (hw ▸ hw') fun d e=>⟨(h d e).1,by rw[← hd d e];exact (h d e).2⟩
 | lays hk hw' ob hob hS' h=>exact .lays hk (hw ▸ hw') ob (by rw[← av (X2 hl)];exact hob) (hS ob hS') fun d e=>⟨(h d e).1,by rw[← hd d e,←bb (X2 hl)];exact (h d e).2⟩
theorem Rg.lt{C:Ctx}{ops:List Oper}{bs:List Nat}(hR:Rg C ops bs){i:Nat}{o:Oper}(ho:ops[i]? = some o){j:Nat}(hj:C8 (U7 bs i) j=true):j<i:=by
 induction i using Nat.strongRecOn generalizing o j with
 | _ i ih=>
  obtain ⟨e,he,hb,h⟩:=hR.bef i o ho j hj
  have hlt:=hR.edges i o ho e he hb
  rcases h with rfl|h
  ·exact hlt
  ·have hlen:i<ops.length:=(List.getElem?_eq_some_iff.1 ho).1
   have:=ih e.on hlt (List.getElem?_eq_getElem (by omega)) h
   omega
theorem O4{env:Env}{dst:Option Tmp}{v:AV}{env1:Env}(h:(dst=none∧env1=env) ∨ ∃d,dst=some d∧env1=kz env d v){s:Nat}(hs:dst≠some s):J6 env1 s=J6 env s:=by
 rcases h with ⟨_,rfl⟩|⟨d,rfl,rfl⟩
 ·rfl
 ·rw[nj,if_neg]
  intro e;exact hs (by rw[e])
theorem bh{N:Nat}{env:Env}{dst:Option Tmp}{v:AV}{k:Env→Prop}(h:nt N env dst v k):∃env1,k env1∧((dst=none∧env1=env) ∨ ∃d,dst=some d∧env1=kz env d v) ∧ ∀d,dst=some d→d<N∧J6 env1 d=v:=by
 rcases putK_elim h with ⟨rfl,h⟩|⟨d,rfl,hd,h⟩
 ·exact ⟨env,h,.inl ⟨rfl,rfl⟩,fun d e=>by cases e⟩
 ·exact ⟨_,h,.inr ⟨d,rfl,rfl⟩,fun d' e=>by cases e;exact ⟨hd,by rw[nj,if_pos rfl]⟩⟩
def Lays(C:Ctx)(ops:List Oper)(env:Env)(o:Oper):Prop:=F7 C o=2∧P3 ops env o=some true
theorem ud{C:Ctx}{N:Nat}{ops:List Oper}{bs:List Nat}{σ:A1}(hR:Rg C ops bs):∀(l:List (Nat×Oper)) (env:Env) (S:List M1) (k:Env→List M1→Prop),gz C N ops σ l env S k →
  (∀ x∈l,ops[x.1]? = some x.2∧F7 C x.2≠3)→l.Pairwise (fun x y=>x.1<y.1) →
  ∃(env':Env) (S':List M1) (pos:Nat→Nat),k env' S'∧(∀ s,(∀ x∈l,x.2.dst≠some s)→J6 env' s=J6 env s)∧(∀ (q:Nat) ob,S[q]? = some ob→S'[q]? = some ob)∧S.length≤S'.length ∧
   (∀ x∈l,Done C N ops x.2 env' σ S' (pos x.1))∧(∀ x∈l,Lays C ops env' x.2→S.length≤pos x.1∧pos x.1<S'.length) ∧
   (∀ x∈l,∀y∈l,Lays C ops env' x.2→Lays C ops env' y.2→pos x.1=pos y.1→x.1=y.1) ∧
   ∀q,S.length≤q→q<S'.length → ∃x∈l,Lays C ops env' x.2∧pos x.1=q
 | [],env,S,k,h,_,_=>⟨env,S,fun _=>0,h,fun _ _=>rfl,fun _ _ h=>h,Nat.le_refl _,by simp,by simp,by simp,fun q h1 h2=>by omega⟩
 | (i,o)::r,env,S,k,h,hl,hs=>by
  have ho:=(hl (i,o) (by simp)).1
  have hk3:=(hl (i,o) (by simp)).2
  simp only at ho hk3
  have hlr:∀x∈r,ops[x.1]? = some x.2∧F7 C x.2≠3:=fun x hx=>hl x (List.mem_cons_of_mem _ hx)
  have hsr:=(List.pairwise_cons.1 hs).2
  have hgt:∀y∈r,i<y.1:=(List.pairwise_cons.1 hs).1
  have after:∀(env1:Env) (S1:List M1) (v:AV),gz C N ops σ r env1 S1 k→((o.dst=none∧env1=env) ∨ ∃d,o.dst=some d∧env1=kz env d v)→(S1=S ∨ ∃ob,S1=S ++ [ob]) →
    (∀ (env':Env) (S':List M1),(∀ t,t∈looks ops o→J6 env t=J6 env' t)→(∀ d,o.dst=some d→J6 env1 d=J6 env' d)→(∀ (q:Nat) ob,S1[q]? = some ob→S'[q]? = some ob)→Done C N ops o env' σ S' S.length∧(Lays C ops env' o→S1≠S)∧(S1≠S→Lays C ops env' o)) →
    ∃(env':Env) (S':List M1) (pos:Nat→Nat),k env' S'∧(∀ s,(∀ x∈(i,o)::r,x.2.dst≠some s)→J6 env' s=J6 env s)∧(∀ (q:Nat) ob,S[q]? = some ob→S'[q]? = some ob)∧S.length≤S'.length ∧
     (∀ x∈(i,o)::r,Done C N ops x.2 env' σ S' (pos x.1))∧(∀ x∈(i,o)::r,Lays C ops env' x.2→S.length≤pos x.1∧pos x.1<S'.length) ∧
     (∀ x∈(i,o)::r,∀y∈(i,o)::r,Lays C ops env' x.2→Lays C ops env' y.2→pos x.1=pos y.1→x.1=y.1) ∧
     ∀q,S.length≤q→q<S'.length → ∃x∈(i,o)::r,Lays C ops env' x.2∧pos x.1=q:=by
   intro env1 S1 v h1 hput hS1 hdone
   obtain ⟨env',S',pos,g1,g2,g3,g4,g5,g6,g7,g8⟩:=ud hR r env1 S1 k h1 hlr hsr
   have hS1le:S.length≤S1.length:=by rcases hS1 with rfl|⟨ob,rfl⟩<;>simp
   have hS1pre:∀(q:Nat) ob,S[q]? = some ob→S1[q]? = some ob:=by
    intro q ob hq
    rcases hS1 with rfl|⟨ob',rfl⟩
    ·exact hq
    ·rw[List.getElem?_append_left (List.getElem?_eq_some_iff.1 hq).1];exact hq
   have hslot:∀s,(∀ x∈(i,o)::r,x.2.dst≠some s)→J6 env' s=J6 env s:=by
    intro s hs'
    rw[g2 s (fun x hx=>hs' x (List.mem_cons_of_mem _ hx))]
    exact O4 hput (hs' (i,o) (by simp))
   have hlooks:∀t,t∈looks ops o→J6 env t=J6 env' t:=by
    intro t ht
    refine (hslot t fun x hx e=>?_).symm
    rcases List.mem_cons.1 hx with rfl|hx
    ·exact hR.self i o t ho e ht
    ·have hlt:=hgt x hx
     rcases hR.reads i o x.1 x.2 t ho (hlr x hx).1 (by omega) e ht with h1|h1
     ·have:=hR.lt ho h1
      omega
     ·exact (hlr x hx).2 h1.2
   have hdst:∀d,o.dst=some d→J6 env1 d=J6 env' d:=by
    intro d hd
    refine (g2 d fun x hx e=>?_).symm
    have:=hR.once i o x.1 x.2 d ho (hlr x hx).1 hd e
    have hlt:=hgt x hx
    omega
   obtain ⟨hd1,hd2,hd3⟩:=hdone env' S' hlooks hdst g3
   obtain ⟨pos2,p1,p2⟩:∃pos2:Nat→Nat,pos2 i=S.length ∧ ∀j,j≠i→pos2 j=pos j:=⟨fun j=>if j=i then S.length else pos j,by simp,fun j h=>by simp[h]⟩
   refine ⟨env',S',pos2,g1,hslot,fun q ob hq=>g3 q ob (hS1pre q ob hq),Nat.le_trans hS1le g4,fun x hx=>?_,fun x hx hlay=>?_,fun x hx y hy hlx hly e=>?_,fun q hq1 hq2=>?_⟩
   ·rcases List.mem_cons.1 hx with rfl|hx
    ·rw[p1];exact hd1
    ·have hlt:=hgt x hx
     rw[p2 _ (by omega)]
     exact g5 x hx
   ·rcases List.mem_cons.1 hx with rfl|hx
    ·rw[p1]
     have hne:=hd2 hlay
     rcases hS1 with rfl|⟨ob,rfl⟩
     ·exact absurd rfl hne
     ·simp at g4;exact ⟨Nat.le_refl _,by omega⟩
    ·have hlt:=hgt x hx
     rw[p2 _ (by omega)]
     have:=g6 x hx hlay
     omega
   ·rcases List.mem_cons.1 hx with rfl|hx<;>rcases List.mem_cons.1 hy with rfl|hy
    ·rfl
    ·exfalso
     have hlt:=hgt y hy
     rw[p1,p2 _ (by omega)] at e
     have hne:=hd2 hlx
     have:=g6 y hy hly
     rcases hS1 with rfl|⟨ob,rfl⟩
     ·exact hne rfl
     ·simp at this;omega
    ·exfalso
     have hlt:=hgt x hx
     rw[p1,p2 _ (by omega)] at e
     have hne:=hd2 hly
     have:=g6 x hx hlx
     rcases hS1 with rfl|⟨ob,rfl⟩
     ·exact hne rfl
     ·simp at this;omega
    ·have h1:=hgt x hx
     have h2:=hgt y hy
     rw[p2 _ (by omega),p2 _ (by omega)] at e
     exact g7 x hx y hy hlx hly e
   ·by_cases hq:S1.length≤q
    ·obtain ⟨x,hx,hlay,hp⟩:=g8 q hq hq2
     have hlt:=hgt x hx
     exact ⟨x,List.mem_cons_of_mem _ hx,hlay,by rw[p2 _ (by omega)];exact hp⟩
    ·rcases hS1 with rfl|⟨ob,rfl⟩
     ·omega
     ·simp at hq
      refine ⟨(i,o),by simp,hd3 (by simp),?_⟩
      rw[p1];omega
  simp only[gz] at h
  split at h
  ·rename_i hw
   split at h
   ·rename_i hk2
    have hk2':F7 C o=2:=Nat.eq_of_beq_eq_true hk2
    split at h
    ·rename_i hg
     obtain ⟨ob,hob,h⟩:=C4 h
     obtain ⟨env1,h1,hput,hdn⟩:=bh h
     refine after env1 (S ++ [ob]) _ h1 hput (.inr ⟨ob,rfl⟩) fun env' S' hlk hdst hS=>⟨?_,fun _=>by simp,fun _=>⟨hk2',by rw[← O5 hlk];exact hw⟩⟩
     refine .lays hk2' (by rw[← O5 hlk];exact hw) ob (by rw[← av (X2 hlk)];exact hob) (hS _ _ (by simp)) fun d hd=>⟨(hdn d hd).1,?_⟩
     rw[← hdst d hd,(hdn d hd).2,bb (X2 hlk)]
    ·exact h.elim
   ·rename_i hk2
    have hkk:F7 C o=0∨F7 C o=1:=by
     have h2:F7 C o≠2:=by
      intro e;rw[e] at hk2;simp at hk2
     have h4:F7 C o≤3:=by
      unfold F7
      split<;>try omega
      ·split
       ·split
        ·split<;>omega
        ·omega
       ·omega
      ·split
       ·rename_i ti _
        cases ti.td<;>simp[fw]
       ·omega
     omega
    have hval:∃v,(Q3 C o (ev C env) σ fun v' _=>v'=v)∧nt N env o.dst v (fun env=>gz C N ops σ r env S k):=by
     obtain ⟨v,σ',hk',hall⟩:=aopK_det _ h
     exact ⟨v,hall _ rfl,cv (df hk')⟩
    obtain ⟨v,hv,h⟩:=hval
    obtain ⟨env1,h1,hput,hdn⟩:=bh h
    refine after env1 S _ h1 hput (.inl rfl) fun env' S' hlk hdst hS=>⟨?_,fun hlay=>?_,fun hne=>absurd rfl hne⟩
    ·refine .quiet hkk (by rw[← O5 hlk];exact hw) (fun d hd=>(hdn d hd).1) ?_
     refine V2 (U5 (X2 hlk) hv) fun v' σ' e _ d hd=>?_
     rw[e,←hdst d hd,(hdn d hd).2]
    ·have:=hlay.1
     omega
  ·rename_i hw
   obtain ⟨env1,h1,hput,hdn⟩:=bh h
   refine after env1 S _ h1 hput (.inl rfl) fun env' S' hlk hdst hS=>⟨.skip (by rw[← O5 hlk];exact hw) fun d hd=>⟨(hdn d hd).1,by rw[← hdst d hd,(hdn d hd).2]⟩,fun hlay=>?_,fun hne=>absurd rfl hne⟩
   have:=hlay.2
   rw[← O5 hlk,hw] at this
   cases this
  ·exact h.elim
end
section
open Go Go.RowKit
theorem ck{k:Nat}{l:List AV}(h:AV.unders k l=true){j:Nat}{a:AV}(ha:l[j]? = some a):AV.under k a=true:=by
 induction l generalizing j with
 | nil=>simp at ha
 | cons b r ih=>
  simp only[AV.unders,Bool.and_eq_true] at h
  cases j with
  | zero=>simp at ha;subst ha;exact h.1
  | succ j=>exact ih h.2 (by simpa using ha)
def R8(m:Mp)(k:Nat):Mp:=fun id ver=>if id<k then m id ver else none
theorem C7.cut{m:Mp}{K:KS}{a:AV}{v:Value}(h:C7 m K a v){k:Nat}(hu:AV.under k a=true):C7 (R8 m k) K a v:=by
 have keep:∀{id ver l},m id ver=some l→Nat.ble (id+1) k=true→R8 m k id ver=some l:=by
  intro id ver l hm hk
  have:=Nat.le_of_ble_eq_true hk
  simp[R8,show id<k by omega,hm]
 induction h with
 | pv p v hp=>exact .pv p v hp
 | nilsl=>exact .nilsl
 | ptr id off b cap es hm=>exact .ptr id off b cap es (keep hm hu)
 | eptr id ver i off b cap es hm hi=>exact .eptr id ver i off b cap es (keep hm hu) hi
 | ro p off b o vs hl hr hk=>exact .ro p off b o vs hl hr hk
 | arr id ver off len b cap es c a hm hc hl hv ha=>exact .arr id ver off len b cap es c a (keep hm hu) hc hl hv ha
 | arrNil id hm=>exact .arrNil id (keep hm hu)
 | agg cs vs hl hr h1 ih=>exact .agg cs vs hl (fun j p v a b=>ih j p v a b (ck hu a)) h1
 | tup cs vs hl hr ih=>exact .tup cs vs hl (fun j p v a b=>ih j p v a b (ck hu a))
 | iface t p v hp ih=>exact .iface t p v (ih hu)
 | func fn as bs us vs hl hr hl' hr' ih ih'=>
  simp only[AV.under,Bool.and_eq_true] at hu
  exact .func fn as bs us vs hl (fun j p v a b=>ih j p v a b (ck hu.1 a)) hl' (fun j p v a b=>ih' j p v a b (ck hu.2 a))
 | mref id b cap es hm=>exact .mref id b cap es (keep hm hu)
 | avs id len b cap es hm=>exact .avs id len b cap es (keep hm hu)
 | dead v=>exact .dead v
theorem C5.grown{C:Ctx}{m:Mp}{K:KS}{σ:A1}{w w':World}(hB:C5 C m K σ w)(hb:Below w.heap.size w w'):C5 C m K σ w':=
 ⟨hB.below.trans (hb.mono hB.below.size),fun b o v h=>by
   rw[hb.cell (p:=⟨b,o,none⟩) (hB.keep_lt h)];exact hB.keep b o v h,hB.dom,
  fun id x h=>(hB.obj id x h).frame (Ext.refl _ _) rfl (fun b hbk=>hb.block b (hB.lt h hbk)),hB.base,hB.apart,hB.glob,hB.old⟩
theorem C5.moreK{C:Ctx}{m:Mp}{K K':KS}{σ:A1}{w w':World}(hB:C5 C m K σ w)(hbl:Below w.heap.size w w')(hK:∀b o v,K b o v→K' b o v)(hn:∀b o v,K' b o v→K b o v∨w.heap.size≤b)
  (hkeep:∀b o v,K' b o v→w'.cell? ⟨b,o,none⟩=some v∧v.oneCell'=true):C5 C m K' σ w':=by
 have hc:=hB.grown hbl
 have hext:Ext m K m K':=⟨fun _ _ _ h=>h,hK⟩
 have hno:∀(id:Nat) x b,σ[id]? = some x→b∈blk m id x → ∀o v,K' b o v→K b o v:=fun id x b h hb o v hk=>by
  rcases hn b o v hk with h1|h1
  ·exact h1
  ·have:=hB.lt h hb;omega
 refine ⟨hc.below,hkeep,hc.dom,fun id x h=>?_,hc.base,hc.apart,fun g a h=>(hc.glob g a h).mono hext,fun b o v h=>?_⟩
 ·have ho:=hc.obj id x h
  have hb:=hno id x
  cases x with
  | cells ty cs=>
   obtain ⟨b,cap,es,arr,hm,hh,hl,hr,hkk⟩:=ho
   exact ⟨b,cap,es,arr,hm,hh,hl,fun j a v x y=>⟨(hr j a v x y).1.mono hext,(hr j a v x y).2⟩,fun o v hK=>hkk o v (hb b h (by simp[blk,Loc.blk,hm]) o v hK)⟩
  | arr es xs fz=>
   obtain ⟨hver,ho⟩:=ho
   refine ⟨hver,?_⟩
   rcases ho with ⟨rfl,hm⟩|⟨b,cap,arr,ty,fr,hm,hh,h1,h2,h3,h4,h5,h6,h7⟩
   ·exact .inl ⟨rfl,hm⟩
   ·exact .inr ⟨b,cap,arr,ty,fr,hm,hh,h1,h2,h3,h4,fun j p v x y=>⟨(h5 j p v x y).1.mono hK,(h5 j p v x y).2⟩,h6,fun j v hK=>h7 j v (hb b h (by simp[blk,Loc.blk,hm]) j v hK)⟩
  | bld ty el s=>
   obtain ⟨b,cap,es,p,v,hm,hh,hp,hkk,hver,ho⟩:=ho
   refine ⟨b,cap,es,p,v,hm,hh,hp,fun o v hK=>hkk o v (hb b h (by simp[blk,Loc.blk,hm]) o v hK),hver,?_⟩
   rcases ho with ho|⟨b2,cap2,arr,fr,hm2,g1,g2,g3,g4,g5,g6,g7,g8,g9⟩
   ·exact .inl ho
   ·exact .inr ⟨b2,cap2,arr,fr,hm2,g1,g2,g3,g4,g5,g6,g7,g8,fun o v hK=>g9 o v (hb b2 h (by simp[blk,Loc.blk,hm2]) o v hK)⟩
  | mp es=>
   obtain ⟨b,cap,s,arr,clock,hm,hh,hl,hr⟩:=ho
   exact ⟨b,cap,s,arr,clock,hm,hh,hl,fun j e a x y=>⟨(hr j e a x y).1.mono hK,(hr j e a x y).2.mono hext⟩⟩
  | gone=>trivial
 ·rcases hn b o v h with h1|h1
  ·exact hc.old b o v h1
  ·exact .inr (Nat.le_trans hB.below.size h1)
theorem C7.pvs{m m':Mp}{K:KS}{a:AV}{v:Value}(h:C7 m K a v)(hp:a.isPv=true):C7 m' K a v:=by
 cases h with
 | pv p v hp=>exact .pv p v hp
 | _=>simp[AV.isPv] at hp
theorem A2.beside{C:Ctx}(hG:∀g,C.glob g=none){m:Mp}{K:KS}{σ:A1}{w:World}(hB:C5 C m K σ w){f:FuncId}{args:List AV}{vs:Array Value}(hv:jb m K args vs)(ha:args.all AV.isPv=true){P:AV→Prop}
  (h:∀w K,Below C.w0.heap.size C.w0 w→A2 (C.at w K) f args [] fun r _=>AV.under 0 r=true∧P r):
  O1 C.P f vs w fun v w'=>∃r K',C5 C m K' σ w'∧(∀ b o v,K b o v→K' b o v)∧C7 m K' r v∧P r:=by
 have hB1:C5 (C.at w K) (fun _ _=>none) K [] w:=⟨Below.refl _ _,hB.keep,(fun _ _ _ h=>nomatch h),(fun id x h=>nomatch (show (none:Option M1)=some x from h)),(fun id x b h=>nomatch (show (none:Option M1)=some x from h)),(fun id x id' x' b h=>nomatch (show (none:Option M1)=some x from h)),(fun g a h=>by
  have h':C.glob g=some a:=h
  rw[hG g] at h';cases h'),fun b o v h=>.inl h⟩
 have hv1:jb (fun _ _=>none) K args vs:=⟨hv.1,fun j a v hj hjv=>(hv.2 j a v hj hjv).pvs (List.all_eq_true.1 ha a (List.mem_of_getElem? hj))⟩
 refine O1.mono (h w K hB.below _ K w vs hB1 hv1) fun v w' ⟨r',m',K',σ',hB',_,hle,hr,hn,hp⟩=>?_
 have hK:=hle.2
 refine ⟨r',K',hB.moreK hB'.below hK (fun b o v h=>hB'.old b o v h) hB'.keep,hK,(hr.cut (k:=0) hn).mono ⟨fun id ver l h=>?_,fun _ _ _ h=>h⟩,hp⟩
 simp[R8] at h
theorem calleeOf_congr{C:Ctx}{o:Oper}{e e':Operand→AV}(h:nr (I7 o.op) e e'):V1 C e o=V1 C e' o:=by
 unfold V1
 split
 ·rename_i f args ts ho
  have h1:e f=e' f:=h.op (fun t ht=>by rw[ho];simp[I7,ht])
  have h2:args.toList.map e=args.toList.map e':=h.list (fun t ht=>by rw[ho];simp[I7,ht])
  rw[h1,h2]
 ·rfl
theorem callee_run{C:Ctx}{m:Mp}{K:KS}{ρ:Operand→Value}{o:Oper}{e:Operand→AV}(he:∀x,C7 m K (e x) (ρ x)){p:FuncId×List AV}(hp:V1 C e o=some p):
  ∃us,jb m K p.2 us ∧ ∀P w,(execOp ρ o).run P w=(callFunc p.1 us).run P w:=by
 unfold V1 at hp
 split at hp
 ·rename_i f args ts ho
  have hargs:jb m K (args.toList.map e) (args.map ρ):=by
   obtain ⟨h1,h2⟩:=jo he args
   exact ⟨h1,h2⟩
  obtain ⟨us,hus,hrun⟩:=oh (he f) hargs hp
  refine ⟨us,hus,fun P w=>?_⟩
  have:=hrun P w
  simp only[execOp,ho,resolve]
  exact this
 ·cases hp
end
section
open Go Go.RowKit
theorem V9{ops:Array Oper}{m:Mp}{K:KS}{env:Env}{tmps:Array Value}{o:Oper}(hE:∀t,t∈lm ops.toList o→C7 m K (J6 env t) (tmps.getD t undef)){b:Bool}(h:P3 ops.toList env o=some b):Region.wanted o (yielded ops tmps)=b:=by
 unfold P3 at h
 unfold Region.wanted
 split at h
 ·rename_i hg
  cases h
  simp[hg]
 ·rename_i j want hg
  simp only[hg]
  split at h
  ·rename_i oj hj
   split at h
   ·rename_i d hd
    have hEd:=hE d (by unfold lm;simp[hg,hj,hd])
    have hop:(ops[j]?).bind (·.dst)=some d:=by
     have:ops[j]? = some oj:=by simpa using hj
     simp[this,hd]
    split at h
    ·rename_i v hv
     rw[hv] at hEd
     have hvv:=hEd.pv_inv.bool_inv
     have hsome:tmps[d]? = some (.bool v):=by
      rw[Array.getD_eq_getD_getElem?] at hvv
      cases hq:tmps[d]? with
      | none=>rw[hq] at hvv;simp[undef] at hvv
      | some x=>rw[hq] at hvv;simp at hvv;rw[hvv]
     have hy:yielded ops tmps j=some v:=by
      unfold yielded
      rw[hop]
      simp[hsome]
     rw[hy]
     split at h
     ·cases h;rfl
     ·cases h;rfl
     ·rename_i h1 h2
      cases h
      cases v<;>cases want<;>first|rfl|exact (h1 rfl rfl).elim|exact (h2 rfl rfl).elim
    ·rename_i hv
     rw[hv] at hEd
     cases h
     have hvv:tmps.getD d undef = .tuple #[]:=by
      generalize tmps.getD d undef=q at hEd
      cases hEd with
      | tup _ vs hl hr=>
       have:vs = #[]:=Array.eq_empty_of_size_eq_zero (by simpa using hl.symm)
       rw[this]
     have hy:yielded ops tmps j=none:=by
      unfold yielded
      rw[hop]
      rw[Array.getD_eq_getD_getElem?] at hvv
      cases hq:tmps[d]? with
      | none=>simp[hq]
      | some x=>rw[hq] at hvv;simp at hvv;simp[hq,hvv]
     rw[hy]
     rfl
    ·cases h
   ·cases h
  ·cases h
theorem opK_congr{C:Ctx}{o:Oper}{e e':Operand→AV}{σ:A1}{k:AV→A1→Prop}(h:nr (I7 o.op) e e')(ha:opK C o e σ k):opK C o e' σ k:=by
 unfold opK at *
 split at ha
 ·rename_i hc
  have:V1 C e o=V1 C e' o:=by
   unfold V1
   split
   ·rename_i f args ts ho
    have h1:e f=e' f:=h.op (fun t ht=>by rw[ho];simp[I7,ht])
    have h2:args.toList.map e=args.toList.map e':=h.list (fun t ht=>by rw[ho];simp[I7,ht])
    rw[h1,h2]
   ·rfl
  rw[← this]
  exact ha
 ·exact U5 h ha
abbrev Lst(listed:Array Bool)(j:Nat):Prop:=listed.getD j true=true
def U6(C:Ctx)(ops:List Oper)(bs:List Nat)(Dq:Nat):Nat:=Nat.lor Dq (cd (K5 C (R0 C 0 ops) Dq 0 ops bs))
structure StD(C:Ctx)(N n:Nat)(ops:List Oper)(bs:List Nat)(m0:Mp)(K0:KS)(listed:Array Bool)(D:Nat)(env:Env)(σ:A1)(S Sact:List M1)(pos:Nat→Nat)(m:Mp)(K:KS)(a:Act)(w:World):Prop where
 sz:listed.size=ops.length
 sub:∀(j:Nat) o,ops[j]? = some o→Lst listed j→C8 D j=true
 loud:∀(j:Nat) o,ops[j]? = some o→F7 C o=3→C8 D j=true→Lst listed j
 dcl:∀(i:Nat) o,ops[i]? = some o→C8 D i=true → ∀j,C8 (U7 bs i) j=true→C8 D j=true
 closed:∀(i:Nat) o,ops[i]? = some o→Lst listed i → ∀j,C8 (U7 bs i) j=true→Lst listed j
 at_:C5 C m K (σ++Sact) w∧n≤σ.length∧a.tmps.size=N∧a.defers = []∧Le n m0 K0 m K
 env_:∀s,(∀ (j:Nat) o,ops[j]? = some o→o.dst=some s→Lst listed j∨C8 D j=false)→C7 m K (J6 env s) (a.tmps.getD s undef)
 done:∀(j:Nat) o,ops[j]? = some o→C8 D j=true → ¬Lst listed j→Done C N ops o env σ S (pos j)
 lays:∀(j:Nat) o,ops[j]? = some o→C8 D j=true → ¬Lst listed j→Lays C ops env o→pos j<S.length∧Sact[pos j]? = some .gone ∧ ∀ver,m (σ.length+pos j) ver=none
 act:Sact.length=S.length ∧ ∀q,q<S.length→Sact[q]? = S[q]? ∨ ∃j o,ops[j]? = some o∧C8 D j=true ∧ ¬Lst listed j∧Lays C ops env o∧pos j=q
 inj:∀(i:Nat) o (j:Nat) p,ops[i]? = some o→ops[j]? = some p→C8 D i=true→C8 D j=true → ¬Lst listed i → ¬Lst listed j→Lays C ops env o→Lays C ops env p→pos i=pos j→i=j
abbrev St(C:Ctx)(N n:Nat)(ops:List Oper)(bs:List Nat)(m0:Mp)(K0:KS)(listed:Array Bool)(Dq:Nat)(env:Env)(σ:A1)(S Sact:List M1)(pos:Nat→Nat)(m:Mp)(K:KS)(a:Act)(w:World):Prop:=
 StD C N n ops bs m0 K0 listed (U6 C ops bs Dq) env σ S Sact pos m K a w
theorem vm{listed:Array Bool}{i j:Nat}(hi:i<listed.size):Lst (listed.setIfInBounds i true) j↔j=i∨Lst listed j:=by
 unfold Lst
 by_cases e:j=i
 ·subst e
  simp[Array.getD_eq_getD_getElem?,hi]
 ·have:(listed.setIfInBounds i true).getD j true=listed.getD j true:=by
   simp[Array.getD_eq_getD_getElem?,Array.getElem?_setIfInBounds_ne (Ne.symm e)]
  rw[this];simp[e]
theorem St.ahead{C:Ctx}{N n:Nat}{ops:List Oper}{bs:List Nat}(hR:Rg C ops bs){m0 K0 listed Dq env σ S Sact pos m K a w}(hS:St C N n ops bs m0 K0 listed Dq env σ S Sact pos m K a w){i:Nat}{o:Oper}(ho:ops[i]? = some o)
  (hr:∀e∈o.after.toList,ab e=true→Lst listed e.on):∀j,C8 (U7 bs i) j=true→Lst listed j:=by
 intro j hj
 obtain ⟨e,he,hb,h⟩:=hR.bef i o ho j hj
 have hl:=hr e he hb
 rcases h with rfl|h
 ·exact hl
 ·have hlt:=hR.edges i o ho e he hb
  have hlen:i<ops.length:=(List.getElem?_eq_some_iff.1 ho).1
  exact hS.closed e.on _ (List.getElem?_eq_getElem (by omega)) hl j h
theorem St.slots{C:Ctx}{N n:Nat}{ops:List Oper}{bs:List Nat}(hR:Rg C ops bs){m0 K0 listed Dq env σ S Sact pos m K a w}(hS:St C N n ops bs m0 K0 listed Dq env σ S Sact pos m K a w){i:Nat}{o:Oper}(ho:ops[i]? = some o)
  (hah:∀j,C8 (U7 bs i) j=true→Lst listed j) (hu:¬Lst listed i):∀t,t∈looks ops o→C7 m K (J6 env t) (a.tmps.getD t undef):=by
 intro t ht
 refine hS.env_ t fun j p hp hd=>?_
 by_cases e:i=j
 ·subst e
  rw[ho] at hp;cases hp
  exact absurd ht (hR.self i o t ho hd)
 ·rcases hR.reads i o j p t ho hp e hd ht with h1|h1
  ·exact .inl (hah j h1)
  ·right
   cases hq:C8 (U6 C ops bs Dq) j with
   | false=>rfl
   | true=>exact absurd (hS.closed j p hp (hS.loud j p hp h1.2 hq) i h1.1) hu
open Classical in
theorem known{C:Ctx}{m:Mp}{K:KS}{σ:A1}{w:World}(hB:C5 C m K σ w){env:Env}{a:Act}{ts:List Nat}(h:∀t,t∈ts→C7 m K (J6 env t) (a.tmps.getD t undef)):
  ∃e:Operand→AV,nr ts (ev C env) e ∧ ∀x,C7 m K (e x) (a.eval x):=by
 refine ⟨fun x=>match x with
  | .tmp t=>if t∈ts then J6 env t else .dead
  | x=>ev C env x,⟨fun t ht=>by simp[ht,ev],fun x hx=>by cases x<;>first|rfl|simp[S7] at hx⟩,fun x=>?_⟩
 cases x with
 | tmp t=>
  simp only
  split
  ·rename_i ht;exact h t ht
  ·exact .dead _
 | const v=>exact U4 m K v
 | global g=>
  simp only[ev,Act.eval]
  cases hg:C.glob g with
  | none=>exact .dead _
  | some a=>exact hB.glob g a hg
 | func f=>exact .pv _ _ (.raw _ rfl)
theorem xa{a:Act}{dst:Option Tmp}{v:Value}{s:Nat}(h:dst≠some s):(a.put dst v).tmps.getD s undef=a.tmps.getD s undef:=by
 cases dst with
 | none=>rfl
 | some d=>
  have:d≠s:=fun e=>h (by rw[e])
  simp only[Act.put]
  rw[wj,if_neg (by simp[this])]
theorem ib{a:Act}{d:Nat}{v:Value}(h:d<a.tmps.size):(a.put (some d) v).tmps.getD d undef=v:=by
 simp only[Act.put]
 rw[wj,if_pos ⟨rfl,h⟩]
theorem put_size{a:Act}{dst:Option Tmp}{v:Value}:(a.put dst v).tmps.size=a.tmps.size:=by
 cases dst<;>simp[Act.put]
theorem mf{a:Act}{dst:Option Tmp}{v:Value}:(a.put dst v).defers=a.defers:=by
 cases dst<;>rfl
theorem St.quiet{C:Ctx}{N n:Nat}{ops:List Oper}{bs:List Nat}(hR:Rg C ops bs){m0 K0 listed Dq env σ S Sact pos m K a w}(hS:St C N n ops bs m0 K0 listed Dq env σ S Sact pos m K a w){i:Nat}{o:Oper}(ho:ops[i]? = some o)
  (hah:∀j,C8 (U7 bs i) j=true→Lst listed j) (hD:C8 (U6 C ops bs Dq) i=true) (hu:¬Lst listed i)
  {Sact':List M1} {m':Mp} {w':World} {v:Value} (hB:C5 C m' K (σ++Sact') w') (hx:Ext m K m' K)
  (hsame:(Sact'=Sact∧m'=m ∧ ¬Lays C ops env o)∨(∃ ob,Lays C ops env o∧S[pos i]? = some ob∧Sact'=Sact.set (pos i) ob ∧ ∀id,id≠σ.length+pos i→m' id=m id))
  (hv:∀d,o.dst=some d→d<N∧C7 m' K (J6 env d) v):St C N n ops bs m0 K0 (listed.setIfInBounds i true) Dq env σ S Sact' pos m' K (a.put o.dst v) w':=by
 have hlen:i<ops.length:=(List.getElem?_eq_some_iff.1 ho).1
 have hset:∀j,Lst (listed.setIfInBounds i true) j↔j=i∨Lst listed j:=fun j=>vm (by rw[hS.sz];exact hlen)
 obtain ⟨hB0,hn,hN,hdf,hle⟩:=hS.at_
 refine ⟨by simpa using hS.sz,fun j p hp hj=>?_,fun j p hp hk hj=>?_,hS.dcl,fun j p hp hj k hk=>?_,⟨hB,hn,by rw[put_size];exact hN,by rw[mf];exact hdf,hle.trans (hx.le n)⟩,fun s hs=>?_,fun j p hp hj hu'=>?_,fun j p hp hj hu' hlay=>?_,?_,?_⟩
 ·rcases (hset j).1 hj with rfl|hj
  ·exact hD
  ·exact hS.sub j p hp hj
 ·exact (hset j).2 (.inr (hS.loud j p hp hk hj))
 ·rcases (hset j).1 hj with rfl|hj
  ·exact (hset k).2 (.inr (hah k hk))
  ·exact (hset k).2 (.inr (hS.closed j p hp hj k hk))
 ·by_cases hd:o.dst=some s
  ·have:=hv s hd
   rw[hd,ib (by rw[hN];exact this.1)]
   exact this.2
  ·rw[xa hd]
   refine (hS.env_ s fun j p hp hpd=>?_).mono hx
   rcases hs j p hp hpd with h|h
   ·rcases (hset j).1 h with rfl|h
    ·rw[ho] at hp;cases hp
     exact absurd hpd hd
    ·exact .inl h
   ·exact .inr h
 ·exact hS.done j p hp hj (fun h=>hu' ((hset j).2 (.inr h)))
 ·have hul:¬Lst listed j:=fun h=>hu' ((hset j).2 (.inr h))
  have hne:j≠i:=fun h=>hu' ((hset j).2 (.inl h))
  obtain ⟨h1,h2,h3⟩:=hS.lays j p hp hj hul hlay
  rcases hsame with ⟨rfl,rfl,_⟩|⟨ob,hlay',hob,rfl,hm⟩
  ·exact ⟨h1,h2,h3⟩
  ·have hpne:pos i≠pos j:=fun e=>hne (hS.inj j p i o hp ho hj hD hul hu hlay hlay' e.symm)
   refine ⟨h1,by rw[List.getElem?_set_ne hpne];exact h2,fun ver=>?_⟩
   rw[hm _ (by omega)]
   exact h3 ver
 ·rcases hsame with ⟨rfl,rfl,hnl⟩|⟨ob,hlay',hob,rfl,hm⟩
  ·refine ⟨hS.act.1,fun q hq=>?_⟩
   rcases hS.act.2 q hq with h|⟨j,p,hp,hj,hul,hlay,hpos⟩
   ·exact .inl h
   ·by_cases e:j=i
    ·subst e
     rw[ho] at hp;cases hp
     exact absurd hlay hnl
    ·exact .inr ⟨j,p,hp,hj,fun h=>by rcases (hset j).1 h with h|h;exact e h;exact hul h,hlay,hpos⟩
  ·refine ⟨by simpa using hS.act.1,fun q hq=>?_⟩
   by_cases eq:pos i=q
   ·subst eq
    left
    rw[List.getElem?_set_self (by rw[hS.act.1];exact hq),hob]
   ·rw[List.getElem?_set_ne eq]
    rcases hS.act.2 q hq with h|⟨j,p,hp,hj,hul,hlay,hpos⟩
    ·exact .inl h
    ·have e:j≠i:=fun e=>eq (by rw[← e];exact hpos)
     exact .inr ⟨j,p,hp,hj,fun h=>by rcases (hset j).1 h with h|h;exact e h;exact hul h,hlay,hpos⟩
 ·intro j p k q hp hq hj hk hul hul' h1 h2 h3
  exact hS.inj j p k q hp hq hj hk (fun h=>hul ((hset j).2 (.inr h))) (fun h=>hul' ((hset k).2 (.inr h))) h1 h2 h3
def Cont(C:Ctx)(N:Nat)(ops:List Oper)(bs:List Nat)(k:Env→A1→Prop)(fuel Dq:Nat)(env:Env)(σ:A1)(S:List M1):Prop:=
 match aa C Dq 0 ops bs with
 | none=>k env (nu σ S)
 | some (i,o,b)=>match softB C ops bs i o b with
  | true=>psoft C N ops i o b (U6 C ops bs Dq) env σ fun env σ=>ec C N ops bs (R0 C 0 ops) fuel (Nat.lor (U6 C ops bs Dq) (Nat.pow 2 i)) env σ S k
  | false=>wc C N ops i o b (U6 C ops bs Dq) env (nu σ S) fun env σ=>ec C N ops bs (R0 C 0 ops) fuel (Nat.lor (U6 C ops bs Dq) (Nat.pow 2 i)) env σ [] k
theorem Lays.congr{C:Ctx}{ops:List Oper}{env env':Env}{o:Oper}(h:Lays C ops env o)(hl:∀t,t∈looks ops o→J6 env t=J6 env' t):Lays C ops env' o:=⟨h.1,by rw[← O5 hl];exact h.2⟩
theorem StD.enter{C:Ctx}{N n:Nat}{ops:List Oper}{bs:List Nat}(hR:Rg C ops bs)(hbl:bs.length=ops.length){m0 K0 listed D env σ S Sact pos m K a w}(hP:StD C N n ops bs m0 K0 listed D env σ S Sact pos m K a w){fuel:Nat}{k:Env→A1→Prop}
  (h:ec C N ops bs (R0 C 0 ops) fuel D env σ S k):∃env' S' Sact' pos' fuel',St C N n ops bs m0 K0 listed D env' σ S' Sact' pos' m K a w∧Cont C N ops bs k fuel' D env' σ S':=by
 cases fuel with
 | zero=>exact h.elim
 | succ fuel=>
  simp only[ec] at h
  have hspec:=V0 (C:=C) (loud:=R0 C 0 ops) (done:=D) ops bs 0 hbl.symm
  have hin:∀x∈K5 C (R0 C 0 ops) D 0 ops bs,ops[x.1]? = some x.2∧F7 C x.2≠3:=by
   intro x hx
   obtain ⟨k',o,rfl,h1,_,h2,_⟩:=(hspec x).1 hx
   exact ⟨by simpa using h1,h2⟩
  obtain ⟨env',S',posn,g1,g2,g3,g4,g5,g6,g7,g8⟩:=ud hR _ env S _ h hin (ij ops bs 0 hbl.symm)
  have hreck:∀j,C8 (U6 C ops bs D) j=true↔C8 D j=true ∨ ∃o,(j,o)∈K5 C (R0 C 0 ops) D 0 ops bs:=by
   intro j
   unfold U6
   rw[M7,Bool.or_eq_true,dc]
  have hfresh:∀x∈K5 C (R0 C 0 ops) D 0 ops bs,C8 D x.1=false:=by
   intro x hx
   obtain ⟨k',o,rfl,_,h1,_⟩:=(hspec x).1 hx
   exact h1
  have hmem:∀(j:Nat) o,ops[j]? = some o→(∃ p,(j,p)∈K5 C (R0 C 0 ops) D 0 ops bs)→(j,o)∈K5 C (R0 C 0 ops) D 0 ops bs:=by
   rintro j o ho ⟨p,hp⟩
   have:=(hin _ hp).1
   simp only at this
   rw[ho] at this;cases this
   exact hp
  have hold:∀(j:Nat) o,ops[j]? = some o→C8 D j=true→(∀ t,t∈looks ops o→J6 env t=J6 env' t) ∧ ∀d,o.dst=some d→J6 env d=J6 env' d:=by
   intro j o ho hj
   refine ⟨fun t ht=>(g2 t fun x hx e=>?_).symm,fun d hd=>(g2 d fun x hx e=>?_).symm⟩
   ·have hx1:=(hin x hx).1
    have hxf:=hfresh x hx
    by_cases hjx:j=x.1
    ·subst hjx;rw[hj] at hxf;cases hxf
    ·rcases hR.reads j o x.1 x.2 t ho hx1 hjx e ht with h1|h1
     ·have:=hP.dcl j o ho hj x.1 h1
      rw[this] at hxf;cases hxf
     ·exact (hin x hx).2 h1.2
   ·have hx1:=(hin x hx).1
    have hxf:=hfresh x hx
    have:=hR.once j o x.1 x.2 d ho hx1 hd e
    subst this
    rw[hj] at hxf;cases hxf
  have hunl:∀x∈K5 C (R0 C 0 ops) D 0 ops bs,¬Lst listed x.1:=by
   intro x hx hl
   have:=hP.sub x.1 x.2 (hin x hx).1 hl
   rw[hfresh x hx] at this;cases this
  have hnew:∀(j:Nat) o,ops[j]? = some o→C8 (U6 C ops bs D) j=true→Lays C ops env' o→(C8 D j=true∧Lays C ops env o)∨(C8 D j=false∧(j,o)∈K5 C (R0 C 0 ops) D 0 ops bs):=by
   intro j o ho hj hlay
   rcases (hreck j).1 hj with h1|h1
   ·obtain ⟨q1,_⟩:=hold j o ho h1
    exact .inl ⟨h1,hlay.congr fun t ht=>(q1 t ht).symm⟩
   ·have hx:=hmem j o ho h1
    exact .inr ⟨hfresh _ hx,hx⟩
  obtain ⟨pos',hpo,hpn⟩:∃pos':Nat→Nat,(∀ j,C8 D j=true→pos' j=pos j) ∧ ∀j,C8 D j=false→pos' j=posn j:=
   ⟨fun j=>if C8 D j=true then pos j else posn j,fun j h=>by simp[h],fun j h=>by simp[h]⟩
  obtain ⟨hB,hn,hN,hdf,hle⟩:=hP.at_
  have hSl:=hP.act.1
  have hcat:σ++(Sact++List.replicate (S'.length-S.length) .gone)=(σ++Sact)++List.replicate (S'.length-S.length) .gone:=(List.append_assoc ..).symm
  refine ⟨env',S',Sact++List.replicate (S'.length-S.length) .gone,pos',fuel,⟨hP.sz,fun j o ho hl=>(hreck j).2 (.inl (hP.sub j o ho hl)),fun j o ho hk hj=>?_,fun i o ho hi j hj=>?_,hP.closed,⟨by rw[hcat];exact hB.more _,hn,hN,hdf,hle⟩,fun s hs=>?_,
   fun j o ho hj hu=>?_,fun j o ho hj hu hlay=>?_,⟨by simp;omega,fun q hq=>?_⟩,fun i o j p ho hp hi hj hui huj hli hlj e=>?_⟩,g1⟩
  ·rcases (hreck j).1 hj with h1|h1
   ·exact hP.loud j o ho hk h1
   ·exact absurd hk (hin _ (hmem j o ho h1)).2
  ·rcases (hreck i).1 hi with h1|h1
   ·exact (hreck j).2 (.inl (hP.dcl i o ho h1 j hj))
   ·have hx:=hmem i o ho h1
    obtain ⟨k',p,e,hp,_,_,hl⟩:=(hspec _).1 hx
    simp only[Nat.zero_add,Prod.mk.injEq] at e
    obtain ⟨rfl,rfl⟩:=e
    have hjlt:=hR.lt ho hj
    have hlen:i<ops.length:=(List.getElem?_eq_some_iff.1 ho).1
    have hoj:ops[j]? = some ops[j]:=List.getElem?_eq_getElem (by omega)
    refine (hreck j).2 ?_
    by_cases hDj:C8 D j=true
    ·exact .inl hDj
    ·right
     have hkj:F7 C ops[j]≠3:=by
      intro hk3
      exact hDj (hl j hj ((ie ops 0 j).2 ⟨j,_,by omega,hoj,hk3⟩))
     refine ⟨ops[j],(hspec _).2 ⟨j,ops[j],by simp,hoj,by simpa using hDj,hkj,fun q hq hlq=>hl q (hR.trans ho hj hq) hlq⟩⟩
  ·rw[g2 s fun x hx e=>(by
    rcases hs x.1 x.2 (hin x hx).1 e with h|h
    ·exact hunl x hx h
    ·have:=(hreck x.1).2 (.inr ⟨x.2,hx⟩)
     rw[h] at this;cases this)]
   refine hP.env_ s fun j o ho hd=>?_
   rcases hs j o ho hd with h|h
   ·exact .inl h
   ·right
    cases hq:C8 D j with
    | false=>rfl
    | true=>rw[(hreck j).2 (.inl hq)] at h;cases h
  ·by_cases h1:C8 D j=true
   ·obtain ⟨q1,q2⟩:=hold j o ho h1
    rw[hpo j h1]
    exact (hP.done j o ho h1 hu).congr q1 q2 (fun ob h=>g3 _ _ h)
   ·have hx:=hmem j o ho (((hreck j).1 hj).resolve_left h1)
    rw[hpn j (by simpa using h1)]
    exact g5 _ hx
  ·rcases hnew j o ho hj hlay with ⟨h1,h2⟩|⟨h1,hx⟩
   ·obtain ⟨q1,q2,q3⟩:=hP.lays j o ho h1 hu h2
    rw[hpo j h1]
    exact ⟨by omega,by rw[List.getElem?_append_left (by omega)];exact q2,q3⟩
   ·have:=g6 _ hx hlay
    simp only at this
    rw[hpn j h1]
    refine ⟨this.2,by rw[List.getElem?_append_right (by omega),List.getElem?_replicate,if_pos (by omega)],fun ver=>?_⟩
    cases hm:m (σ.length+posn j) ver with
    | none=>rfl
    | some l=>
     have h:=hB.dom _ _ _ hm
     rw[List.length_append] at h
     omega
  ·by_cases hqs:q<S.length
   ·rcases hP.act.2 q hqs with h1|⟨j,o,ho,hj,hu,hlay,hp⟩
    ·left
     rw[List.getElem?_append_left (by omega),h1]
     obtain ⟨ob,hob⟩:∃ob,S[q]? = some ob:=⟨S[q],List.getElem?_eq_getElem hqs⟩
     rw[hob,g3 q ob hob]
    ·obtain ⟨q1,_⟩:=hold j o ho hj
     exact .inr ⟨j,o,ho,(hreck j).2 (.inl hj),hu,hlay.congr q1,by rw[hpo j hj];exact hp⟩
   ·obtain ⟨x,hx,hlay,hp⟩:=g8 q (by omega) hq
    exact .inr ⟨x.1,x.2,(hin x hx).1,(hreck _).2 (.inr ⟨x.2,hx⟩),hunl x hx,hlay,by rw[hpn _ (hfresh x hx)];exact hp⟩
  ·rcases hnew i o ho hi hli with ⟨a1,a2⟩|⟨a1,a2⟩<;>rcases hnew j p hp hj hlj with ⟨b1,b2⟩|⟨b1,b2⟩
   ·rw[hpo i a1,hpo j b1] at e
    exact hP.inj i o j p ho hp a1 b1 hui huj a2 b2 e
   ·rw[hpo i a1,hpn j b1] at e
    have h1:=(hP.lays i o ho a1 hui a2).1
    have h2:=(g6 _ b2 hlj).1
    simp only at h2
    omega
   ·rw[hpn i a1,hpo j b1] at e
    have h1:=(hP.lays j p hp b1 huj b2).1
    have h2:=(g6 _ a2 hli).1
    simp only at h2
    omega
   ·rw[hpn i a1,hpn j b1] at e
    exact g7 _ a2 _ b2 hli hlj e
theorem binds_any(e:Edge):Region.binds .any e=ab e:=by
 unfold Region.binds ab
 cases e.ground<;>rfl
theorem lst_of{listed:Array Bool}{i:Nat}(h:listed.getD i false=true):Lst listed i:=by
 unfold Lst
 rw[Array.getD_eq_getD_getElem?] at *
 cases hq:listed[i]? with
 | none=>rw[hq] at h;cases h
 | some b=>rw[hq] at h;simpa using h
theorem St.full{C:Ctx}{N n:Nat}{ops:List Oper}{bs:List Nat}{m0 K0 listed Dq env σ S Sact pos m K a w}(hS:St C N n ops bs m0 K0 listed Dq env σ S Sact pos m K a w)
  (hno:∀(j:Nat) o,ops[j]? = some o→C8 (U6 C ops bs Dq) j=true → ¬Lst listed j → ¬Lays C ops env o):σ++Sact=nu σ S:=by
 have e:Sact=S:=by
  apply List.ext_getElem?
  intro q
  by_cases hq:q<S.length
  ·rcases hS.act.2 q hq with h|⟨j,o,ho,hj,hu,hl,_⟩
   ·exact h
   ·exact absurd hl (hno j o ho hj hu)
  ·rw[List.getElem?_eq_none (by rw[hS.act.1];omega),List.getElem?_eq_none (by omega)]
 subst e
 unfold nu
 cases Sact with
 | nil=>simp
 | cons x r=>rfl
theorem St.next{C:Ctx}{N n:Nat}{ops:List Oper}{bs:List Nat}(hR:Rg C ops bs){m0 K0 listed Dq env σ S Sact pos m K a w}(hS:St C N n ops bs m0 K0 listed Dq env σ S Sact pos m K a w){l:Nat}{o:Oper}(ho:ops[l]? = some o)
  (hah:∀j,C8 (U7 bs l) j=true→Lst listed j) (hD:C8 (U6 C ops bs Dq) l=false) (hno:∀(j:Nat) o,ops[j]? = some o→C8 (U6 C ops bs Dq) j=true → ¬Lst listed j → ¬Lays C ops env o)
  {m':Mp} {K':KS} {σ':A1} {w':World} {v:AV} {x:Value} {env1:Env} (hB:C5 C m' K' σ' w') (hlen:(nu σ S).length≤σ'.length) (hle:Le (nu σ S).length m K m' K') (hx:C7 m' K' v x)
  (hput:(o.dst=none∧env1=env) ∨ ∃d,o.dst=some d∧env1=kz env d v) (hdn:∀d,o.dst=some d→d<N∧J6 env1 d=v)
  (hpend:∀(j:Nat) p,ops[j]? = some p→C8 (U6 C ops bs Dq) j=true → ¬Lst listed j→(F7 C p=0∨F7 C p=1)→P3 ops env1 p=some true→(Q3 C p (ev C env) σ fun v _=>∀d,p.dst=some d→v=J6 env d) →
   Q3 C p (ev C env1) σ' fun v _=>∀d,p.dst=some d→v=J6 env1 d):
  StD C N n ops bs m0 K0 (listed.setIfInBounds l true) (Nat.lor (U6 C ops bs Dq) (Nat.pow 2 l)) env1 σ' [] [] (fun _=>0) m' K' (a.put o.dst x) w':=by
 have hll:l<ops.length:=(List.getElem?_eq_some_iff.1 ho).1
 have hset:∀j,Lst (listed.setIfInBounds l true) j↔j=l∨Lst listed j:=fun j=>vm (by rw[hS.sz];exact hll)
 have hbit:∀j,C8 (Nat.lor (U6 C ops bs Dq) (Nat.pow 2 l)) j=true↔C8 (U6 C ops bs Dq) j=true∨l=j:=by
  intro j;rw[M7,bw,Bool.or_eq_true,decide_eq_true_eq]
 obtain ⟨hB0,hn,hN,hdf,hle0⟩:=hS.at_
 have hfull:=hS.full hno
 have hext:Ext m K m' K':=hle.ext (by rw[hfull] at hB0;exact hB0)
 have hnn:n≤(nu σ S).length:=by
  rw[← hfull];simp;omega
 have pend:∀(j:Nat) p,ops[j]? = some p→C8 (Nat.lor (U6 C ops bs Dq) (Nat.pow 2 l)) j=true → ¬Lst (listed.setIfInBounds l true) j→Done C N ops p env1 σ' [] 0 ∧ ¬Lays C ops env1 p:=by
  intro j p hp hj hu
  have hul:¬Lst listed j:=fun h=>hu ((hset j).2 (.inr h))
  have hjl:j≠l:=fun h=>hu ((hset j).2 (.inl h))
  have hjD:C8 (U6 C ops bs Dq) j=true:=by
   rcases (hbit j).1 hj with h|h
   ·exact h
   ·exact absurd h.symm hjl
  have hlk:∀t,t∈looks ops p→J6 env t=J6 env1 t:=by
   intro t ht
   refine (O4 hput fun e=>?_).symm
   rcases hR.reads j p l o t hp ho hjl e ht with h1|h1
   ·have:=hS.dcl j p hp hjD l h1
    rw[hD] at this;cases this
   ·exact hul (hah j h1.1)
  have hds:∀d,p.dst=some d→J6 env d=J6 env1 d:=by
   intro d hd
   refine (O4 hput fun e=>?_).symm
   exact hjl (hR.once j p l o d hp ho hd e)
  have hnl:¬Lays C ops env1 p:=fun h=>hno j p hp hjD hul (h.congr fun t ht=>(hlk t ht).symm)
  refine ⟨?_,hnl⟩
  cases hS.done j p hp hjD hul with
  | quiet hk hw hd h=>
   have hw1:P3 ops env1 p=some true:=by rw[← O5 hlk];exact hw
   exact .quiet hk hw1 hd (hpend j p hp hjD hul hk hw1 h)
  | skip hw h=>exact .skip (by rw[← O5 hlk];exact hw) fun d hd=>⟨(h d hd).1,by rw[← hds d hd];exact (h d hd).2⟩
  | lays hk hw ob hob hSp h=>exact absurd ⟨hk,hw⟩ (hno j p hp hjD hul)
 refine ⟨by simpa using hS.sz,fun j p hp hj=>?_,fun j p hp hk hj=>?_,fun i p hp hi j hj=>?_,fun j p hp hj k hk=>?_,⟨by rw[List.append_nil];exact hB,Nat.le_trans hnn hlen,by rw[put_size];exact hN,by rw[mf];exact hdf,hle0.trans (hle.less hnn)⟩,fun s hs=>?_,fun j p hp hj hu=>(pend j p hp hj hu).1,fun j p hp hj hu hlay=>absurd hlay (pend j p hp hj hu).2,⟨rfl,fun q hq=>by simp at hq⟩,fun i p j q hp hq hi hj hu hu' hl _ _=>absurd hl (pend i p hp hi hu).2⟩
 ·rcases (hset j).1 hj with rfl|hj
  ·exact (hbit _).2 (.inr rfl)
  ·exact (hbit _).2 (.inl (hS.sub j p hp hj))
 ·rcases (hbit j).1 hj with h|rfl
  ·exact (hset j).2 (.inr (hS.loud j p hp hk h))
  ·exact (hset _).2 (.inl rfl)
 ·rcases (hbit i).1 hi with h|rfl
  ·exact (hbit j).2 (.inl (hS.dcl i p hp h j hj))
  ·have hl:=hah j hj
   have hjlt:=hR.lt ho hj
   exact (hbit j).2 (.inl (hS.sub j _ (List.getElem?_eq_getElem (by omega)) hl))
 ·rcases (hset j).1 hj with rfl|hj
  ·exact (hset k).2 (.inr (hah k hk))
  ·exact (hset k).2 (.inr (hS.closed j p hp hj k hk))
 ·by_cases hd:o.dst=some s
  ·have:=hdn s hd
   rw[hd,ib (by rw[hN];exact this.1),this.2]
   exact hx
  ·rw[xa hd,O4 hput hd]
   refine (hS.env_ s fun j p hp hpd=>?_).mono hext
   rcases hs j p hp hpd with h|h
   ·rcases (hset j).1 h with rfl|h
    ·rw[ho] at hp;cases hp
     exact absurd hpd hd
    ·exact .inl h
   ·right
    cases hq:C8 (U6 C ops bs Dq) j with
    | false=>rfl
    | true=>rw[(hbit j).2 (.inl hq)] at h;cases h
theorem St.soft{C:Ctx}{N n:Nat}{ops:List Oper}{bs:List Nat}(hR:Rg C ops bs){m0 K0 listed Dq env σ S Sact pos m K a w}(hS:St C N n ops bs m0 K0 listed Dq env σ S Sact pos m K a w){l:Nat}{o:Oper}(ho:ops[l]? = some o)
  (hah:∀j,C8 (U7 bs l) j=true→Lst listed j) (hD:C8 (U6 C ops bs Dq) l=false)
  {K':KS} (hK:∀b o v,K b o v→K' b o v) {σ':A1} {w':World} {v:AV} {x:Value} {env1:Env} (hlen:σ'.length=σ.length) (hB:C5 C m K' (σ'++Sact) w') (hx:C7 m K' v x)
  (hput:(o.dst=none∧env1=env) ∨ ∃d,o.dst=some d∧env1=kz env d v) (hdn:∀d,o.dst=some d→d<N∧J6 env1 d=v)
  (hpend:∀(j:Nat) p,ops[j]? = some p→C8 (U6 C ops bs Dq) j=true → ¬Lst listed j→(F7 C p=0∨F7 C p=1)→P3 ops env1 p=some true→(Q3 C p (ev C env) σ fun v _=>∀d,p.dst=some d→v=J6 env d) →
   Q3 C p (ev C env1) σ' fun v _=>∀d,p.dst=some d→v=J6 env1 d):
  StD C N n ops bs m0 K0 (listed.setIfInBounds l true) (Nat.lor (U6 C ops bs Dq) (Nat.pow 2 l)) env1 σ' S Sact pos m K' (a.put o.dst x) w':=by
 have hll:l<ops.length:=(List.getElem?_eq_some_iff.1 ho).1
 have hset:∀j,Lst (listed.setIfInBounds l true) j↔j=l∨Lst listed j:=fun j=>vm (by rw[hS.sz];exact hll)
 have hbit:∀j,C8 (Nat.lor (U6 C ops bs Dq) (Nat.pow 2 l)) j=true↔C8 (U6 C ops bs Dq) j=true∨l=j:=by
  intro j;rw[M7,bw,Bool.or_eq_true,decide_eq_true_eq]
 obtain ⟨hB0,hn,hN,hdf,hle0⟩:=hS.at_
 have back:∀(j:Nat) p,ops[j]? = some p→C8 (Nat.lor (U6 C ops bs Dq) (Nat.pow 2 l)) j=true → ¬Lst (listed.setIfInBounds l true) j→C8 (U6 C ops bs Dq) j=true ∧ ¬Lst listed j∧(∀ t,t∈looks ops p→J6 env t=J6 env1 t) ∧ ∀d,p.dst=some d→J6 env d=J6 env1 d:=by
  intro j p hp hj hu
  have hul:¬Lst listed j:=fun h=>hu ((hset j).2 (.inr h))
  have hjl:j≠l:=fun h=>hu ((hset j).2 (.inl h))
  have hjD:C8 (U6 C ops bs Dq) j=true:=by
   rcases (hbit j).1 hj with h|h
   ·exact h
   ·exact absurd h.symm hjl
  refine ⟨hjD,hul,fun t ht=>?_,fun d hd=>?_⟩
  ·refine (O4 hput fun e=>?_).symm
   rcases hR.reads j p l o t hp ho hjl e ht with h1|h1
   ·have:=hS.dcl j p hp hjD l h1
    rw[hD] at this;cases this
   ·exact hul (hah j h1.1)
  ·refine (O4 hput fun e=>?_).symm
   exact hjl (hR.once j p l o d hp ho hd e)
 refine ⟨by simpa using hS.sz,fun j p hp hj=>?_,fun j p hp hk hj=>?_,fun i p hp hi j hj=>?_,fun j p hp hj k hk=>?_,⟨hB,by rw[hlen];exact hn,by rw[put_size];exact hN,by rw[mf];exact hdf,hle0.trans ⟨fun _ _ _ _ h=>h,hK⟩⟩,fun s hs=>?_,fun j p hp hj hu=>?_,fun j p hp hj hu hlay=>?_,⟨hS.act.1,fun q hq=>?_⟩,fun i p j q hp hq hi hj hu hu' hl hl' e=>?_⟩
 ·rcases (hset j).1 hj with rfl|hj
  ·exact (hbit _).2 (.inr rfl)
  ·exact (hbit _).2 (.inl (hS.sub j p hp hj))
 ·rcases (hbit j).1 hj with h|rfl
  ·exact (hset j).2 (.inr (hS.loud j p hp hk h))
  ·exact (hset _).2 (.inl rfl)
 ·rcases (hbit i).1 hi with h|rfl
  ·exact (hbit j).2 (.inl (hS.dcl i p hp h j hj))
  ·have hl:=hah j hj
   have hjlt:=hR.lt ho hj
   exact (hbit j).2 (.inl (hS.sub j _ (List.getElem?_eq_getElem (by omega)) hl))
 ·rcases (hset j).1 hj with rfl|hj
  ·exact (hset k).2 (.inr (hah k hk))
  ·exact (hset k).2 (.inr (hS.closed j p hp hj k hk))
 ·by_cases hd:o.dst=some s
  ·have:=hdn s hd
   rw[hd,ib (by rw[hN];exact this.1),this.2]
   exact hx
  ·rw[xa hd,O4 hput hd]
   refine (hS.env_ s fun j p hp hpd=>?_).mono ⟨fun _ _ _ h=>h,hK⟩
   rcases hs j p hp hpd with h|h
   ·rcases (hset j).1 h with rfl|h
    ·rw[ho] at hp;cases hp
     exact absurd hpd hd
    ·exact .inl h
   ·right
    cases hq:C8 (U6 C ops bs Dq) j with
    | false=>rfl
    | true=>rw[(hbit j).2 (.inl hq)] at h;cases h
 ·obtain ⟨hjD,hul,hlk,hds⟩:=back j p hp hj hu
  cases hS.done j p hp hjD hul with
  | quiet hk hw hd h=>
   have hw1:P3 ops env1 p=some true:=by rw[← O5 hlk];exact hw
   exact .quiet hk hw1 hd (hpend j p hp hjD hul hk hw1 h)
  | skip hw h=>exact .skip (by rw[← O5 hlk];exact hw) fun d hd=>⟨(h d hd).1,by rw[← hds d hd];exact (h d hd).2⟩
  | lays hk hw ob hob hSp h=>exact .lays hk (by rw[← O5 hlk];exact hw) ob (by rw[← av (X2 hlk)];exact hob) hSp fun d hd=>⟨(h d hd).1,by rw[← hds d hd,hlen,←bb (X2 hlk)];exact (h d hd).2⟩
 ·obtain ⟨hjD,hul,hlk,hds⟩:=back j p hp hj hu
  rw[hlen]
  exact hS.lays j p hp hjD hul (hlay.congr fun t ht=>(hlk t ht).symm)
 ·rcases hS.act.2 q hq with h|⟨j,p,hp,hj,hu,hlay,hpos⟩
  ·exact .inl h
  ·have hjl:j≠l:=fun e=>by subst e;rw[hD] at hj;cases hj
   have hul:¬Lst (listed.setIfInBounds l true) j:=fun h=>by
    rcases (hset j).1 h with h|h
    ·exact hjl h
    ·exact hu h
   obtain ⟨_,_,hlk,_⟩:=back j p hp ((hbit j).2 (.inl hj)) hul
   exact .inr ⟨j,p,hp,(hbit j).2 (.inl hj),hul,hlay.congr hlk,hpos⟩
 ·obtain ⟨a1,a2,a3,_⟩:=back i p hp hi hu
  obtain ⟨b1,b2,b3,_⟩:=back j q hq hj hu'
  exact hS.inj i p j q hp hq a1 b1 a2 b2 (hl.congr fun t ht=>(a3 t ht).symm) (hl'.congr fun t ht=>(b3 t ht).symm) e
theorem lk{C:Ctx}{i bi:Nat}:∀{j:Nat} {r:List Oper} {br:List Nat},r.length=br.length→ng C i bi j r br=false → ∀(k:Nat) p,r[k]? = some p→F7 C p=2→C8 bi (j+k)=true∨C8 (U7 br k) i=true
 | j,[],br,_,_,k,p,hp,_=>by simp at hp
 | j,q::r,[],hl,_,k,p,hp,_=>by simp at hl
 | j,q::r,b::br,hl,h,k,p,hp,hk=>by
  unfold ng at h
  split at h
  ·cases h
  ·rename_i hc
   cases k with
   | zero=>
    simp at hp;subst hp
    rw[hk] at hc
    rw[show Nat.beq 2 2=true from rfl] at hc
    simp only[Bool.true_and,Bool.and_eq_false_iff,Bool.not_eq_false'] at hc
    simpa[U7] using hc
   | succ k=>
    have:=lk (by simpa using hl) h k p (by simpa using hp) hk
    rw[show j+1+k=j+(k+1) by omega] at this
    simpa[U7] using this
theorem soft_sound{C:Ctx}(hC:Z5 C){m:Mp}{K:KS}{σ Sact:A1}{w:World}(hB:C5 C m K (σ++Sact) w){e:Operand→AV}{ρ:Operand→Value}(he:∀x,C7 m K (e x) (ρ x)){o:Oper}(hs:softOp o=true)
  (hp:∀t a x,o.op = .store t a x→ptrB (e a)=true) {k:AV→A1→Prop} (h:opK C o e σ k):
  ∃v σ' x w',k v σ'∧σ'.length=σ.length∧C5 C m K (σ'++Sact) w'∧C7 m K v x∧((execOp ρ o).run C.P w = .ok (.value x) w'∨((execOp ρ o).run C.P w = .ok .skip w'∧x=undef)):=by
 have hT:=hC.tab
 unfold softOp at hs
 split at hs
 ·rename_i t a x ho
  have hcall:jz o=false:=by unfold jz;rw[ho]
  unfold opK at h
  rw[hcall] at h
  unfold Q3 at h
  rw[ho] at h
  simp only at h
  obtain ⟨ti,hti,h⟩:=C4 h
  obtain ⟨σ',hst,h⟩:=C4 h
  have hpa:=hp t a x ho
  have hxa:=he a
  have hya:=he x
  obtain ⟨id,off,hea⟩:∃id off,e a = .ptr id off:=by
   cases hq:e a with
   | ptr id off=>exact ⟨id,off,rfl⟩
   | _=>rw[hq] at hpa;cases hpa
  rw[hea] at hst hxa
  unfold C2 at hst
  simp only at hst
  split at hst
  ·rename_i hc
   obtain ⟨hsz,h1⟩:=hc
   have hcr:=iv hya h1
   split at hst
   ·rename_i ty cs hid
    split at hst
    ·rename_i hle
     cases hst
     obtain ⟨b,cap,es,hρ,hm⟩:∃b cap es,ρ a = .pointer (some ⟨b,off,none⟩)∧m id 0=some (.at b cap es):=by
      revert hxa
      generalize ρ a=va
      intro hxa
      cases hxa with|ptr _ _ b cap es hm=>exact ⟨b,cap,es,rfl,hm⟩
     have hlt:=(List.getElem?_eq_some_iff.1 hid).1
     have hid':(σ++Sact)[id]? = some (.cells ty cs):=by rw[List.getElem?_append_left hlt];exact hid
     obtain ⟨w',hrun,hB'⟩:=hB.store_cells hid' hm off (e x).cells (ρ x).cells.toList hle (by simpa using hcr.1) (fun j a u ha hu=>hcr.2 j a u ha (by simpa using hu))
     refine ⟨_,_,undef,w',h,by simp,?_,.dead _,.inr ⟨?_,rfl⟩⟩
     ·rw[List.set_append_left _ _ hlt] at hB'
      exact hB'
     ·have hcz:(ρ x).cells.size=ti.size:=by rw[← hcr.1];exact hsz
      simp_all [execOp,Instr.storeAt,Instr.sureAddr,storeVar,R3 (hT _ _ hti)]
    ·cases hst
   ·cases hst
  ·cases hst
 ·rename_i x ho
  have hcall:jz o=false:=by unfold jz;rw[ho]
  unfold opK at h
  rw[hcall] at h
  unfold Q3 at h
  rw[ho] at h
  exact ⟨_,_,ρ x,w,h,rfl,hB,he x,.inl (by simp[execOp,ho])⟩
 ·cases hs
theorem mw{C:Ctx}{ops:List Oper}{b done:Nat}{env:Env}{σ:A1}{k:Prop}:∀(i:Nat) (r:List Oper),uh C ops b done env σ i r k→k ∧ ∀(j:Nat) p,r[j]? = some p→C8 done (i+j)=true→F7 C p=1→C8 b (i+j)=false→P3 ops env p=some true →
   Q3 C p (ev C env) σ fun v _=>∀d,p.dst=some d→v=J6 env d
 | i,[],h=>⟨h,fun j p hp=>by simp at hp⟩
 | i,o::r,h=>by
  simp only[uh] at h
  split at h
  ·rename_i hc
   obtain ⟨h1,h2⟩:=mw (i+1) r h.2
   refine ⟨h1,fun j p hp hd hk hb hw=>?_⟩
   cases j with
   | zero=>
    simp at hp;subst hp
    have:=h.1
    rw[hw] at this
    simp only at this
    refine V2 this fun v σ' hv _ d hd=>?_
    rw[hd] at hv
    exact hv
   | succ j=>exact h2 j p (by simpa using hp) (by rw[show i+1+j=i+(j+1) by omega];exact hd) hk (by rw[show i+1+j=i+(j+1) by omega];exact hb) hw
  ·rename_i hc
   obtain ⟨h1,h2⟩:=mw (i+1) r h
   refine ⟨h1,fun j p hp hd hk hb hw=>?_⟩
   cases j with
   | zero=>
    simp at hp;subst hp
    rw[Nat.add_zero] at hd hb
    rw[hd,hb,hk] at hc
    simp at hc
   | succ j=>exact h2 j p (by simpa using hp) (by rw[show i+1+j=i+(j+1) by omega];exact hd) hk (by rw[show i+1+j=i+(j+1) by omega];exact hb) hw
theorem grown_app(σ S:A1):tz σ (nu σ S):=by
 intro id x h
 unfold nu
 cases S with
 | nil=>exact h
 | cons y r=>simp only;rw[List.getElem?_append_left (List.getElem?_eq_some_iff.1 h).1];exact h
theorem least{P:Nat→Prop}{n:Nat}(h:P n):∃u,P u ∧ ∀v,v<u → ¬P v:=by
 induction n using Nat.strongRecOn with
 | _ n ih=>
  by_cases hq:∃v,v<n∧P v
  ·obtain ⟨v,hv,hp⟩:=hq
   exact ih v hv hp
  ·exact ⟨n,h,fun v hv hp=>hq ⟨v,hv,hp⟩⟩
theorem am{C:Ctx}(hC:Z5 C){N n:Nat}{ops:Array Oper}{bs:List Nat}(hR:Rg C ops.toList bs)(hbl:bs.length=ops.toList.length){m0:Mp}{K0:KS}{Q:Exit→Env→A1→Prop}:∀(fuelA:Nat) (listed:Array Bool) (U:List Nat) (Dq:Nat) (env:Env) (σ:A1) (S Sact:List M1) (pos:Nat→Nat) (m:Mp) (K:KS) (a:Act) (w:World) (fuel:Nat),
  St C N n ops.toList bs m0 K0 listed Dq env σ S Sact pos m K a w→Cont C N ops.toList bs (Q .normal) fuel Dq env σ S→U.Nodup→(∀ i,i∈U↔i<ops.toList.length ∧ ¬Lst listed i)→U.length=fuelA →
   wpAny C.P .any ops (ma C N n m0 K0 Q) fuelA listed a w
 | 0,listed,U,Dq,env,σ,S,Sact,pos,m,K,a,w,fuel,hS,hc,hnd,hU,hlen=>by
  have hU0:U = []:=List.eq_nil_of_length_eq_zero hlen
  subst hU0
  have hall:∀i,i<ops.toList.length→Lst listed i:=fun i hi=>Classical.byContradiction fun h=>by have:=(hU i).2 ⟨hi,h⟩;simp at this
  refine ⟨?_,?_⟩
  ·cases hr:Region.ready .any ops listed with
   | nil=>rfl
   | cons j r=>
    have hj:j∈Region.ready .any ops listed:=by rw[hr];simp
    obtain ⟨h0,o,ho,_⟩:=mem_ready.1 hj
    have:=hall j (by have:=(Array.getElem?_eq_some_iff.1 ho).1;simpa using this)
    unfold Lst at this
    rw[h0] at this;cases this
  ·have hfull:=hS.full (fun j o ho hj hu=>absurd (hall j (List.getElem?_eq_some_iff.1 ho).1) hu)
   obtain ⟨hB,hn,hN,hdf,hle⟩:=hS.at_
   unfold Cont at hc
   split at hc
   ·refine ⟨env,nu σ S,m,K,by rw[← hfull];exact hB,by rw[← hfull];simp;omega,hN,fun t=>?_,hdf,hle,hc⟩
    exact hS.env_ t fun j o ho _=>.inl (hall j (List.getElem?_eq_some_iff.1 ho).1)
   ·rename_i i o b hnl
    exfalso
    obtain ⟨k,h1,h2,h3,h4,h5,h6⟩:=ia hnl
    have hi:i=k:=by omega
    subst hi
    have:=hS.sub i o h2 (hall i (List.getElem?_eq_some_iff.1 h2).1)
    have hrk:C8 (U6 C ops.toList bs Dq) i=true:=this
    unfold U6 at hrk
    rw[M7,Bool.or_eq_true,dc] at hrk
    rcases hrk with h|⟨p,hp⟩
    ·rw[h4] at h;cases h
    ·obtain ⟨k',q,e,hq,_,hk3,_⟩:=(V0 _ _ 0 hbl.symm _).1 hp
     simp only[Nat.zero_add,Prod.mk.injEq] at e
     obtain ⟨rfl,rfl⟩:=e
     rw[h2] at hq;cases hq
     exact hk3 h5
 | fuelA+1,listed,U,Dq,env,σ,S,Sact,pos,m,K,a,w,fuel,hS,hc,hnd,hU,hlen=>by
  have hloudD:∀(i:Nat) o,ops.toList[i]? = some o→F7 C o=3→C8 (U6 C ops.toList bs Dq) i=true→C8 Dq i=true:=by
   intro i o ho hk hrk
   unfold U6 at hrk
   rw[M7,Bool.or_eq_true,dc] at hrk
   rcases hrk with h|⟨p,hp⟩
   ·exact h
   ·obtain ⟨k',q,e,hq,_,hk3,_⟩:=(V0 _ _ 0 hbl.symm _).1 hp
    simp only[Nat.zero_add,Prod.mk.injEq] at e
    obtain ⟨rfl,rfl⟩:=e
    rw[ho] at hq;cases hq
    exact absurd hk hk3
  have hDr:∀i,C8 Dq i=true→C8 (U6 C ops.toList bs Dq) i=true:=by
   intro i h
   unfold U6
   rw[M7,h];rfl
  refine ⟨fun hnone=>?_,fun i hi=>?_⟩
  ·-- something is left: the least is ready
   exfalso
   cases U with
   | nil=>simp at hlen
   | cons u r=>
    have hu:=(hU u).1 (by simp)
    obtain ⟨v,hv,hmin⟩:=least (P:=fun v=>v<ops.toList.length ∧ ¬Lst listed v) hu
    have ho:ops.toList[v]? = some ops.toList[v]:=List.getElem?_eq_getElem hv.1
    have:v∈Region.ready .any ops listed:=by
     refine mem_ready.2 ⟨?_,ops.toList[v],by simp,fun e he hb=>?_⟩
     ·have:=hv.2
      unfold Lst at this
      simpa using this
     ·rw[binds_any] at hb
      have hlt:=hR.edges v _ ho e (by simpa using he) hb
      have hl:Lst listed e.on:=Classical.byContradiction fun h=>hmin e.on hlt ⟨by omega,h⟩
      unfold Lst at hl
      have hin:e.on<listed.size:=by rw[hS.sz];omega
      rw[Array.getD_eq_getD_getElem?] at *
      rw[Array.getElem?_eq_getElem hin] at *
      simpa using hl
    rw[hnone] at this;simp at this
  ·obtain ⟨h0,o,ho,hall⟩:=mem_ready.1 hi
   have hol:ops.toList[i]? = some o:=by simpa using ho
   have hu:¬Lst listed i:=by unfold Lst;rw[h0];simp
   have hah:∀j,C8 (U7 bs i) j=true→Lst listed j:=hS.ahead hR hol fun e he hb=>lst_of (hall e (by simpa using he) (by rw[binds_any];exact hb))
   have hslots:=hS.slots hR hol hah hu
   obtain ⟨hB,hn,hN,hdf,hle⟩:=hS.at_
   obtain ⟨e',hsame,he'⟩:=known hB (ts:=looks ops.toList o) hslots
   have hsame':nr (I7 o.op) (ev C env) e':=⟨fun t ht=>hsame.tmp t (by unfold looks;exact List.mem_append_left _ ht),hsame.other⟩
   have hgd:∀t,t∈lm ops.toList o→C7 m K (J6 env t) (a.tmps.getD t undef):=fun t ht=>hslots t (by unfold looks;exact List.mem_append_right _ ht)
   have hil:i<ops.toList.length:=(List.getElem?_eq_some_iff.1 hol).1
   have hset:∀j,Lst (listed.setIfInBounds i true) j↔j=i∨Lst listed j:=fun j=>vm (by rw[hS.sz];exact hil)
   have hU':∀j,j∈U.erase i↔j<ops.toList.length ∧ ¬Lst (listed.setIfInBounds i true) j:=by
    intro j
    rw[hnd.mem_erase_iff,hU,hset]
    constructor
    ·rintro ⟨h1,h2,h3⟩
     exact ⟨h2,fun h=>h.elim h1 h3⟩
    ·rintro ⟨h1,h2⟩
     exact ⟨fun h=>h2 (.inl h),h1,fun h=>h2 (.inr h)⟩
   have hnd':(U.erase i).Nodup:=hnd.erase i
   have hlen':(U.erase i).length=fuelA:=by
    rw[List.length_erase_of_mem ((hU i).2 ⟨hil,hu⟩),hlen];omega
   have go:∀{Sact' m' w' v},St C N n ops.toList bs m0 K0 (listed.setIfInBounds i true) Dq env σ S Sact' pos m' K (a.put o.dst v) w'→wpAny C.P .any ops (ma C N n m0 K0 Q) fuelA (listed.setIfInBounds i true) (a.put o.dst v) w':=
    fun h=>am hC hR hbl fuelA _ (U.erase i) Dq env σ S _ pos _ K _ _ fuel h hc hnd' hU' hlen'
   unfold wpOp
   simp only[ho]
   by_cases hk:F7 C o=3
   ·-- the loud one whose turn it is
    have hDi:C8 (U6 C ops.toList bs Dq) i=false:=by
     cases hq:C8 (U6 C ops.toList bs Dq) i with
     | false=>rfl
     | true=>exact absurd (hS.loud i o hol hk hq) hu
    unfold Cont at hc
    split at hc
    ·rename_i hnl
     have:=ny hbl.symm hnl i o hol hk
     rw[Nat.zero_add] at this
     rw[hDr i this] at hDi;cases hDi
    ·rename_i l o2 b hnl
     obtain ⟨kk,g1,g2,g3,g4,g5,g6⟩:=ia hnl
     have e1:l=kk:=by omega
     subst e1
     have eil:i=l:=by
      rcases Nat.lt_trichotomy i l with h|h|h
      ·have:=g6 i h o hol hk
       rw[Nat.zero_add] at this
       rw[hDr i this] at hDi;cases hDi
      ·exact h
      ·exfalso
       have hlu:¬Lst listed l:=by
        intro hl
        have:=hloudD l o2 g2 g5 (hS.sub l o2 g2 hl)
        rw[g4] at this;cases this
       rcases hR.loud i o l o2 hol g2 (by omega) hk (by rw[g5];omega) with h1|h1|h1
       ·exact hlu (hah l h1)
       ·have:=hR.lt g2 h1;omega
       ·have:=h1.2;omega
     subst eil
     rw[hol] at g2;cases g2
     cases hsf:softB C ops.toList bs i o b with
     | true=>
      rw[hsf] at hc
      simp only at hc
      have hlook0:∀{env1:Env},((o.dst=none∧env1=env) ∨ ∃d v,o.dst=some d∧env1=kz env d v) → ∀(j:Nat) p,ops.toList[j]? = some p→C8 (U6 C ops.toList bs Dq) j=true → ¬Lst listed j→(∀ t,t∈looks ops.toList p→J6 env t=J6 env1 t) ∧ ∀d,p.dst=some d→J6 env d=J6 env1 d:=by
       intro env1 hput j p hp hj huj
       have hne:∀{s:Nat},o.dst≠some s→J6 env1 s=J6 env s:=by
        intro s hs
        rcases hput with h|⟨d,v,h1,h2⟩
        ·exact O4 (v:=.dead) (.inl h) hs
        ·exact O4 (.inr ⟨d,h1,h2⟩) hs
       have hji:j≠i:=by
        intro e;subst e
        rw[hDi] at hj;cases hj
       refine ⟨fun t ht=>(hne fun e=>?_).symm,fun d hd=>(hne fun e=>hji (hR.once j p i o d hp hol hd e)).symm⟩
       rcases hR.reads j p i o t hp hol hji e ht with h1|h1
       ·have:=hS.dcl j p hp hj i h1
        rw[hDi] at this;cases this
       ·exact huj (hah j h1.1)
      unfold psoft at hc
      split at hc
      ·rename_i hcl
       have hsop:softOp o=true:=by
        unfold softB at hsf
        rw[Bool.and_eq_true] at hsf
        have:=hsf.1
        unfold softO at this
        rw[hcl,Bool.or_false] at this
        exact this
       obtain ⟨hsa,hc⟩:=softK_iff.1 hc
       unfold wc at hc
       have hlook:∀{env1:Env} {v:AV},((o.dst=none∧env1=env) ∨ ∃d,o.dst=some d∧env1=kz env d v) → ∀(j:Nat) p,ops.toList[j]? = some p→C8 (U6 C ops.toList bs Dq) j=true → ¬Lst listed j→(∀ t,t∈looks ops.toList p→J6 env t=J6 env1 t) ∧ ∀d,p.dst=some d→J6 env d=J6 env1 d:=by
        intro env1 v hput j p hp hj huj
        have hji:j≠i:=by
         intro e;subst e
         rw[hDi] at hj;cases hj
        refine ⟨fun t ht=>(O4 hput fun e=>?_).symm,fun d hd=>(O4 hput fun e=>hji (hR.once j p i o d hp hol hd e)).symm⟩
        rcases hR.reads j p i o t hp hol hji e ht with h1|h1
        ·have:=hS.dcl j p hp hj i h1
         rw[hDi] at this;cases this
        ·exact huj (hah j h1.1)
       split at hc
       ·rename_i hw
        rw[V9 hgd hw]
        simp only[if_true]
        left
        unfold pop at hc
        have hst:∀t x1 x2,o.op = .store t x1 x2→ptrB (e' x1)=true:=by
         intro t x1 x2 he2
         unfold softAt at hsa
         rw[he2] at hsa
         simp only at hsa
         rw[← hsame'.op (x:=x1) (fun t ht=>by rw[he2];simp[I7,ht])]
         exact hsa
        obtain ⟨v,σ',x,w',hkk,hlen1,hB',hx,hrun⟩:=soft_sound hC hB he' hsop hst (opK_congr hsame' hc)
        obtain ⟨env1,hstt,hput,hdn⟩:=bh (cv (df hkk))
        obtain ⟨hrounds,hstay⟩:=mw 0 ops.toList hstt
        have hpre:=hS.soft hR hol hah hDi (fun _ _ _ h=>h) hlen1 hB' hx hput hdn (fun j p hp hj huj hkj hwj hq=>by
         obtain ⟨hlk,hds⟩:=hlook hput j p hp hj huj
         rcases hkj with hkj|hkj
         ·have q1:=U5 (X2 hlk) hq
          have q2:=ka (σ':=σ') (.inl hkj) (.inl hkj) q1
          exact V2 q2 fun v _ hv _ d hd=>by rw[← hds d hd];exact hv.1 d hd
         ·refine hstay j p hp (by rw[Nat.zero_add];exact hj) hkj ?_ hwj
          rw[Nat.zero_add]
          cases hb:C8 b j with
          | false=>rfl
          | true=>rw[g3] at hb;exact absurd (hah j hb) huj)
        obtain ⟨env2,S2,Sact2,pos2,fuel2,hS2,hc2⟩:=hpre.enter hR hbl hrounds
        have fin:=am hC hR hbl fuelA _ (U.erase i) _ env2 σ' S2 Sact2 pos2 m K _ w' fuel2 hS2 hc2 hnd' hU' hlen'
        unfold Oper.wp
        rcases hrun with hr|⟨hr,rfl⟩
        ·rw[hr];exact fin
        ·rw[hr];exact fin
       ·rename_i hw
        rw[V9 hgd hw]
        simp only[Bool.false_eq_true,if_false]
        obtain ⟨env1,hrounds,hput,hdn⟩:=bh hc
        have hpre:=hS.soft hR hol hah hDi (fun _ _ _ h=>h) rfl hB jk hput hdn (fun j p hp hj huj hkj hwj hq=>by
         obtain ⟨hlk,hds⟩:=hlook hput j p hp hj huj
         have q1:=U5 (X2 hlk) hq
         exact V2 q1 fun v _ hv _ d hd=>by rw[← hds d hd];exact hv d hd)
        obtain ⟨env2,S2,Sact2,pos2,fuel2,hS2,hc2⟩:=hpre.enter hR hbl hrounds
        exact am hC hR hbl fuelA _ (U.erase i) _ env2 _ S2 Sact2 pos2 m K _ w fuel2 hS2 hc2 hnd' hU' hlen'
       ·exact hc.elim
      ·-- a call beside what is laid
       split at hc
       ·rename_i hw
        rw[V9 hgd hw]
        simp only[if_true]
        left
        obtain ⟨p,hp,hpa,P,hP,hkp⟩:=C4 hc
        rw[calleeOf_congr hsame'] at hp
        obtain ⟨us,hus,hrun⟩:=callee_run he' hp
        refine ww (hrun C.P w) ((A2.beside hC.glob hB hus hpa hP).mono fun v w' hR'=>?_)
        obtain ⟨r,K',hB',hK,hx,hPr⟩:=hR'
        obtain ⟨env1,hrounds,hput,hdn⟩:=bh (cv (df (hkp r hPr)))
        have hput0:(o.dst=none∧env1=env) ∨ ∃d v,o.dst=some d∧env1=kz env d v:=by
         rcases hput with h|⟨d,h1,h2⟩
         ·exact .inl h
         ·exact .inr ⟨d,_,h1,h2⟩
        have hpre:=hS.soft hR hol hah hDi hK rfl hB' hx hput hdn (fun j p hp hj huj hkj hwj hq=>by
         obtain ⟨hlk,hds⟩:=hlook0 hput0 j p hp hj huj
         have q1:=U5 (X2 hlk) hq
         exact V2 q1 fun v _ hv _ d hd=>by rw[← hds d hd];exact hv d hd)
        obtain ⟨env2,S2,Sact2,pos2,fuel2,hS2,hc2⟩:=hpre.enter hR hbl hrounds
        exact am hC hR hbl fuelA _ (U.erase i) _ env2 _ S2 Sact2 pos2 m K' _ w' fuel2 hS2 hc2 hnd' hU' hlen'
       ·rename_i hw
        rw[V9 hgd hw]
        simp only[Bool.false_eq_true,if_false]
        obtain ⟨env1,hrounds,hput,hdn⟩:=bh hc
        have hput0:(o.dst=none∧env1=env) ∨ ∃d v,o.dst=some d∧env1=kz env d v:=by
         rcases hput with h|⟨d,h1,h2⟩
         ·exact .inl h
         ·exact .inr ⟨d,_,h1,h2⟩
        have hpre:=hS.soft hR hol hah hDi (fun _ _ _ h=>h) rfl hB jk hput hdn (fun j p hp hj huj hkj hwj hq=>by
         obtain ⟨hlk,hds⟩:=hlook0 hput0 j p hp hj huj
         have q1:=U5 (X2 hlk) hq
         exact V2 q1 fun v _ hv _ d hd=>by rw[← hds d hd];exact hv d hd)
        obtain ⟨env2,S2,Sact2,pos2,fuel2,hS2,hc2⟩:=hpre.enter hR hbl hrounds
        exact am hC hR hbl fuelA _ (U.erase i) _ env2 _ S2 Sact2 pos2 m K _ w fuel2 hS2 hc2 hnd' hU' hlen'
       ·exact hc.elim
     | false=>
      rw[hsf] at hc
      simp only at hc
      have hno:∀(j:Nat) p,ops.toList[j]? = some p→C8 (U6 C ops.toList bs Dq) j=true → ¬Lst listed j → ¬Lays C ops.toList env p:=by
       intro j p hp hj huj hlay
       have hji:i≠j:=by
        intro e;subst e
        rw[hDi] at hj;cases hj
       rcases hR.loud i o j p hol hp hji hk (by rw[hlay.1];omega) with h1|h1|h1
       ·exact huj (hah j h1)
       ·have:=hS.dcl j p hp hj i h1
        rw[hDi] at this;cases this
       ·unfold softB at hsf
        rw[h1.1,Bool.true_and] at hsf
        rcases lk hbl.symm hsf j p hp h1.2 with h2|h2
        ·rw[Nat.zero_add,g3] at h2
         exact huj (hah j h2)
        ·have:=hS.dcl j p hp hj i h2
         rw[hDi] at this;cases this
      have hfull:=hS.full hno
      have hB':C5 C m K (nu σ S) w:=by rw[← hfull];exact hB
      unfold wc at hc
      split at hc
      ·rename_i hw
       rw[V9 hgd hw]
       simp only[if_true]
       left
       unfold pop at hc
       refine op_sound hC hB' he' (opK_congr hsame' hc) ?_
       intro v σ' m' K' w' x hkk h1 h2 h3 h4
       obtain ⟨env1,hst,hput,hdn⟩:=bh (cv (df hkk))
       obtain ⟨hrounds,hstay⟩:=mw 0 ops.toList hst
       have hpre:=hS.next hR hol hah hDi hno h1 h2 h3 h4 hput hdn (fun j p hp hj huj hkj hwj hq=>by
        rcases hkj with hkj|hkj
        ·-- its operands alone
         have hji:j≠i:=by
          intro e;subst e
          rw[hDi] at hj;cases hj
         have hlk:∀t,t∈looks ops.toList p→J6 env t=J6 env1 t:=by
          intro t ht
          refine (O4 hput fun e=>?_).symm
          rcases hR.reads j p i o t hp hol hji e ht with h1|h1
          ·have:=hS.dcl j p hp hj i h1
           rw[hDi] at this;cases this
          ·exact huj (hah j h1.1)
         have hds:∀d,p.dst=some d→J6 env d=J6 env1 d:=by
          intro d hd
          refine (O4 hput fun e=>?_).symm
          exact hji (hR.once j p i o d hp hol hd e)
         have q1:=U5 (X2 hlk) hq
         have q2:=ka (σ':=σ') (.inl hkj) (.inl hkj) q1
         exact V2 q2 fun v _ hv _ d hd=>by rw[← hds d hd];exact hv.1 d hd
        ·refine hstay j p hp (by rw[Nat.zero_add];exact hj) hkj ?_ hwj
         rw[Nat.zero_add]
         cases hb:C8 b j with
         | false=>rfl
         | true=>rw[g3] at hb;exact absurd (hah j hb) huj)
       obtain ⟨env2,S2,Sact2,pos2,fuel2,hS2,hc2⟩:=hpre.enter hR hbl hrounds
       exact am hC hR hbl fuelA _ (U.erase i) _ env2 σ' S2 Sact2 pos2 m' K' _ w' fuel2 hS2 hc2 hnd' hU' hlen'
      ·rename_i hw
       rw[V9 hgd hw]
       simp only[Bool.false_eq_true,if_false]
       obtain ⟨env1,hrounds,hput,hdn⟩:=bh hc
       have hpre:=hS.next hR hol hah hDi hno hB' (Nat.le_refl _) (Le.refl _ _ _) jk hput hdn (fun j p hp hj huj hkj hwj hq=>by
        have hji:j≠i:=by
         intro e;subst e
         rw[hDi] at hj;cases hj
        have hlk:∀t,t∈looks ops.toList p→J6 env t=J6 env1 t:=by
         intro t ht
         refine (O4 hput fun e=>?_).symm
         rcases hR.reads j p i o t hp hol hji e ht with h1|h1
         ·have:=hS.dcl j p hp hj i h1
          rw[hDi] at this;cases this
         ·exact huj (hah j h1.1)
        have hds:∀d,p.dst=some d→J6 env d=J6 env1 d:=by
         intro d hd
         refine (O4 hput fun e=>?_).symm
         exact hji (hR.once j p i o d hp hol hd e)
        have q1:=U5 (X2 hlk) hq
        have q2:=ka (σ':=nu σ S) hkj (.inr (grown_app σ S)) q1
        exact V2 q2 fun v _ hv _ d hd=>by rw[← hds d hd];exact hv.1 d hd)
       obtain ⟨env2,S2,Sact2,pos2,fuel2,hS2,hc2⟩:=hpre.enter hR hbl hrounds
       exact am hC hR hbl fuelA _ (U.erase i) _ env2 _ S2 Sact2 pos2 m K _ w fuel2 hS2 hc2 hnd' hU' hlen'
      ·exact hc.elim
   ·-- a quiet one,that is reckoned
    have hDi:C8 (U6 C ops.toList bs Dq) i=true:=by
     unfold U6
     rw[M7,Bool.or_eq_true,dc]
     by_cases hq:C8 Dq i=true
     ·exact .inl hq
     ·right
      refine ⟨o,(V0 _ _ 0 hbl.symm _).2 ⟨i,o,by simp,hol,by simpa using hq,hk,fun j hj hlj=>?_⟩⟩
      obtain ⟨k',p,e,hp,hkp⟩:=(ie ops.toList 0 j).1 hlj
      have:j=k':=by omega
      subst this
      exact hloudD j p hp hkp (hS.sub j p hp (hah j hj))
    have hdone:=hS.done i o hol hDi hu
    cases hdone with
    | quiet hkk hw hd h=>
     rw[V9 hgd hw]
     simp only[if_true]
     left
     have hgr:tz σ (σ++Sact):=fun id x h=>by rw[List.getElem?_append_left (List.getElem?_eq_some_iff.1 h).1];exact h
     have q1:=U5 hsame' h
     have q2:=ka (σ':=σ++Sact) hkk (.inr hgr) q1
     obtain ⟨v,x,hv,hrun,hrep⟩:=quiet_sound hC hB he' (P:=fun v=>∀d,o.dst=some d→v=J6 env d) hkk (V2 q2 fun v _ hv _=>hv.1)
     unfold Oper.wp
     rw[hrun]
     show wpAny _ _ _ _ _ _ (a.put o.dst x) w
     refine go (hS.quiet hR hol hah hDi hu hB (Ext.refl _ _) (.inl ⟨rfl,rfl,fun h=>by have:=h.1;omega⟩) fun d hd'=>⟨hd d hd',?_⟩)
     rw[← hv d hd']
     exact hrep
    | skip hw h=>
     rw[V9 hgd hw]
     simp only[Bool.false_eq_true,if_false]
     refine go (hS.quiet hR hol hah hDi hu hB (Ext.refl _ _) (.inl ⟨rfl,rfl,fun h=>by have:=h.2;rw[hw] at this;cases this⟩) fun d hd'=>⟨(h d hd').1,?_⟩)
     rw[(h d hd').2]
     exact jk
    | lays hk2 hw ob hob hSp h=>
     rw[V9 hgd hw]
     simp only[if_true]
     left
     obtain ⟨p1,p2,p3⟩:=hS.lays i o hol hDi hu ⟨hk2,hw⟩
     have hobe:az C o e'=some ob:=by rw[← av hsame'];exact hob
     obtain ⟨x,w',m',hrun,hB',hx,hrep,hoth⟩:=alloc_sound hC hB he' hk2 hobe (p:=σ.length+pos i) (by rw[List.length_append,hS.act.1];omega) (by rw[List.getElem?_append_right (by omega)];simpa using p2) p3
     have e1:(σ++Sact).set (σ.length+pos i) ob=σ++Sact.set (pos i) ob:=by
      rw[List.set_append_right _ _ (by omega)]
      congr 2;omega
     rw[e1] at hB'
     unfold Oper.wp
     rw[hrun]
     show wpAny _ _ _ _ _ _ (a.put o.dst x) w'
     refine go (hS.quiet hR hol hah hDi hu hB' hx (.inr ⟨ob,⟨hk2,hw⟩,hSp,rfl,hoth⟩) fun d hd'=>⟨(h d hd').1,?_⟩)
     rw[(h d hd').2,bb hsame']
     exact hrep
theorem draw_sound{C:Ctx}(hC:Z5 C)(hm:C.P.follows .mixedOrders=true){N n id:Nat}{ops:Array Oper}{env:Env}{σ:A1}{Q:Exit→Env→A1→Prop}(h:pdraw C N ops.toList env σ (Q .normal)):Swp C N n (.region id ops true) env σ Q:=by
 unfold pdraw at h
 split at h
 ·rename_i bs hb
  split at h
  ·rename_i hok
   simp only[Bool.and_eq_true] at hok
   obtain ⟨hR,hbl⟩:=Rg.of hb hok.2
   refine At.swp fun m0 K0 m K a w hA=>wp_region_any hm ?_
   have hnl:∀i,i<ops.size → ¬Lst (Array.replicate ops.size false) i:=by
    intro i hi h
    unfold Lst at h
    rw[Array.getD_eq_getD_getElem?,Array.getElem?_replicate,if_pos hi] at h
    simp at h
   have hpre:StD C N n ops.toList bs m0 K0 (Array.replicate ops.size false) 0 env σ [] [] (fun _=>0) m K a { w with drawn:=w.drawn+1 }:=by
    refine ⟨by simp,fun j o ho hl=>absurd hl (hnl j (by have:=(List.getElem?_eq_some_iff.1 ho).1;simpa using this)),fun j o ho hk hj=>(by rw[V4] at hj;cases hj),fun i o ho hi=>(by rw[V4] at hi;cases hi),
     fun i o ho hl=>absurd hl (hnl i (by have:=(List.getElem?_eq_some_iff.1 ho).1;simpa using this)),⟨by rw[List.append_nil];exact hA.bears.of_heap rfl rfl rfl rfl,hA.len,hA.size,hA.defers,hA.le⟩,fun s _=>hA.reps s,fun j o ho hj=>(by rw[V4] at hj;cases hj),fun j o ho hj=>(by rw[V4] at hj;cases hj),⟨rfl,fun q hq=>by simp at hq⟩,fun i o j p ho hp hi=>(by rw[V4] at hi;cases hi)⟩
   obtain ⟨env2,S2,Sact2,pos2,fuel2,hS2,hc2⟩:=hpre.enter hR hbl h
   refine am hC hR hbl ops.size _ (List.range ops.size) 0 env2 σ S2 Sact2 pos2 m K a _ fuel2 hS2 hc2 List.nodup_range (fun i=>?_) (by simp)
   rw[List.mem_range]
   constructor
   ·intro hi;exact ⟨by simpa using hi,hnl i hi⟩
   ·intro hi;simpa using hi.1
  ·exact h.elim
 ·exact h.elim
end
section
open Go Go.RowKit
theorem Swp.mono{C:Ctx}{N n:Nat}{c:Code}{env:Env}{σ:A1}{Q Q':Exit→Env→A1→Prop}(h:Swp C N n c env σ Q)(hq:∀e env σ,Q e env σ→Q' e env σ):Swp C N n c env σ Q':=by
 refine At.swp fun m0 K0 m K a w hA=>wp_mono (h.at hA) fun e a' w' hp=>?_
 obtain ⟨env',σ',m',K',hA',hq'⟩:=hp.at
 exact hA'.post (hq _ _ _ hq')
theorem Y6{C:Ctx}(hC:Z5 C){N:Nat}{L:Nat→List Nat}{n:Nat}:∀(c:Code) (k:Nat) (env:Env) (σ:A1) (Q:Exit→Env→A1→Prop),V7 C N L n c k env σ Q→Swp C N n c env σ Q
 | .skip,k,env,σ,Q,h=>At.swp fun m0 K0 m K a w hA=>wp_skip (hA.post h)
 | .label l,k,env,σ,Q,h=>At.swp fun m0 K0 m K a w hA=>wp_label (hA.post h)
 | .region id ops draw,k,env,σ,Q,h=>by
  cases draw with
  | true=>exact draw_sound hC hC.mixed h
  | false=>exact region_sound hC h
 | .seq a b,k,env,σ,Q,h=>by
  refine seq_sound (l:=L (k+1+W2 a)) ((Y6 hC a (k+1) env σ _ h).mono fun e env σ hq=>?_)
  cases e with
  | normal=>exact Y6 hC b _ _ _ _ hq
  | _=>exact hq
 | .cond c t f,k,env,σ,Q,h=>by
  obtain ⟨b,hb,h⟩:=iy h
  refine cond_sound hb ?_
  cases b with
  | true=>exact Y6 hC t _ _ _ _ h
  | false=>exact Y6 hC f _ _ _ _ h
 | .block id c,k,env,σ,Q,h=>block_sound (Y6 hC c _ _ _ _ h)
 | .loop c,k,env,σ,Q,h=>loop_sound h
 | .exit id,k,env,σ,Q,h=>At.swp fun m0 K0 m K a w hA=>wp_exit (hA.post h)
 | .ret,k,env,σ,Q,h=>At.swp fun m0 K0 m K a w hA=>wp_ret (hA.post h)
 | .goto _,_,_,_,_,h=>h.elim
 | .scope _,_,_,_,_,h=>h.elim
theorem pw{C:Ctx}(hC:Z5 C){N:Nat}{L:Nat→List Nat}{n:Nat}{c:Code}{k:Nat}{env:Env}{σ:A1}{Q:Exit→Env→A1→Prop}
  (h:V7 C N L n c (k+1) env σ (F2 (fun env σ=>Z2 C N n c (prune (L k) env) σ Q) Q)):Z2 C N n c env σ Q:=Z2.round (l:=L k) (Y6 hC c _ _ _ _ h)
theorem aLoad_addr{σ:A1}{ti:TI}{a r:AV}(h:A6 σ ti a=some r){m:Mp}{K:KS}{x:Value}(hx:C7 m K a x):∃ad,x = .pointer (some ad):=by
 unfold A6 at h
 split at h
 ·cases hx;exact ⟨_,rfl⟩
 ·cases hx;exact ⟨_,rfl⟩
 ·cases hx;exact ⟨_,rfl⟩
 ·cases h
theorem tb{C:Ctx}(hC:Z5 C){m:Mp}{K:KS}{σ:A1}{w:World}(hB:C5 C m K σ w){env:Env}{tmps:Array Value}(hE:U8 m K env tmps):∀(l:List ResultVar) (k:List AV→Prop),aRes C env σ l k →
  ∃as,k as ∧ ∃vs:List Value,(l.mapM (fun| .tmp t=>pure (tmps.getD t undef)| .cell a t=>do loadVar t (← asAddr (tmps.getD a undef)):ResultVar→Sem Value)).run C.P w = .ok vs w∧as.length=vs.length ∧ ∀(j:Nat) a v,as[j]? = some a→vs[j]? = some v→C7 m K a v
 | [],k,h=>⟨[],h,[],by simp,rfl,fun j a v hj=>by simp at hj⟩
 | .tmp t::r,k,h=>by
  obtain ⟨as,hk,vs,hr,hl,hrep⟩:=tb hC hB hE r _ h
  refine ⟨_,hk,tmps.getD t undef::vs,?_,by simp[hl],fun j a v hj hv=>?_⟩
  ·simp only[List.mapM_cons,Sem.run_bind,Sem.run_pure,Result.andThen_ok]
   rw[hr]
   rfl
  ·cases j with
   | zero=>simp at hj hv;subst hj;subst hv;have:=hE t;simpa[Array.getD_eq_getD_getElem?] using this
   | succ j=>exact hrep j a v (by simpa using hj) (by simpa using hv)
 | .cell a t::r,k,h=>by
  obtain ⟨ti,hti,h⟩:=C4 h
  obtain ⟨x,hx,h⟩:=C4 h
  obtain ⟨as,hk,vs,hr,hl,hrep⟩:=tb hC hB hE r _ h
  obtain ⟨u,hu,hur⟩:=ox hB (hC.tab _ _ hti) (hE a) hx
  obtain ⟨ad,had⟩:=aLoad_addr hx (hE a)
  have hu':(loadVar t ad).run C.P w = .ok u w:=by
   rw[had] at hu
   simpa[Instr.loadAt,Instr.sureAddr] using hu
  refine ⟨_,hk,u::vs,?_,by simp[hl],fun j a v hj hv=>?_⟩
  ·have haddr:(asAddr (tmps.getD a undef)).run C.P w = .ok ad w:=by rw[had];rfl
   simp only[List.mapM_cons,Sem.run_bind,haddr,hu',Sem.run_pure,Result.andThen_ok]
   rw[hr]
   rfl
  ·cases j with
   | zero=>simp at hj hv;subst hj;subst hv;exact hur
   | succ j=>exact hrep j a v (by simpa using hj) (by simpa using hv)
theorem results_sound{C:Ctx}(hC:Z5 C){m:Mp}{K:KS}{σ:A1}{w:World}(hB:C5 C m K σ w){env:Env}{tmps:Array Value}(hE:U8 m K env tmps){fn:Func}{k:List AV→Prop}(h:aRes C env σ fn.results.toList k):
  ∃as,k as ∧ ∃v,(results fn tmps).run C.P w = .ok v w∧C7 m K (one as) v:=by
 obtain ⟨as,hk,vs,hr,hl,hrep⟩:=tb hC hB hE _ _ h
 refine ⟨as,hk,if h:vs.toArray.size=1 then vs.toArray[0] else .tuple vs.toArray,?_,?_⟩
 ·unfold results
  rw[Array.mapM_eq_mapM_toList]
  rw[Sem.run_bind,Sem.run_map]
  have e:(List.mapM (fun| .tmp t=>pure (tmps.getD t undef)| .cell a t=>do loadVar t (← asAddr (tmps.getD a undef)):ResultVar→Sem Value) fn.results.toList).run C.P w = .ok vs w:=hr
  refine Eq.trans (congrArg (fun x=>(Result.andThen (Result.andThen x _) _)) e) ?_
  rfl
 ·match as,vs,hl with
  | [],[],_=>exact .tup _ _ rfl (fun j a v hj=>by simp at hj)
  | [a],[v],_=>exact hrep 0 a v rfl rfl
  | a::b::r,v::u::t,hl=>
   rw[dif_neg (by simp)]
   exact .tup _ _ (by simpa using hl) (fun j a v hj hv=>hrep j a v hj (by simpa using hv))
theorem A2.enter{C:Ctx}(hC:Z5 C){f:FuncId}{fn:Func}{c:Code}{L:Nat→List Nat}{args:List AV}{σ:A1}{R:AV→A1→Prop}(hf:C.P.funcs[f]? = some fn)(hname:(fn.name == "runtime.NumGoroutine")=false)(hb:fn.body=some c)
  (hargs:Nat.ble args.length fn.ntmps=true) (h:V7 C fn.ntmps L σ.length c 0 (H3 0 args) σ (B9 C fn σ.length R)):A2 C f args σ R:=by
 intro m K w vs hB hvs
 have hcall:(callFunc f vs).run C.P w = .ok (.enter f vs) w:=by
  have h1:fn.name ≠ "runtime.NumGoroutine":=by simpa using hname
  simp[callFunc,hf,h1,hb]
 unfold O1
 rw[hcall]
 refine calls_of_wp hf hb ?_
 have hsz:args.length≤fn.ntmps:=Nat.le_of_ble_eq_true hargs
 have hA:At C fn.ntmps σ.length m K m K (H3 0 args) σ { tmps:=vs++Array.replicate (fn.ntmps-vs.size) undef,defers:=[] } w:=
  ⟨hB,Nat.le_refl _,by have:=hvs.1;simp;omega,U8.args hvs _,rfl,Le.refl _ _ _⟩
 refine wp_mono ((Y6 hC c 0 _ _ _ h).at hA) fun e a' w' hp=>?_
 obtain ⟨env',σ',m',K',hA',hq⟩:=hp.at
 have fin:B9 C fn σ.length R .ret env' σ'→a'.defers = [] ∧ ∃v,(results fn a'.tmps).run C.P w' = .ok v w' ∧ ∃v',Ending.returned v = .returned v' ∧ ∃r m' K' σ',C5 C m' K' σ' w'∧σ.length≤σ'.length∧Le σ.length m K m' K'∧C7 m' K' r v'∧R r σ':=by
  intro hq
  obtain ⟨as,⟨r',σ'',hw,hR⟩,v,hv,hrep⟩:=results_sound hC hA'.bears hA'.reps hq
  obtain ⟨m'',K'',h1,h2,h3,h4⟩:=hw m' K' w' v hA'.bears hrep
  exact ⟨hA'.defers,v,hv,v,rfl,r',m'',K'',σ'',h1,h4,hA'.le.trans h3,h2,hR⟩
 cases e with
 | ret=>exact fin hq
 | normal=>exact fin hq
 | _=>exact hq.elim
end
end Go.Sv
