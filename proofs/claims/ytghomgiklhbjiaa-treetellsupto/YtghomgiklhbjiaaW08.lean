/- Proved: TreeTells: whatever tree, root, key and number come in (together of bulk at most 1048576), the call returns true and they read as they did; no other condition. This text is part 8 of 18. -/
import Derived.Test.YtghomgiklhbjiaaW07
import Derived.Maps.RangeRun
import Derived.Lib.Overlaps
set_option linter.unusedSimpArgs false
set_option linter.unusedVariables false
section
namespace Go.VL
open Go
theorem SWops.opdo {C:Ctx} {ops:Array Oper} {rest:List Oper} {o:Oper} {st:St} {K:XE→St→Prop} {d:DV} {ob':List Ob} (hg:gd ops st.env o = some true) (hd:dstOk C.n [o] = true) (hop:OpDo C.P o st (.ret d) ob')
    (h:SWops C ops rest ⟨upo st.env o.dst d,ob'⟩ K):SWops C ops (o :: rest) st K:=by
  rintro a w ⟨F,μ,hr⟩
  refine wpListIn_step fun K' hK=>?_
  rw [if_pos (gd_wanted hr hg)]
  exact hop C.rd a w F μ K' _ hr.hr (rep_ev hr) fun v w' F' μ' haf hrep=>hK _ _ (h _ _ ⟨F',μ',rel0_after (C:=C) (dd:=C.dd) hr haf (dst_lt hd).1 hrep⟩)
theorem SWops.yield {C:Ctx} {P:Program} {ops:Array Oper} {rest:List Oper} {o:Oper} {st:St} {K:XE→St→Prop} {g:Operand} {xs:Array Operand} {ts:Array TypeId} {id:Nat} {args:List DV} {d:DV} {σ':List Ob} (hP:C.P = P) (hd:dstOk C.n [o] = true)
    (hc:CallDo P (.yld id) args st.ob (.ret d) σ') (hg:gd ops st.env o = some true) (ho:o.op = .call { callee:=.value g,args:=xs,argTypes:=ts }) (hf:ev st.env g = .yld id) (ha:xs.toList.map (ev st.env) = args)
    (h:SWops C ops rest ⟨upo st.env o.dst d,σ'⟩ K):SWops C ops (o :: rest) st K :=
  SWops.opdo hg hd (by rw [hP]; exact hc o st g xs ts ho hf ha rfl) h
theorem SWops.one {C:Ctx} {L:Lay} (hL:LayOk C.P L) {ops:Array Oper} {rest:List Oper} {o:Oper} {st:St} {K:XE→St→Prop} (hd:dstOk C.n [o] = true)
    (h:match gd ops st.env o with
      | some true=>(match sop L st o.op with
        | some (d,ob')=>SWops C ops rest ⟨upo st.env o.dst d,ob'⟩ K
        | none=>False)
      | some false=>SWops C ops rest ⟨upo st.env o.dst .skip,st.ob⟩ K
      | none=>False):SWops C ops (o :: rest) st K:=by
  split at h
  · rename_i hg
    split at h
    · rename_i d ob' hs
      exact SWops.op hg (dst_lt hd).1 (OpRun.of_sop (o:=o) hL hs) h
    · exact h.elim
  · rename_i hg
    exact SWops.pass hg (dst_lt hd).1 h
  · exact h.elim
def EndK (C:Ctx) (e:XE) (st':St):XE→St→Prop:=fun e' s=>e' = e∧Ghost C s st'
theorem Does.of_sw {C:Ctx} {c:Code} {st st':St} {e:XE} {dd:List DD} (he:∀ d,e ≠ .panic d) (h:SW (C.at dd) c st (EndK (C.at dd) e st')):Does C c st dd e st' dd:=by
  intro a w hr
  refine wpIn_mono (h a w hr) fun ex a w hq=>?_
  cases ex with
  | normal=>obtain ⟨s,⟨rfl,hg⟩,hr⟩:=hq; exact ⟨rfl,hg a w hr⟩
  | exit i=>obtain ⟨s,⟨rfl,hg⟩,hr⟩:=hq; exact ⟨rfl,hg a w hr⟩
  | ret=>obtain ⟨s,⟨rfl,hg⟩,hr⟩:=hq; exact ⟨rfl,hg a w hr⟩
  | panic ch=>obtain ⟨s,d,v,F,μ,⟨e1,_⟩,_⟩:=hq; exact absurd e1.symm (he d)
  | goto l=>exact hq.elim
  | outgrown=>exact hq.elim
theorem Does.part {C:Ctx} {P:Program} {n:Nat} (hP:C.P = P) (hn:C.n = n) {c:Code} {st st':St} {e:XE} {dd:List DD} (he:∀ d,e ≠ .panic d) (h:∀ D:Ctx,D.P = P→D.n = n→SW D c st (EndK D e st')):Does C c st dd e st' dd:=Does.of_sw he (h (C.at dd) hP hn)
theorem Does.range {C:Ctx} (hrd:C.rd = none) {st st':St} {dd:List DD} {g:Operand} {ps:Array Tmp} {asg bo:Code} {f:FuncId} {caps:List DV} {fid:Nat} {ts:List DV} (hg:ev st.env g = .fn f caps)
    (hts:ts.length = C.n) (hti:∀ i,i < C.n→ts[i]? = some (lk st.env i)) {out:Out} {σ2:List Ob}
    (hok:Ok C.P f ([.yld (st.ob.length+1)] ++ caps) ((st.ob ++ [Ob.oth .defd []]) ++ [Ob.oth (.loop .ready none fid ps.toList asg bo st.ob.length) ts]) out σ2) {e:XE}
    (hend:(∃ d stt q f1 p1 a1 b1 d1 e1,out = .ret d∧σ2[st.ob.length+1]? = some (.oth (.loop stt q f1 p1 a1 b1 d1) e1)∧stt ≠ .busy∧jumpOf e = some q∧st' = ⟨st.env,σ2.set (st.ob.length+1) (.oth (.loop .exhausted q f1 p1 a1 b1 d1) e1)⟩) ∨
      (∃ d,out = .pan d∧e = .panic d∧st' = ⟨st.env,σ2⟩)):Does C (.rangeFunc g ps asg bo) st dd e st' (.col st.ob.length :: dd):=by
  intro a w hr
  have hfe:C.fe = Fence.wide:=by
    show { Fence.wide with round:=C.rd } = Fence.wide
    rw [hrd]; rfl
  rw [hfe]
  obtain ⟨F,μ,hr⟩:=hr
  have hv:=rep_ev hr g
  rw [hg] at hv
  have hcap:∃ vs:List Value,a.eval g = .func (.func f) #[] ⟨vs⟩∧Reps w F μ st.ob caps vs:=by
    generalize a.eval g = v at hv
    cases hv with
    | fn hl hh=>exact ⟨_,rfl,hl,hh⟩
  obtain ⟨cvs,hge,hcr⟩:=hcap
  refine wpIn_rangeFunc fun fn _=>?_
  have hh:HR w F μ st.ob:=hr.hr
  obtain ⟨u1,u2,u3⟩:=hh.pushAny (.deferred (some [])) (.oth .defd []) fun hst h1 h2=>⟨fun i hi=>by simp [OT.refs] at hi,[],⟨_,_,h1,h2,fun _=>rfl⟩,rfl,fun i d v hd _=>by simp at hd⟩
  obtain ⟨w1,hw1⟩:∃ w1,w1 = w.alloc (.deferred (some [])):=⟨_,rfl⟩
  obtain ⟨μ1,hμ1⟩:∃ μ1,μ1 = grow μ st.ob.length w.heap.size:=⟨_,rfl⟩
  rw [← hw1,← hμ1] at u1 u2 u3
  have hs1:w1.heap.size = w.heap.size+1:=by rw [hw1]; simp
  have hd1:μ1 st.ob.length = some w.heap.size:=by rw [hμ1]; simp [grow]
  obtain ⟨v1,v2,v3⟩:=u1.pushAny (.loop { state:=.ready,pending:=none,fn,tmps:=a.tmps,params:=ps,assign:=asg,body:=bo,defers:=w.heap.size }) (.oth (.loop .ready none fid ps.toList asg bo st.ob.length) ts) fun hst h1 h2=>by
    refine ⟨fun i hi=>?_,a.tmps.toList,⟨_,w.heap.size,fn,h1,?_,h2⟩,?_,fun i d v hd hv=>?_⟩
    · simp only [OT.refs,List.mem_singleton] at hi
      subst hi
      refine ⟨.defd,[],?_⟩
      rw [push_get,if_neg (by simp),push_get,if_pos rfl]
    · have:grow μ1 (st.ob ++ [Ob.oth .defd []]).length w1.heap.size st.ob.length = μ1 st.ob.length:=by
        simp only [grow]
        rw [if_neg (by simp)]
      rw [this]; exact hd1
    · have:=hr.size
      rw [hts]
      simpa using this.symm
    · have hi:i < C.n:=by
        have:=(List.getElem?_eq_some_iff.1 hd).1
        rwa [hts] at this
      rw [hti i hi] at hd
      cases hd
      have h0:=((hr.env i).step u2).step hst
      have:a.tmps.getD i undef = v:=by
        rw [Array.getD_eq_getD_getElem?,← Array.getElem?_toList,hv]
        rfl
      rw [this] at h0
      exact h0
  obtain ⟨w2,hw2⟩:∃ w2,w2 = w1.alloc (.loop { state:=.ready,pending:=none,fn,tmps:=a.tmps,params:=ps,assign:=asg,body:=bo,defers:=w.heap.size }):=⟨_,rfl⟩
  obtain ⟨μ2,hμ2⟩:∃ μ2,μ2 = grow μ1 (st.ob ++ [Ob.oth .defd []]).length w1.heap.size:=⟨_,rfl⟩
  rw [← hw2,← hμ2] at v1 v2 v3
  have hl2:μ2 (st.ob.length+1) = some (w.heap.size+1):=by rw [hμ2]; simp [grow,hs1]
  have hd2:μ2 st.ob.length = some w.heap.size:=by
    rw [hμ2]
    simp only [grow]
    rw [if_neg (by simp)]; exact hd1
  have hob2:((st.ob ++ [Ob.oth .defd []]) ++ [Ob.oth (.loop .ready none fid ps.toList asg bo st.ob.length) ts])[st.ob.length+1]? = some (Ob.oth (.loop .ready none fid ps.toList asg bo st.ob.length) ts):=by
    rw [push_get,if_pos (by simp)]
  have hobd:((st.ob ++ [Ob.oth .defd []]) ++ [Ob.oth (.loop .ready none fid ps.toList asg bo st.ob.length) ts])[st.ob.length]? = some (Ob.oth .defd []):=by
    rw [push_get,if_neg (by simp),push_get,if_pos rfl]
  refine ⟨w.heap.size+1,[{ target:=.collected w.heap.size,args:=#[] }],w2,{ target:=.fn (.func f) ⟨cvs⟩,args:=#[.func (.yield (w.heap.size+1)) #[] #[]] },w2,f,#[.func (.yield (w.heap.size+1)) #[] #[]] ++ ⟨cvs⟩,w2,?_,?_,fun _ _=>trivial,?_,fun e=>(by cases e),?_⟩
  · rw [hw2,hw1]; exact run_enterLoop_outer _ _ _ _ _
  · simp only [resolve,hge]
    simp [go_sem]
  · simp only [invoke]
    exact hok.enters _ _
  · refine (callsIn_wide (n:=0)).2 ?_
    have hargs:Reps w2 F μ2 ((st.ob ++ [Ob.oth .defd []]) ++ [Ob.oth (.loop .ready none fid ps.toList asg bo st.ob.length) ts]) ([.yld (st.ob.length+1)] ++ caps) ([.func (.yield (w.heap.size+1)) #[] #[]] ++ cvs):=by
      refine Reps.append ⟨rfl,fun i d v hd hv=>?_⟩ ((hcr.step u2).step v2)
      rcases i with _ | i <;> simp at hd hv
      subst hd; subst hv
      exact .yld hl2 ⟨_,_,hob2,rfl⟩
    have hc:=hok.calls w2 F μ2 _ v1 hargs
    rw [show (#[.func (.yield (w.heap.size+1)) #[] #[]] ++ ⟨cvs⟩:Array Value) = ⟨[.func (.yield (w.heap.size+1)) #[] #[]] ++ cvs⟩ by apply Array.ext'; simp]
    refine hc.mono fun ee w3 he=>?_
    obtain ⟨F3,μ3,v,haf,hout⟩:=he
    have hl3:μ3 (st.ob.length+1) = some (w.heap.size+1):=(haf.step.othsame _ _ _ hob2).trans hl2
    have hrel3:Rel0 (C.at (.col st.ob.length :: dd)) F3 μ3 ⟨st.env,σ2⟩ { a with defers:=[{ target:=.collected w.heap.size,args:=#[] }] ++ a.defers } w3:=by
      have st3:=(u2.trans v2).trans haf.step
      refine ⟨haf.hr,fun t=>(hr.env t).step st3,hr.step.trans st3,hr.fr.trans ((u3.trans v3).trans haf.fr),fun c b hb=>(haf.col c b hb).elim (hr.col c b) (fun q=>.inr (Nat.le_trans (hr.fr.trans (u3.trans v3)).size q)),hr.size,?_⟩
      refine ⟨_,a.defers,rfl,?_,DefRep.step st3 hr.defers⟩
      obtain ⟨o',ho',t',ds',rfl,hk'⟩:=haf.step.ext _ _ hobd
      obtain rfl:=OT.kind_defd hk'
      exact ⟨w.heap.size,ds',(haf.step.othsame _ _ _ hobd).trans hd2,ho',rfl⟩
    rcases hend with ⟨d,stt,q,f1,p1,a1,b1,d1,e1,rfl,ho,hb,hj,rfl⟩ | ⟨d,rfl,rfl,rfl⟩
    · obtain ⟨rfl,hrep⟩:=hout
      obtain ⟨r1,dd1,fn1,vs1,n1,n2,n3,n4⟩:=loop_at haf.hr ho
      rw [hl3] at n1
      obtain rfl:=Option.some.inj n1
      obtain ⟨t1,t2,t3⟩:=loop_turn (fn:=fn1) (st':=.exhausted) (q':=q) haf.hr ho hl3 n2 n4
      have hrel4:Rel (C.at (.col st.ob.length :: dd)) ⟨st.env,σ2.set (st.ob.length+1) (.oth (.loop .exhausted q f1 p1 a1 b1 d1) e1)⟩ { a with defers:=[{ target:=.collected w.heap.size,args:=#[] }] ++ a.defers } _ :=
        ⟨F3,μ3,t1,fun t=>(hrel3.env t).step t2,hrel3.step.trans t2,hrel3.fr.trans t3,hrel3.col,hrel3.size,DefRep.step t2 hrel3.defers⟩
      refine ⟨q,_,run_endLoop n3 hb,?_⟩
      cases e with
      | normal=>cases hj; exact ⟨rfl,hrel4⟩
      | ret=>cases hj; exact wpIn_ret ⟨rfl,hrel4⟩
      | exit i=>cases hj; exact wpIn_exit ⟨rfl,hrel4⟩
      | panic d=>cases hj
    · obtain ⟨rfl,hrep⟩:=hout
      exact ⟨d,v,F3,μ3,rfl,rfl,hrel3,hrep⟩
def LvS (C:Ctx) (dd:List DD) (E:List (Nat × DV)) (σ:List Ob) (a:Act) (w:World) (u:FrameMode) (md:Md):Prop :=
  ∃ F μ,Rel0 (C.at dd) F μ ⟨E,σ⟩ a w∧MdRel w F μ σ u md∧∀ d,md ≠ .rcv d
end Go.VL
end
section
namespace Go.VL
open Go
inductive Cl (c:Nat) (K:Nat→Prop):DV→Prop
  | int {k n}:Cl c K (.int k n)
  | bool {b}:Cl c K (.bool b)
  | str {s}:Cl c K (.str s)
  | vec {c' k xs} (h:c' ≠ c) (hx:∀ x ∈ xs,Cl c K x):Cl c K (.vec c' k xs)
  | agg {cs:List DV} (h:∀ x ∈ cs,Cl c K x):Cl c K (.agg cs)
  | tup {cs:List DV} (h:∀ x ∈ cs,Cl c K x):Cl c K (.tup cs)
  | ptr {id g j o} (h:¬ K id):Cl c K (.ptr id g j o)
  | vptr {c'} {cs:List DV} (h:c' ≠ c) (hx:∀ x ∈ cs,Cl c K x):Cl c K (.vptr c' cs)
  | sl {id g off len} (h:¬ K id):Cl c K (.sl id g off len)
  | nils:Cl c K .nils
  | nilp:Cl c K .nilp
  | fn {f} {cs:List DV} (h:∀ x ∈ cs,Cl c K x):Cl c K (.fn f cs)
  | nilf:Cl c K .nilf
  | iface {t x} (h:Cl c K x):Cl c K (.iface t x)
  | nili:Cl c K .nili
  | emp:Cl c K .emp
  | undef:Cl c K .undef
  | skip:Cl c K .skip
theorem Cl.cells {c:Nat} {K:Nat→Prop} {x:DV} (h:Cl c K x) {i:Nat} {d:DV} (hd:x.cells[i]? = some d):Cl c K d:=by
  have one:∀ {y:DV},Cl c K y→[y][i]? = some d→Cl c K d:=by
    intro y hy e
    cases i with
    | zero=>simp only [List.getElem?_cons_zero,Option.some.injEq] at e; rw [← e]; exact hy
    | succ i=>simp at e
  cases h with
  | agg h=>exact h d (List.mem_of_getElem? hd)
  | int=>exact one .int hd
  | bool=>exact one .bool hd
  | str=>exact one .str hd
  | vec h hx=>exact one (.vec h hx) hd
  | tup h=>exact one (.tup h) hd
  | ptr h=>exact one (.ptr h) hd
  | vptr h hx=>exact one (.vptr h hx) hd
  | sl h=>exact one (.sl h) hd
  | nils=>exact one .nils hd
  | nilp=>exact one .nilp hd
  | fn h=>exact one (.fn h) hd
  | nilf=>exact one .nilf hd
  | iface h=>exact one (.iface h) hd
  | nili=>exact one .nili hd
  | emp=>exact one .emp hd
  | undef=>exact one .undef hd
  | skip=>exact one .skip hd
theorem Rep.back {w:World} {F F3:Nat→Nat→Prop} {μ μ3:Nat→Option Nat} {σ σ3:List Ob} {c:Nat} {K:Nat→Prop} (hF:∀ c' b,c' ≠ c→F c' b→F3 c' b)
    (hσ:∀ (id t k:Nat) (xs:List DV),¬ K id→σ[id]? = some (.arr t k xs)→σ3[id]? = some (.arr t k xs)∧μ3 id = μ id) {d:DV} {v:Value} (h:Rep w F μ σ d v):Cl c K d→Rep w F3 μ3 σ3 d v:=by
  induction h with
  | int=>intro _; exact .int
  | bool=>intro _; exact .bool
  | str=>intro _; exact .str
  | vec u hc hm ha hk hr ih =>
    intro hl
    cases hl with
    | vec h hx =>
      refine .vec u hc hm (fun h0=>?_) hk (fun j i x d hj hi=>ih j i x d hj hi ((hx x (List.mem_of_getElem? hj)).cells hi))
      obtain ⟨a,e,hFa,hcell⟩:=ha h0
      exact ⟨a,e,hF _ _ h hFa,hcell⟩
  | agg hl h ih=>intro hc; cases hc with | agg h'=>exact .agg hl fun i d v hd hv=>ih i d v hd hv (h' d (List.mem_of_getElem? hd))
  | tup hl h ih=>intro hc; cases hc with | tup h'=>exact .tup hl fun i d v hd hv=>ih i d v hd hv (h' d (List.mem_of_getElem? hd))
  | ptr h =>
    intro hc
    cases hc with
    | ptr hk =>
      obtain ⟨t,k,xs,ho,hg,hb⟩:=h
      obtain ⟨e1,e2⟩:=hσ _ _ _ _ hk ho
      exact .ptr ⟨t,k,xs,e1,hg,by rw [e2]; exact hb⟩
  | vptr u hFa hu hr ih =>
    intro hc
    cases hc with
    | vptr h hx=>exact .vptr u (hF _ _ h hFa) hu fun i d hd=>ih i d hd (hx d (List.mem_of_getElem? hd))
  | sl h =>
    intro hc
    cases hc with
    | sl hk =>
      obtain ⟨t,k,xs,ho,h1,h2,h3,h4,hb⟩:=h
      obtain ⟨e1,e2⟩:=hσ _ _ _ _ hk ho
      exact .sl ⟨t,k,xs,e1,h1,h2,h3,h4,by rw [e2]; exact hb⟩
  | slx h=>intro hc; cases hc
  | nils=>intro _; exact .nils
  | nilp=>intro _; exact .nilp
  | fn hl h ih=>intro hc; cases hc with | fn h'=>exact .fn hl fun i d v hd hv=>ih i d v hd hv (h' d (List.mem_of_getElem? hd))
  | nilf=>intro _; exact .nilf
  | iface h ih=>intro hc; cases hc with | iface h'=>exact .iface (ih h')
  | nili=>intro _; exact .nili
  | mp _ _=>intro hc; cases hc
  | it _ _=>intro hc; cases hc
  | yld _ _=>intro hc; cases hc
  | emp=>intro _; exact .emp
  | undef=>intro _; exact .undef
  | skip=>intro _; exact .skip
end Go.VL
end
section
namespace Go.VL
open Go
inductive Fz (O:List Ob) (c:Nat):DV→DV→Prop
  | low {d} (h:Low 0 d):Fz O c d d
  | nil {k}:Fz O c .nils (.vec c k [])
  | emp {k}:Fz O c .emp (.vec c k [])
  | agg {xs ys:List DV} (hl:xs.length = ys.length) (h:∀ (i:Nat) (x y:DV),xs[i]? = some x→ys[i]? = some y→Fz O c x y):Fz O c (.agg xs) (.agg ys)
  | tup {xs ys:List DV} (hl:xs.length = ys.length) (h:∀ (i:Nat) (x y:DV),xs[i]? = some x→ys[i]? = some y→Fz O c x y):Fz O c (.tup xs) (.tup ys)
  | sl {id off l t k:Nat} {xs ys:List DV} (ho:O[id]? = some (.arr t k xs)) (hl:ys.length = l)
      (hk:∀ (j:Nat) (x y:DV),j < l→xs[off+j]? = some x→ys[j]? = some y→x.cells.length = y.cells.length)
      (h:∀ (j i:Nat) (x y d D:DV),j < l→xs[off+j]? = some x→ys[j]? = some y→x.cells[i]? = some d→y.cells[i]? = some D→Fz O c d D):Fz O c (.sl id xs.length off l) (.vec c k ys)
section
variable {w:World} {F F':Nat→Nat→Prop} {μ μ':Nat→Option Nat} {O σ0:List Ob} {c:Nat}
theorem Rep.low1 (hF:∀ c b,F c b→F' c b) {σ σ':List Ob} {d:DV} {v:Value} (h:Rep w F μ σ d v):Low 0 d→Rep w F' μ' σ' d v:=by
  induction h with
  | int=>intro _; exact .int
  | bool=>intro _; exact .bool
  | str=>intro _; exact .str
  | vec u hc hm ha hk hr ih =>
    intro hl
    exact .vec u hc hm (fun h0=>by obtain ⟨a,f1,f2,f3⟩:=ha h0; exact ⟨a,f1,hF _ _ f2,f3⟩) hk fun j i x d hx hd=>ih j i x d hx hd (low_cells ((low_vec _ _ _).1 hl x (List.mem_of_getElem? hx)) hd)
  | agg hl h ih=>intro h0; exact .agg hl fun i d v hd hv=>ih i d v hd hv ((low_agg _).1 h0 d (List.mem_of_getElem? hd))
  | tup hl h ih=>intro h0; exact .tup hl fun i d v hd hv=>ih i d v hd hv ((low_tup _).1 h0 d (List.mem_of_getElem? hd))
  | ptr h=>intro h0; exact absurd ((low_ptr _ _ _ _).1 h0) (by omega)
  | vptr u hF' hu hr ih=>intro h0; exact .vptr u (hF _ _ hF') hu fun i d hd=>ih i d hd ((low_vptr _ _).1 h0 d (List.mem_of_getElem? hd))
  | sl h=>intro h0; exact absurd ((low_sl _ _ _ _).1 h0) (by omega)
  | slx h=>intro h0; exact absurd ((low_slx _ _ _ _ _).1 h0) (by omega)
  | nils=>intro _; exact .nils
  | nilp=>intro _; exact .nilp
  | fn hl h ih=>intro h0; exact .fn hl fun i d v hd hv=>ih i d v hd hv ((low_fn _ _).1 h0 d (List.mem_of_getElem? hd))
  | nilf=>intro _; exact .nilf
  | iface h ih=>intro h0; exact .iface (ih ((low_iface _ _).1 h0))
  | nili=>intro _; exact .nili
  | mp h ho=>intro h0; exact absurd ((low_mp _).1 h0) (by omega)
  | it h ho=>intro h0; exact absurd ((low_it _).1 h0) (by omega)
  | yld h ho=>intro h0; exact absurd ((low_yld _).1 h0) (by omega)
  | emp=>intro _; exact .emp
  | undef=>intro _; exact .undef
  | skip=>intro _; exact .skip
theorem Fz.rep (hr:HR w F μ O) (hF:∀ c b,F c b→F' c b) (hμ:∀ id b,μ id = some b→F' c b) {d D:DV} (h:Fz O c d D):∀ v,Rep w F μ O d v→Rep w F' μ' σ0 D v:=by
  induction h with
  | low h=>intro v hv; exact hv.low1 hF h
  | nil =>
    intro v hv
    cases hv
    exact .vec (A:=none) (cap:=0) (fun _ _=>undef) (by simp) (by simp) (fun h=>by simp at h) (fun x hx=>by simp at hx) (fun j i x d hx=>by simp at hx)
  | emp =>
    intro v hv
    cases hv
    exact .vec (cap:=0) (fun _ _=>undef) (by simp) (by simp) (fun h=>by simp at h) (fun x hx=>by simp at hx) (fun j i x d hx=>by simp at hx)
  | @agg xs ys hl h ih =>
    intro v hv
    cases hv with
    | agg hl' hh =>
      refine .agg (hl.symm.trans hl') fun i d v hd hv=>?_
      have hi:=(List.getElem?_eq_some_iff.1 hd).1
      have hx:xs[i]? = some (xs[i]'(by omega)):=List.getElem?_eq_getElem _
      exact ih i _ _ hx hd v (hh i _ _ hx hv)
  | @tup xs ys hl h ih =>
    intro v hv
    cases hv with
    | tup hl' hh =>
      refine .tup (hl.symm.trans hl') fun i d v hd hv=>?_
      have hi:=(List.getElem?_eq_some_iff.1 hd).1
      have hx:xs[i]? = some (xs[i]'(by omega)):=List.getElem?_eq_getElem _
      exact ih i _ _ hx hd v (hh i _ _ hx hv)
  | @sl id off l t k xs ys ho hlen hk h ih =>
    intro v hv
    cases hv with
    | @sl _ _ _ _ A cap hs =>
      obtain ⟨t2,k2,xs2,ho2,q1,q2,q3,q4,q5⟩:=hs
      rw [ho] at ho2
      cases ho2
      obtain ⟨hk1,hor⟩:=hr.obj _ _ ho
      rcases q5 rfl with ⟨g0,rfl,rfl,hmu⟩ | ⟨b,cur,fr,hmu,hh,hsz,hAs,hA⟩
      · have:l = 0:=by omega
        subst this
        have hy:ys = []:=List.length_eq_zero_iff.1 hlen
        subst hy
        exact .vec (A:=none) (cap:=0) (fun _ _=>undef) (by simp) (by simp) (fun h=>by simp at h) (fun x hx=>by simp at hx) (fun j i x d hx=>by simp at hx)
      · rcases hor with ⟨rfl,hmu'⟩ | ⟨b',cur',fr',hmu',hh',hfr',hcells⟩
        · rw [hmu] at hmu'; cases hmu'
        rw [hmu] at hmu'; cases hmu'
        rw [hh] at hh'; cases hh'
        have:=Rep.vec (w:=w) (F:=F') (μ:=μ') (σ:=σ0) (c:=c) (k:=k) (xs:=ys) (A:=A) (cap:=cap) (fun j i=>(cur[(off+j) * k+i]?).getD undef) (by omega) q4 (fun h0=>by
          refine ⟨_,hA (.inl (by omega)),hμ _ _ hmu,fun j i hj hi=>?_⟩
          have hxx:xs[off+j]? = some (xs[off+j]'(by omega)):=List.getElem?_eq_getElem _
          have hxk:=hk1 _ (List.mem_of_getElem? hxx)
          obtain ⟨vv,g1,g2⟩:=hcells (off+j) i _ _ hxx (List.getElem?_eq_getElem (show i < _ by rw [hxk]; exact hi))
          rw [g1]
          rw [add_mk]
          unfold World.cell?
          rw [hh]
          dsimp only
          rw [show off * k+(j * k+i) = (off+j) * k+i by rw [Nat.add_mul]; omega,g1]
          rfl) (fun y hy=>by
          obtain ⟨j,hj⟩:=List.getElem?_of_mem hy
          have hjl:=(List.getElem?_eq_some_iff.1 hj).1
          have hxx:xs[off+j]? = some (xs[off+j]'(by omega)):=List.getElem?_eq_getElem _
          rw [← hk j _ _ (by omega) hxx hj]
          exact hk1 _ (List.mem_of_getElem? hxx)) (fun j i y D hy hD=>by
          have hjl:=(List.getElem?_eq_some_iff.1 hy).1
          have hil:=(List.getElem?_eq_some_iff.1 hD).1
          have hxx:xs[off+j]? = some (xs[off+j]'(by omega)):=List.getElem?_eq_getElem _
          have hlc:=hk j _ _ (by omega) hxx hy
          have hd:(xs[off+j]'(by omega)).cells[i]? = some ((xs[off+j]'(by omega)).cells[i]'(by omega)):=List.getElem?_eq_getElem _
          obtain ⟨vv,g1,g2⟩:=hcells (off+j) i _ _ hxx hd
          rw [g1]
          exact ih j i _ _ _ _ (by omega) hxx hy hd hD vv g2)
        rwa [hlen] at this
end
structure OkE (P:Program) (f:FuncId) (args:List DV) (σ:List Ob) (Q:Out→List Ob→Prop):Prop where
  enters:∀ (vs:Array Value) (w:World),(callFunc f vs).run P w = .ok (.enter f vs) w
  calls:∀ (w:World) (F:Nat→Nat→Prop) (μ:Nat→Option Nat) (vs:List Value),HR w F μ σ→Reps w F μ σ args vs→Calls P f ⟨vs⟩ w fun e w'=>∃ o σ',Q o σ'∧OutPost o σ' w F μ σ e w'
theorem Ok.toE {P:Program} {f:FuncId} {args:List DV} {σ σ':List Ob} {o:Out} {Q:Out→List Ob→Prop} (h:Ok P f args σ o σ') (hq:Q o σ'):OkE P f args σ Q :=
  ⟨h.enters,fun w F μ vs hr hv=>(h.calls w F μ vs hr hv).mono fun e w' he=>⟨o,σ',hq,he⟩⟩
theorem OkE.mono {P:Program} {f:FuncId} {args:List DV} {σ:List Ob} {Q Q':Out→List Ob→Prop} (h:OkE P f args σ Q) (hq:∀ o σ',Q o σ'→Q' o σ'):OkE P f args σ Q' :=
  ⟨h.enters,fun w F μ vs hr hv=>(h.calls w F μ vs hr hv).mono fun e w' he=>by obtain ⟨o,σ',h1,h2⟩:=he; exact ⟨o,σ',hq _ _ h1,h2⟩⟩
theorem OkE.ok {P:Program} {f:FuncId} {args:List DV} {σ σ':List Ob} {o:Out} {Q:Out→List Ob→Prop} (h:OkE P f args σ Q) (hq:∀ o2 σ2,Q o2 σ2→o2 = o∧σ2 = σ'):Ok P f args σ o σ' :=
  ⟨h.enters,fun w F μ vs hr hv=>(h.calls w F μ vs hr hv).mono fun e w' he=>by obtain ⟨o2,σ2,h1,h2⟩:=he; obtain ⟨rfl,rfl⟩:=hq _ _ h1; exact h2⟩
theorem OkE.thaw {P:Program} {f:FuncId} {args:List DV} {c:Nat} {R:DV→Prop} (h:OkE P f args [] fun o O=>∃ d D,o = .ret d∧Fz O c d D∧R D) (ha:∀ x ∈ args,Low 0 x) (σ:List Ob) :
    OkE P f args σ fun o σ'=>σ' = σ∧∃ D,o = .ret D∧R D:=by
  refine ⟨h.enters,fun w F μ vs hr hv=>?_⟩
  have hv0:Reps w F (fun _=>none) [] args vs:=⟨hv.1,fun i d v hd hv'=>(hv.2 i d v hd hv').low0 (ha d (List.mem_of_getElem? hd))⟩
  refine (h.calls w F _ vs hr.empty hv0).mono fun e w' he=>?_
  obtain ⟨o,O,⟨d,D,rfl,hz,hR⟩,F1,μ1,v,haf,rfl,hrep⟩:=he
  have hk:∀ b,b < w.heap.size→w'.heap[b]? = w.heap[b]?:=fun b hb=>haf.fr.keep b hb fun _ e=>by cases e
  have hnew:∀ id b,μ1 id = some b→w.heap.size≤b:=fun id b e=>by
    rcases haf.fr.new id b e with e | e
    · cases e
    · exact e
  obtain ⟨k1,k2⟩:=hr.keepAll (F':=fun c' b=>F1 c' b∨(c' = c∧∃ id,μ1 id = some b)) hk (fun c b h=>.inl (haf.step.col c b h)) (fun c' b h=>by
    rcases h with h | ⟨_,id,h⟩
    · rcases haf.col c' b h with h2 | h2
      · exact .inl h2
      · exact .inr ⟨h2,(haf.hr.col c' b h).1⟩
    · exact .inr ⟨hnew id b h,haf.hr.lt id b h⟩) haf.fr.size
  refine ⟨.ret D,σ,⟨rfl,D,rfl,hR⟩,_,μ,v,⟨k1,k2,⟨haf.fr.os,haf.fr.tape,haf.fr.output,haf.fr.size,fun b hb _=>hk b hb,fun id b e=>.inl e,haf.fr.drawn⟩,fun c' b h=>?_⟩,rfl,?_⟩
  · rcases h with h | ⟨_,id,h⟩
    · exact haf.col c' b h
    · exact .inr (hnew id b h)
  · exact hz.rep haf.hr (fun c b h=>.inl h) (fun id b e=>.inr ⟨rfl,id,e⟩) v hrep
theorem Ok.thaw {P:Program} {f:FuncId} {args:List DV} {c:Nat} {d D:DV} {O:List Ob} (h:Ok P f args [] (.ret d) O) (hz:Fz O c d D) (ha:∀ x ∈ args,Low 0 x) (σ:List Ob):Ok P f args σ (.ret D) σ :=
  (OkE.thaw (R:=fun x=>x = D) (h.toE ⟨d,D,rfl,hz,rfl⟩) ha σ).ok fun o σ' ⟨e,D',e1,e2⟩=>by subst e2; exact ⟨e1,e⟩
theorem OkE.of_body {P:Program} {L:Lay} (hL:LayOk P L) {f:FuncId} {fn:Func} {c:Code} {args:List DV} {σ:List Ob} {Q:Out→List Ob→Prop} (hf:P.funcs[f]? = some fn) (hb:fn.body = some c)
    (hname : (fn.name == "runtime.NumGoroutine") = false) (hlen : args.length ≤ fn.ntmps)
    (h:∀ C:Ctx,C.P = P→C.n = fn.ntmps→C.σ0 = σ→Fixed σ→C.dd = []→SW C c ⟨slots 0 args,σ⟩ fun e st=>∃ out σ',Q out σ'∧finK C L fn.results.toList out σ' e st):OkE P f args σ Q:=by
  refine ⟨fun vs w=>?_,fun w F μ vs hr hv=>?_⟩
  · have hn : ¬ fn.name = "runtime.NumGoroutine" := by simpa using hname
    simp [callFunc,program,Sem.run,hf,hn,hb]
  · let C:Ctx:=⟨P,fn.ntmps,none,[],w,F,μ,σ,hr.out⟩
    refine calls_of_wp hf hb (wp_mono ((wpIn_wide (n:=0)).1 (h C rfl rfl rfl hr.fixed rfl _ w ⟨F,μ,hr,fun t=>?_,Step.refl ..,Fr.refl ..,fun _ _ h=>.inl h,?_,rfl⟩)) fun e a w' hq=>?_)
    · show Rep w F μ σ (lk (slots 0 args) t) _
      rw [lk_slots,if_pos (Nat.zero_le t),Nat.sub_zero]
      rcases Nat.lt_or_ge t args.length with ht | ht
      · rw [List.getElem?_eq_getElem ht,Option.getD_some]
        have ht':t < vs.length:=by rw [← hv.1]; exact ht
        have:((⟨vs⟩:Array Value) ++ Array.replicate (fn.ntmps - (⟨vs⟩:Array Value).size) undef).getD t undef = vs[t]:=by
          rw [Array.getD_eq_getD_getElem?,Array.getElem?_append_left (by simpa using ht')]
          simp [ht']
        rw [this]
        exact hv.2 t _ _ (List.getElem?_eq_getElem ht) (List.getElem?_eq_getElem ht')
      · rw [List.getElem?_eq_none ht]
        exact .undef
    · show ((⟨vs⟩:Array Value) ++ Array.replicate (fn.ntmps - (⟨vs⟩:Array Value).size) undef).size = fn.ntmps
      have:=hv.1
      simp; omega
    · have wk:∀ {F' μ' st},Rel0 C F' μ' st a w'→Rel0 C F' μ' ⟨[],st.ob⟩ a w':=fun h=>⟨h.hr,fun _=>.undef,h.step,h.fr,h.col,h.size,h.defers⟩
      have fin:∀ st,(∃ out σ',Q out σ'∧∃ st' d d',Ghost C st st'∧resDV L st' fn.results.toList = some d∧GhostV C d st'.ob d' σ'∧out = .ret d')→Rel C st a w' →
          a.defers = []∧∃ v,(results fn a.tmps).run P w' = .ok v w'∧∃ o σ',Q o σ'∧OutPost o σ' w F μ σ (.returned v) w':=by
        rintro st ⟨out,σ',hQ,st',d,d',g1,g3,g4,rfl⟩ hrel
        obtain ⟨F',μ',h'⟩:=g1 a w' hrel
        obtain ⟨v,r1,r2⟩:=run_results (C:=C) hL h' g3
        obtain ⟨F'',μ'',h'',r3⟩:=g4 a w' v F' μ' (wk h') r2
        exact ⟨h'.defers,v,r1,_,_,hQ,F'',μ'',v,⟨h''.hr,h''.step,h''.fr,h''.col⟩,rfl,r3⟩
      cases e with
      | normal=>obtain ⟨st,hk,hrel⟩:=hq; exact fin st hk hrel
      | ret=>obtain ⟨st,hk,hrel⟩:=hq; exact fin st hk hrel
      | exit i=>obtain ⟨st,⟨_,_,_,hk⟩,_⟩:=hq; exact hk.elim
      | goto l=>exact hq.elim
      | panic ch =>
        obtain ⟨st,d,v,F',μ',⟨out,σ',hQ,d',g4,rfl⟩,rfl,h',r2⟩:=hq
        obtain ⟨F'',μ'',h'',r3⟩:=g4 a w' v F' μ' (wk h') r2
        exact ⟨h'.defers,_,_,hQ,F'',μ'',v,⟨h''.hr,h''.step,h''.fr,h''.col⟩,rfl,r3⟩
      | outgrown=>exact hq.elim
theorem SWops.next {C:Ctx} {ops:Array Oper} {rest:List Oper} {o:Oper} {env:List (Nat × DV)} {ob:List Ob} {K:XE→St→Prop} {x:Operand} {id mid since c0 clock:Nat} {seen bs:List Nat} {ds es:List DV}
    (hd:dstOk C.n [o] = true) (hg:gd ops env o = some true) (ho:o.op = .next x false) (hx:ev env x = .it id) (hi:ob[id]? = some (.oth (.iter (some mid) since seen c0) es)) (hm:ob[mid]? = some (.oth (.map bs clock) ds))
    (hb:∀ b ∈ bs,b < since) (hc:since≤c0) (hdd:C.dd = [])
    (h0:(∀ (i b:Nat),bs[i]? = some b→b ∈ seen)→SWops C ops rest ⟨upo env o.dst (.tup [.bool false]),ob⟩ K)
    (h1:∀ (i b:Nat) (k v:DV),bs[i]? = some b→b ∉ seen→ds[2 * i]? = some k→ds[2 * i+1]? = some v→SWops C ops rest ⟨upo env o.dst (.tup [.bool true,k,v]),ob.set id (.oth (.iter (some mid) since (seen ++ [b]) clock) [])⟩ K):SWops C ops (o :: rest) ⟨env,ob⟩ K:=by
  replace hd:∀ t,o.dst = some t→t < C.n:=fun t ht=>by
    simp only [dstOk,List.all_cons,ht,List.all_nil,Bool.and_true,decide_eq_true_eq] at hd
    exact hd
  rintro a w ⟨F,μ,hr⟩
  refine wpListIn_step fun K' hK=>?_
  rw [if_pos (gd_wanted hr hg)]
  have hv:=rep_ev hr x
  rw [hx] at hv
  obtain ⟨r,hmu,hev⟩:∃ r,μ id = some r∧a.eval x = .pointer (some ⟨r,0,none⟩):=by
    generalize a.eval x = v at hv
    cases hv with
    | it h _=>exact ⟨_,h,rfl⟩
  obtain ⟨_,vs,⟨rfl,r',mo,g1,g2,rfl,g4⟩,hes,_⟩:=hr.hr.obj _ _ hi
  have hes:es = []:=List.length_eq_zero_iff.1 hes
  subst hes
  rw [hmu] at g1
  cases g1
  obtain ⟨_,vs',⟨rm,me,q1,q2,q3,rfl⟩,q4,q5⟩:=hr.hr.obj _ _ hm
  rw [q1] at g2
  have hborn:∀ y ∈ me.toList,y.born < since:=fun y hy=>hb _ (by rw [← q3]; exact List.mem_map.2 ⟨y,hy,rfl⟩)
  have hrun:=run_next_at (P:=C.P) w o.type r rm since c0 seen.toArray me clock g2 q2 hborn hc
  have hop:∀ {v w'},(Instr.next (.pointer (some ⟨r,0,none⟩)) false o.type).run C.P w = .ok v w'→(execOp a.eval o).run C.P w = .ok (.value v) w':=by
    intro v w' h
    unfold execOp
    rw [ho]
    simp only [hev,Sem.run_bind,h,Result.andThen_ok,Sem.run_pure]
  refine wpIn_of_wp (.inr fun c hc=>by rw [ho] at hc; cases hc) ?_
  unfold Oper.wp
  rcases hrun with ⟨z0,hrun⟩ | ⟨e,he,w1,hw1,hrun⟩
  · rw [hop hrun]
    refine hK _ _ (h0 (fun i b hbi=>?_) _ _ ⟨F,μ,hr.hr,?_,hr.step,hr.fr,hr.col,by rw [put_size]; exact hr.size,by rw [put_defers]; exact hr.defers⟩)
    · rw [← q3,List.getElem?_map] at hbi
      obtain ⟨y,hy,rfl⟩:=Option.map_eq_some_iff.1 hbi
      have hz:=Array.eq_empty_of_size_eq_zero z0
      unfold _root_.Go.leftOf at hz
      rw [Array.filter_eq_empty_iff] at hz
      have:=hz y (by have:=List.mem_of_getElem? hy; simpa using this)
      simpa using this
    · refine env_put (C:=C) (st:=⟨env,ob⟩) hr.size hr.env o.dst hd (.tup rfl fun i d v hd hv=>?_)
      rcases i with _ | i <;> simp at hd hv
      subst hd; subst hv; exact .bool
  · rw [hop hrun]
    have hin:e ∈ me.toList∧e.born ∉ seen:=by
      unfold _root_.Go.leftOf at he
      simp only [Array.toList_filter,List.mem_filter] at he
      exact ⟨he.1,by simpa using he.2⟩
    obtain ⟨i,hie⟩:=List.getElem?_of_mem hin.1
    have hbi:bs[i]? = some e.born:=by rw [← q3,List.getElem?_map,hie]; rfl
    have hfl:=flatE_get me.toList i
    rw [hie] at hfl
    simp only [Option.map_some] at hfl
    have hlen:i < me.toList.length:=(List.getElem?_eq_some_iff.1 hie).1
    have hdl:ds.length = 2 * me.toList.length:=by rw [q4,flatE_length]
    have hk:ds[2 * i]? = some (ds[2 * i]'(by omega)):=List.getElem?_eq_getElem _
    have hvv:ds[2 * i+1]? = some (ds[2 * i+1]'(by omega)):=List.getElem?_eq_getElem _
    have rk:=q5 _ _ _ hk hfl.1
    have rv:=q5 _ _ _ hvv hfl.2
    have hhr1:HR w1 F μ ob∧Step w F μ ob w1 F μ ob∧Fr w μ w1 μ:=by
      rcases hw1 with rfl | rfl
      · exact ⟨hr.hr,Step.refl ..,Fr.refl ..⟩
      · exact ⟨hr.hr.drew1,step_drew1,fr_drew1⟩
    obtain ⟨s1,s2,s3⟩:=hhr1
    have hsb:ChangeMaps.setBlock w1 r (.mapIter (some rm) since (seen.toArray.push e.born) clock) = wset w1 r (.mapIter (some rm) since (seen.toArray.push e.born) clock):=rfl
    have hmidid:mid ≠ id:=fun e=>by rw [e,hi] at hm; cases hm
    obtain ⟨p1,p2,p3⟩:=s1.turn (t':=.iter (some mid) since (seen ++ [e.born]) clock) (ds':=[]) (.mapIter (some rm) since (seen.toArray.push e.born) clock) hi hmu rfl fun hst hbk=>⟨fun j hj=>by
      simp only [OT.refs,List.mem_singleton] at hj
      subst hj
      exact ⟨_,_,by rw [List.getElem?_set,if_neg (fun e=>hmidid e.symm)]; exact hm⟩,[],⟨rfl,r,some rm,hmu,by (show (wset w1 r _).heap[r]? = _); rw [hbk]; simp,q1.symm,rfl⟩,rfl,fun i d v hd=>by simp at hd⟩
    rw [hsb]
    refine hK _ _ (h1 i e.born _ _ hbi hin.2 hk hvv _ _ ⟨F,μ,p1,?_,(hr.step.trans s2).trans p2,(hr.fr.trans s3).trans p3,hr.col,by rw [put_size]; exact hr.size,by rw [put_defers]; exact hr.defers.step (s2.trans p2)⟩)
    refine env_put (C:=C) (st:=⟨env,ob.set id (.oth (.iter (some mid) since (seen ++ [e.born]) clock) [])⟩) hr.size (fun t=>((hr.env t).step s2).step p2) o.dst hd (.tup rfl fun j d v hd hv=>?_)
    rcases j with _ | _ | _ | j <;> simp at hd hv
    · subst hd; subst hv; exact .bool
    · subst hd; subst hv; exact (rk.step s2).step p2
    · subst hd; subst hv; exact (rv.step s2).step p2
end Go.VL
end
section
namespace Go.VL
open Go
theorem SWops.eqNil {C:Ctx} {L:Lay} (hL:LayOk C.P L) {ops:Array Oper} {rest:List Oper} {o:Oper} {env:List (Nat × DV)} {ob:List Ob} {K:XE→St→Prop} {x y:Operand} {t t' c k:Nat} {xs:List DV}
    (hd:dstOk C.n [o] = true) (hg:gd ops env o = some true) (ho:o.op = .binOp .eql t x y t') (ht:∃ ti e,L t = some ti∧ti.d = .slice e) (hx:ev env x = .vec c k xs) (hy:ev env y = .nils)
    (h:∀ b,(0 < xs.length→b = false)→SWops C ops rest ⟨upo env o.dst (.bool b),ob⟩ K):SWops C ops (o :: rest) ⟨env,ob⟩ K:=by
  replace hd:∀ t,o.dst = some t→t < C.n:=fun t ht=>by
    simp only [dstOk,List.all_cons,ht,List.all_nil,Bool.and_true,decide_eq_true_eq] at hd
    exact hd
  rintro a w ⟨F,μ,hr⟩
  refine wpListIn_step fun K' hK=>?_
  rw [if_pos (gd_wanted hr hg)]
  have hv:=rep_ev hr x
  have hv2:=rep_ev hr y
  rw [hx] at hv
  rw [hy] at hv2
  obtain ⟨A,cap,hev,hA⟩:∃ A cap,a.eval x = .slice A xs.length cap∧(0 < xs.length→A.isNone = false):=by
    generalize a.eval x = v at hv
    cases hv with
    | vec u hc hm ha hk hr=>exact ⟨_,_,rfl,fun h0=>by obtain ⟨a,rfl,_⟩:=ha h0; rfl⟩
  have hev2:a.eval y = .slice none 0 0:=by
    generalize a.eval y = v at hv2
    cases hv2 with
    | nils=>rfl
  obtain ⟨ti,e,ht,hte⟩:=ht
  obtain ⟨desc,hu,hds⟩:=(hL _ _ ht).und
  rw [hte] at hds
  cases hds
  have he:(Op.equal t (.slice A xs.length cap) (.slice none 0 0)).run C.P w = .ok A.isNone w:=by
    have key:∀ n,(Op.equalIn (n+1) t (.slice A xs.length cap) (.slice none 0 0)).run C.P w = .ok A.isNone w:=fun n=>by
      simp only [Op.equalIn,Sem.run_bind,run_underlying hu,Result.andThen_ok]
      cases A <;> rfl
    exact key 9999
  have hgd:(eqGuard .eql t x y (.slice A xs.length cap) (.slice none 0 0)).run C.P w = .ok () w:=rfl
  have hrun:(do eqGuard .eql t x y (a.eval x) (a.eval y); binOp .eql t (a.eval x) (a.eval y):Sem Value).run C.P w = .ok (.bool A.isNone) w:=by
    rw [hev,hev2,Sem.run_bind,hgd,Result.andThen_ok]
    simp [binOp,he]
  have hex:(execOp a.eval o).run C.P w = .ok (.value (.bool A.isNone)) w:=by
    simp only [execOp,ho]
    rw [Sem.run_bind,hrun]
    rfl
  refine wpIn_of_wp (.inr fun c hc=>by rw [ho] at hc; cases hc) ?_
  unfold Oper.wp
  rw [hex]
  exact hK _ _ (h A.isNone (fun h0=>hA h0) _ _ ⟨F,μ,hr.hr,env_put (C:=C) (st:=⟨env,ob⟩) hr.size hr.env o.dst hd .bool,hr.step,hr.fr,hr.col,by rw [put_size]; exact hr.size,by rw [put_defers]; exact hr.defers⟩)
theorem Ghost.newNilIn (m i e ke:Nat) {C:Ctx} {env:List (Nat × DV)} {ob:List Ob} {t k:Nat} {cs:List DV} (ho:ob[m]? = some (.arr t k [.agg cs])) (hc:cs[i]? = some .nils) :
    Ghost C ⟨env,ob⟩ ⟨env,ob.set m (.arr t k [.agg (cs.set i (.sl ob.length 0 0 0))]) ++ [.arr e ke []]⟩:=by
  rintro a w ⟨F,μ,h⟩
  obtain ⟨h1,h2⟩:=h.hr.pushNil e ke
  have hml:=(List.getElem?_eq_some_iff.1 ho).1
  have hil:=(List.getElem?_eq_some_iff.1 hc).1
  have ho':(ob ++ [Ob.arr e ke []])[m]? = some (.arr t k [.agg cs]):=by rw [List.getElem?_append_left hml]; exact ho
  obtain ⟨hk,hor⟩:=h1.obj _ _ ho'
  rcases hor with ⟨he,_⟩ | ⟨b,cur,fr,hb,hh,hfr,hcells⟩
  · cases he
  have hnew:∀ v,Rep w F μ (ob ++ [.arr e ke []]) .nils v→Rep w F μ (ob ++ [.arr e ke []]) (.sl ob.length 0 0 0) v:=by
    intro v hv
    cases hv
    exact .sl ⟨e,ke,[],by simp,by omega,by simp,by omega,by simp [maxLen],fun _=>.inl ⟨rfl,rfl,rfl,h.hr.out _ (Nat.le_refl _)⟩⟩
  have hkc:=hk (.agg cs) (by simp)
  simp only [DV.cells] at hkc
  obtain ⟨p1,p2,p3⟩:=h1.write (ys:=[.agg (cs.set i (.sl ob.length 0 0 0))]) (cur':=cur) ho' hb hh hfr rfl (Nat.le_refl _) (fun y hy=>by
    rw [List.mem_singleton.1 hy]
    simpa [DV.cells] using hkc) (fun j q y d hy hd=>by
    match j,hy with
    | 0,hy =>
      simp only [List.getElem?_cons_zero,Option.some.injEq] at hy
      subst hy
      simp only [DV.cells] at hd
      rw [List.getElem?_set] at hd
      split at hd
      · rename_i e1
        subst e1
        cases hd
        obtain ⟨v,g1,g2⟩:=hcells 0 i (.agg cs) .nils rfl hc
        exact ⟨v,g1,hnew v g2⟩
      · exact hcells 0 q (.agg cs) d rfl hd
    | j+1,hy=>simp at hy)
  rw [wset_same hh,List.set_append_left _ _ hml] at p1 p2
  exact ⟨F,μ,p1,fun t=>((h.env t).step h2).step p2,(h.step.trans h2).trans p2,h.fr,h.col,h.size,(h.defers.step h2).step p2⟩
end Go.VL
end
section
namespace Go.VL
open Go
theorem Ghost.giveAt (c s n:Nat) {C:Ctx} {env:List (Nat × DV)} {σ X:List Ob} {t k:Nat} {xs:List DV} (l:List (Nat × DV)) (hσ:C.σ0 = σ) (hf:Fixed σ) (hX:X[n]? = some (.arr t k xs)) (hl:agree env ((s,.sl (σ.length+n) xs.length 0 xs.length) :: l)) (he:envNoId (σ.length+n) l)
    (ho:obsNoId (σ.length+n) X) (hx:∀ x ∈ xs,NoId (σ.length+n) x) (hdd:C.dd = []:=by assumption):Ghost C ⟨env,σ ++ X⟩ ⟨(s,.vec c k xs) :: l,σ ++ X.set n .dead⟩:=by
  refine Ghost.trans (Ghost.weak (Weak.of_agree rfl hl)) ?_
  have hg:(σ ++ X)[σ.length+n]? = some (.arr t k xs):=by rw [List.getElem?_append_right (by omega),show σ.length+n - σ.length = n by omega]; exact hX
  refine Ghost.trans (Ghost.kill (id:=σ.length+n) (t:=t) (k:=k) (xs:=xs) c hg (by rw [hσ]; omega) hx (by rw [hdd]; trivial)) ?_
  have e1:fzE (σ.length+n) xs.length (asVec c k xs) ((s,.sl (σ.length+n) xs.length 0 xs.length) :: l) = (s,.vec c k xs) :: l:=by
    have:=envNoId_fz he xs.length (asVec c k xs)
    unfold fzE at this ⊢
    rw [List.map_cons,this]
    simp [fz,asVec]
  have e2:(σ ++ X).map (fzOb (σ.length+n) xs.length (asVec c k xs)) = σ ++ X:=obs_fix (fun N r=>hf _ (by omega) N r) ho _ _
  rw [e1,e2,List.set_append_right _ _ (by omega),show σ.length+n - σ.length = n by omega]
  exact Ghost.refl _ _
end Go.VL
end
section
namespace Go.VL
open Go
theorem Ok.less {P:Program} {f:FuncId} {args args':List DV} {σ σ':List Ob} {o:Out} (h:Ok P f args σ o σ') (hl:args.length = args'.length) (ha:∀ (w:World) (F:Nat→Nat→Prop) (μ:Nat→Option Nat) (i:Nat) (d d':DV) (v:Value),args[i]? = some d→args'[i]? = some d'→Rep w F μ σ d' v→Rep w F μ σ d v):Ok P f args' σ o σ' :=
  ⟨h.enters,fun w F μ vs hr hv=>h.calls w F μ vs hr ⟨hl.trans hv.1,fun i d v hd hv'=>by
    have hi:=(List.getElem?_eq_some_iff.1 hd).1
    exact ha w F μ i d _ v hd (List.getElem?_eq_getElem (by omega)) (hv.2 i _ v (List.getElem?_eq_getElem (by omega)) hv')⟩⟩
end Go.VL
end
section
namespace Go.VL
open Go
def DV.unx:DV→DV
  | .slx id g off len _=>.sl id g off len
  | d=>d
section
variable {P:Program} {L:Lay} {w:World} {F:Nat→Nat→Prop} {μ:Nat→Option Nat} {σ:List Ob}
theorem rep_unx {d:DV} {v:Value} (h:Rep w F μ σ d v):Rep w F μ σ d.unx v:=by
  cases h with
  | slx h=>exact .sl h
  | int=>exact .int
  | bool=>exact .bool
  | str=>exact .str
  | vec u hc hm ha hk hr=>exact .vec u hc hm ha hk hr
  | agg hl h=>exact .agg hl h
  | tup hl h=>exact .tup hl h
  | ptr h=>exact .ptr h
  | vptr u hF hu hr=>exact .vptr u hF hu hr
  | sl h=>exact .sl h
  | nils=>exact .nils
  | nilp=>exact .nilp
  | fn hl h=>exact .fn hl h
  | nilf=>exact .nilf
  | iface h=>exact .iface h
  | nili=>exact .nili
  | mp h ho=>exact .mp h ho
  | it h ho=>exact .it h ho
  | yld h ho=>exact .yld h ho
  | emp=>exact .emp
  | undef=>exact .undef
  | skip=>exact .skip
theorem Ghost.unx {C:Ctx} {env:List (Nat × DV)} {ob:List Ob} (s:Nat) {id g off len cap:Nat} (hs:lk env s = .slx id g off len cap):Ghost C ⟨env,ob⟩ ⟨up env s (.sl id g off len),ob⟩:=by
  rintro a w ⟨F,μ,hr⟩
  refine ⟨F,μ,hr.hr,fun t=>?_,hr.step,hr.fr,hr.col,hr.size,hr.defers⟩
  rw [lk_up]
  by_cases e:s = t
  · subst e
    rw [if_pos rfl]
    have:=rep_unx (hr.env s)
    dsimp only at this
    rw [hs] at this
    exact this
  · rw [if_neg e]; exact hr.env t
end
end Go.VL
end
section
namespace Go.VL
open Go
section
variable {P:Program} {L:Lay} {w:World} {F:Nat→Nat→Prop} {μ:Nat→Option Nat} {σ:List Ob}
section
variable {o:Oper} {st:St} {xa:Array Operand} {ts:Array TypeId} {t t' e id i:Nat} {te:TI} {x1 x2:Operand} {xs ys:List DV}
    (hL:LayOk P L) (ho:o.op = .call { callee:=.builtin .append,args:=xa,argTypes:=ts }) (hx:xa.toList = [x1,x2]) (hts:ts.toList = [t,t']) {q0:Bool} {k0 b0:Nat} {z0:DV} (ht:L t = some ⟨q0,k0,b0,.slice e,z0⟩) (hte:L e = some te) (hb0:0 < te.bytes) (hz1:te.zero.cells.all DV.one = true)
    (hys:srcM L st.ob te t' (ev st.env x2) = some ys) (hone:∀ y ∈ ys,∀ c ∈ y.cells,c.one = true) (hone2:∀ y ∈ xs,∀ c ∈ y.cells,c.one = true) (hob:st.ob[id]? = some (.arr e te.k xs)) (hy0:0 < ys.length) (hb:(i+ys.length) * te.bytes≤140737488355328)
include hL ho hx hts ht hte hb0 hz1 hys hone hone2 hob hy0 hb
end
end
end Go.VL
end
section
namespace Go.VL
open Go
theorem GhostV.move {C:Ctx} {σ:List Ob} {t k id off len:Nat} {xs ys:List DV} (hσ:C.σ0 = σ) (hf:Fixed σ) (ho:σ[id]? = some (.arr t k xs)) (hlt:xs.length < ys.length) (hy:∀ y ∈ ys,Low σ.length y) (hdd:C.dd = []:=by assumption) :
    GhostV C (.sl σ.length ys.length off len) (σ ++ [.arr t k ys]) (.sl id ys.length off len) (σ.set id (.arr t k ys)):=by
  intro a w v F μ h hv
  have hidl:=(List.getElem?_eq_some_iff.1 ho).1
  have hne:id ≠ σ.length:=by omega
  obtain ⟨m,hm⟩:∃ m,m = σ.length:=⟨_,rfl⟩
  have hget:∀ i,(σ ++ [Ob.arr t k ys])[i]? = if i = m then some (.arr t k ys) else σ[i]?:=fun i=>by rw [push_get,hm]
  have hobm:(σ ++ [Ob.arr t k ys])[m]? = some (.arr t k ys):=by rw [hget,if_pos rfl]
  have hobid:(σ ++ [Ob.arr t k ys])[id]? = some (.arr t k xs):=by rw [hget,if_neg (by omega)]; exact ho
  obtain ⟨μa,hμa⟩:∃ μa:Nat→Option Nat,μa = fun i=>if i = id then μ m else μ i:=⟨_,rfl⟩
  obtain ⟨μ',hμ'⟩:∃ μ':Nat→Option Nat,μ' = fun i=>if i = id then μ m else if i = m then Option.none else μ i:=⟨_,rfl⟩
  have ma:∀ i,i ≠ id→μa i = μ i:=fun i hi=>by rw [hμa]; exact if_neg hi
  have m1:μ' id = μ m:=by rw [hμ']; exact if_pos rfl
  have m2:μ' m = Option.none:=by rw [hμ']; dsimp only; rw [if_neg (by omega),if_pos rfl]
  have m3:∀ i,i ≠ id→i ≠ m→μ' i = μ i:=fun i h1 h2=>by rw [hμ']; dsimp only; rw [if_neg h1,if_neg h2]
  -- a longer object stands where the shorter one stood
  have st1:Step w F μ (σ ++ [Ob.arr t k ys]) w F μa ((σ ++ [Ob.arr t k ys]).set id (.arr t k ys)):=by
    have hl:id < (σ ++ [Ob.arr t k ys]).length:=by simp; omega
    refine ⟨fun _ _ _=>rfl,fun _ _ h=>h,fun i o h=>?_,fun i t' k' zs us h h' he=>?_,fun i tt es h=>?_⟩
    · rw [set_get hl]
      by_cases hi:id = i
      · subst hi
        rw [hobid] at h; cases h
        exact ⟨_,by rw [if_pos rfl],ys,rfl,by omega⟩
      · exact ⟨o,by rw [if_neg hi]; exact h,Ob.ext_refl o⟩
    · rw [set_get hl] at h'
      by_cases hi:id = i
      · subst hi
        rw [if_pos rfl] at h'
        rw [hobid] at h
        cases h; cases h'
        omega
      · exact ⟨ma i (fun e=>hi e.symm),fun b cur fr hb hh=>⟨cur,fr,hh,rfl⟩⟩
    · rw [ma]
      rintro rfl
      rw [hobid] at h; cases h
  have all:∀ d v,Rep w F μ (σ ++ [Ob.arr t k ys]) d v→Rep w F μ' (σ.set id (.arr t k ys)) (fz m ys.length (fun off len=>.sl id ys.length off len) d) v:=by
    intro d v hd
    refine Rep.fz (F:=F) (fun _ _=>rfl) (fun _ _ h=>h) (fun i hi=>?_) (fun i o hi h=>?_) (fun off len A cap hs=>?_) (hd.step st1)
    · by_cases e:i = id
      · subst e; rw [m1,hμa]; exact (if_pos rfl).symm
      · rw [m3 i e hi,ma i e]
    · have hil:i < (σ ++ [Ob.arr t k ys]).length:=by have:=(List.getElem?_eq_some_iff.1 h).1; simpa using this
      have hil':i < σ.length:=by simp at hil; omega
      rw [List.set_append_left _ _ hidl,List.getElem?_append_left (by simpa using hil')] at h
      exact ⟨o,h,by cases o with
        | arr t' k' zs=>exact ⟨_,rfl,rfl⟩
        | oth t' ds=>exact ⟨_,rfl⟩
        | dead=>rfl⟩
    · obtain ⟨t2,k2,xs2,ho2,g1,g2,g3,g4,g5⟩:=hs
      rw [set_get (by simp; omega),if_neg (by omega),hobm] at ho2
      cases ho2
      refine .sl ⟨t,k,ys,by rw [set_get hidl,if_pos rfl],g1,g2,g3,g4,fun e=>?_⟩
      rw [m1]
      have:=g5 rfl
      rw [ma m (by omega)] at this
      exact this
  have low:∀ d v,Low σ.length d→Rep w F μ (σ ++ [Ob.arr t k ys]) d v→Rep w F μ' (σ.set id (.arr t k ys)) d v:=by
    intro d v hl hd
    have:=all d v hd
    rwa [hl m (by omega)] at this
  have hsig:∀ (i:Nat) (o:Ob),i ≠ id→(σ.set id (.arr t k ys))[i]? = some o→σ[i]? = some o:=by
    intro i o hi h
    rw [set_get hidl,if_neg (fun e=>hi e.symm)] at h
    exact h
  have hfix:∀ (i:Nat) (o:Ob),σ[i]? = some o→fzOb m ys.length (fun off len=>.sl id ys.length off len) o = o:=by
    intro i o h
    have:=hf m (by omega) ys.length (fun off len=>.sl id ys.length off len)
    have h2:(σ.map (fzOb m ys.length (fun off len=>.sl id ys.length off len)))[i]? = some o:=by rw [this]; exact h
    rw [List.getElem?_map,h] at h2
    simpa using h2
  have hhr:HR w F μ' (σ.set id (.arr t k ys)):=by
    refine ⟨fun i o ho'=>?_,fun i hi=>?_,fun i j b h1 h2=>?_,fun i b hb=>?_,fun c b hb=>⟨(h.hr.col c b hb).1,fun i hi=>?_⟩⟩
    · by_cases hi:i = id
      · subst hi
        rw [set_get hidl,if_pos rfl] at ho'
        cases ho'
        obtain ⟨z1,z2⟩:=h.hr.obj m _ hobm
        refine ⟨z1,?_⟩
        rcases z2 with ⟨e1,_⟩ | ⟨b,cur,fr,hb,hh,hfr,hcells⟩
        · rw [e1] at hlt; simp at hlt
        · refine .inr ⟨b,cur,fr,by rw [m1]; exact hb,hh,hfr,fun j q y d hy' hd=>?_⟩
          obtain ⟨v,g1,g2⟩:=hcells j q y d hy' hd
          exact ⟨v,g1,low d v (low_cells (hy y (List.mem_of_getElem? hy')) hd) g2⟩
      · have hs:=hsig i o hi ho'
        have hil:=(List.getElem?_eq_some_iff.1 hs).1
        have him:i ≠ m:=by omega
        have hfx:=hfix i o hs
        have:=h.hr.obj i o (by rw [hget,if_neg him]; exact hs)
        cases o with
        | arr t' k' zs =>
          obtain ⟨z1,z2⟩:=this
          refine ⟨z1,?_⟩
          simp only [fzOb,Ob.arr.injEq,true_and] at hfx
          rcases z2 with ⟨e1,e2⟩ | ⟨b,cur,fr,hb,hh,hfr,hcells⟩
          · exact .inl ⟨e1,by rw [m3 i hi him]; exact e2⟩
          · refine .inr ⟨b,cur,fr,by rw [m3 i hi him]; exact hb,hh,hfr,fun j q y d hy' hd=>?_⟩
            obtain ⟨v,g1,g2⟩:=hcells j q y d hy' hd
            have hyf:fz m ys.length (fun off len=>.sl id ys.length off len) y = y:=by
              have h2:(zs.map (fz m ys.length (fun off len=>.sl id ys.length off len)))[j]? = some y:=by rw [hfx]; exact hy'
              rw [List.getElem?_map,hy'] at h2
              simpa using h2
            have hdf:fz m ys.length (fun off len=>.sl id ys.length off len) d = d:=by
              have h2:=fz_cells (id:=m) (N:=ys.length) (r:=fun off len=>.sl id ys.length off len) (fun _ _=>rfl) y
              rw [hyf] at h2
              have h3:(y.cells.map (fz m ys.length (fun off len=>.sl id ys.length off len)))[q]? = some d:=by rw [← h2]; exact hd
              rw [List.getElem?_map,hd] at h3
              simpa using h3
            have:=all d v g2
            rw [hdf] at this
            exact ⟨v,g1,this⟩
        | oth t' ds =>
          obtain ⟨g0,vs,g1,g2,g3⟩:=this
          simp only [fzOb,Ob.oth.injEq,true_and] at hfx
          have hrf:∀ q ∈ t'.refs,q ≠ id∧q ≠ m:=fun q hq=>by
            obtain ⟨t2,es,e⟩:=g0 q hq
            exact ⟨fun e'=>(by rw [e',hobid] at e; cases e),fun e'=>(by rw [e',hobm] at e; cases e)⟩
          refine ⟨fun q hq=>?_,vs,g1.keep (fun b _=>rfl) (m3 i hi him) (fun q hq=>m3 q (hrf q hq).1 (hrf q hq).2),g2,fun j e v he hv=>?_⟩
          · obtain ⟨t2,es,e⟩:=g0 q hq
            rw [hget,if_neg (hrf q hq).2] at e
            exact ⟨t2,es,by rw [set_get hidl,if_neg (fun e'=>(hrf q hq).1 e'.symm)]; exact e⟩
          · have hdf:fz m ys.length (fun off len=>.sl id ys.length off len) e = e:=by
              have h2:(ds.map (fz m ys.length (fun off len=>.sl id ys.length off len)))[j]? = some e:=by rw [hfx]; exact he
              rw [List.getElem?_map,he] at h2
              simpa using h2
            have:=all e v (g3 j e v he hv)
            rwa [hdf] at this
        | dead=>exact (m3 i hi him).trans this
    · simp at hi
      by_cases e:i = m
      · subst e; exact m2
      · rw [m3 i (by omega) e]
        exact h.hr.out i (by simp; omega)
    · have key:∀ i b,μ' i = some b→(i = id∧μ m = some b)∨(i ≠ id∧i ≠ m∧μ i = some b):=by
        intro i b hb
        by_cases e1:i = id
        · subst e1; rw [m1] at hb; exact .inl ⟨rfl,hb⟩
        · by_cases e2:i = m
          · subst e2; rw [m2] at hb; cases hb
          · rw [m3 i e1 e2] at hb; exact .inr ⟨e1,e2,hb⟩
      rcases key i b h1 with ⟨e1,k1⟩ | ⟨e1,e2,k1⟩ <;> rcases key j b h2 with ⟨f1,l1⟩ | ⟨f1,f2,l1⟩
      · rw [e1,f1]
      · exact absurd (h.hr.inj _ _ _ l1 k1) f2
      · exact absurd (h.hr.inj _ _ _ k1 l1) e2
      · exact h.hr.inj _ _ _ k1 l1
    · by_cases e1:i = id
      · subst e1; rw [m1] at hb; exact h.hr.lt _ _ hb
      · by_cases e2:i = m
        · subst e2; rw [m2] at hb; cases hb
        · rw [m3 i e1 e2] at hb; exact h.hr.lt _ _ hb
    · by_cases e1:i = id
      · subst e1; rw [m1] at hi; exact (h.hr.col c b hb).2 _ hi
      · by_cases e2:i = m
        · subst e2; rw [m2] at hi; cases hi
        · rw [m3 i e1 e2] at hi; exact (h.hr.col c b hb).2 _ hi
  have hs0:∀ (i:Nat) (o:Ob),C.σ0[i]? = some o→i ≠ m:=by
    rintro i o hi rfl
    rw [hσ] at hi
    have:=(List.getElem?_eq_some_iff.1 hi).1
    omega
  refine ⟨F,μ',⟨hhr,fun q=>.undef,⟨h.step.imm,h.step.col,fun i o hi=>?_,fun i t' k' zs us hz hu he=>?_,fun i tt es hi=>?_⟩,⟨h.fr.os,h.fr.tape,h.fr.output,h.fr.size,h.fr.keep,fun i b hb=>?_,h.fr.drawn⟩,h.col,h.size,?_⟩,?_⟩
  · obtain ⟨o',g1,g2⟩:=h.step.ext i o hi
    rw [hget,if_neg (hs0 i o hi)] at g1
    by_cases e:i = id
    · subst e
      rw [ho] at g1
      cases g1
      refine ⟨_,by rw [set_get hidl,if_pos rfl],?_⟩
      exact Ob.ext_trans g2 ⟨ys,rfl,by omega⟩
    · exact ⟨o',by rw [set_get hidl,if_neg (fun e'=>e e'.symm)]; exact g1,g2⟩
  · have him:=hs0 i _ hz
    by_cases e:i = id
    · subst e
      rw [set_get hidl,if_pos rfl] at hu
      cases hu
      obtain ⟨o',g1,us,rfl,g3⟩:=h.step.ext i _ hz
      rw [hobid] at g1
      cases g1
      omega
    · rw [m3 i e him]
      refine h.step.same i t' k' zs us hz ?_ he
      rw [hget,if_neg him]
      exact hsig i _ e hu
  · have him:=hs0 i _ hi
    have hii:i ≠ id:=by
      rintro rfl
      rw [hσ,ho] at hi
      cases hi
    rw [m3 i hii him]
    exact h.step.othsame i tt es hi
  · by_cases e1:i = id
    · subst e1
      rw [m1] at hb
      rcases h.fr.new m b hb with e | e
      · rw [C.out m (by rw [hσ]; omega)] at e; cases e
      · exact .inr e
    · by_cases e2:i = m
      · subst e2; rw [m2] at hb; cases hb
      · rw [m3 i e1 e2] at hb; exact h.fr.new i b hb
  · have hd:=h.defers
    rw [hdd] at hd ⊢
    exact hd
  · have:=all _ _ (hm ▸ hv)
    simp only [fz,if_true] at this
    exact this
end Go.VL
end
section
namespace Go.VL
open Go
inductive Gz (O:List Ob) (c n:Nat) (J:Option Nat):DV→DV→Prop
  | low {d} (h:Low n d):Gz O c n J d d
  | nil {k}:Gz O c n J .nils (.vec c k [])
  | emp {k}:Gz O c n J .emp (.vec c k [])
  | own {id g off l} (h:J = some id):Gz O c n J (.sl id g off l) (.sl n g off l)
  | agg {xs ys:List DV} (hl:xs.length = ys.length) (h:∀ (i:Nat) (x y:DV),xs[i]? = some x→ys[i]? = some y→Gz O c n J x y):Gz O c n J (.agg xs) (.agg ys)
  | tup {xs ys:List DV} (hl:xs.length = ys.length) (h:∀ (i:Nat) (x y:DV),xs[i]? = some x→ys[i]? = some y→Gz O c n J x y):Gz O c n J (.tup xs) (.tup ys)
  | sl {id off l t k:Nat} {xs ys:List DV} (hn:n≤id) (hJ:J ≠ some id) (ho:O[id]? = some (.arr t k xs)) (hl:ys.length = l)
      (hk:∀ (j:Nat) (x y:DV),j < l→xs[off+j]? = some x→ys[j]? = some y→x.cells.length = y.cells.length)
      (h:∀ (j i:Nat) (x y d D:DV),j < l→xs[off+j]? = some x→ys[j]? = some y→x.cells[i]? = some d→y.cells[i]? = some D→Gz O c n J d D):Gz O c n J (.sl id xs.length off l) (.vec c k ys)
section
variable {w:World} {F F':Nat→Nat→Prop} {μ μ':Nat→Option Nat} {O O':List Ob} {c n:Nat} {J:Option Nat}
theorem Rep.lowN (hF:∀ c b,F c b→F' c b) (hσ:∀ (i:Nat) (o:Ob),i < n→O[i]? = some o→O'[i]? = some o) (hμ:∀ i,i < n→μ' i = μ i) {d:DV} {v:Value} (h:Rep w F μ O d v):Low n d→Rep w F' μ' O' d v:=by
  have sl:∀ {id g off len:Nat} {A:Option Addr} {cap:Nat},id < n→SlOk w μ O id g off len A cap→SlOk w μ' O' id g off len A cap:=by
    rintro id g off len A cap hi ⟨t,k,xs,h1,h2,h3,h4,h5,h6⟩
    exact ⟨t,k,xs,hσ _ _ hi h1,h2,h3,h4,h5,by rw [hμ _ hi]; exact h6⟩
  induction h with
  | int=>intro _; exact .int
  | bool=>intro _; exact .bool
  | str=>intro _; exact .str
  | vec u hc hm ha hk hr ih =>
    intro hl
    exact .vec u hc hm (fun h0=>by obtain ⟨a,f1,f2,f3⟩:=ha h0; exact ⟨a,f1,hF _ _ f2,f3⟩) hk fun j i x d hx hd=>ih j i x d hx hd (low_cells ((low_vec _ _ _).1 hl x (List.mem_of_getElem? hx)) hd)
  | agg hl h ih=>intro h0; exact .agg hl fun i d v hd hv=>ih i d v hd hv ((low_agg _).1 h0 d (List.mem_of_getElem? hd))
  | tup hl h ih=>intro h0; exact .tup hl fun i d v hd hv=>ih i d v hd hv ((low_tup _).1 h0 d (List.mem_of_getElem? hd))
  | ptr h =>
    intro h0
    have hi:=(low_ptr _ _ _ _).1 h0
    obtain ⟨t,k,xs,h1,h2,h3⟩:=h
    exact .ptr ⟨t,k,xs,hσ _ _ hi h1,h2,by rw [hμ _ hi]; exact h3⟩
  | vptr u hF' hu hr ih=>intro h0; exact .vptr u (hF _ _ hF') hu fun i d hd=>ih i d hd ((low_vptr _ _).1 h0 d (List.mem_of_getElem? hd))
  | sl h=>intro h0; exact .sl (sl ((low_sl _ _ _ _).1 h0) h)
  | slx h=>intro h0; exact .slx (sl ((low_slx _ _ _ _ _).1 h0) h)
  | nils=>intro _; exact .nils
  | nilp=>intro _; exact .nilp
  | fn hl h ih=>intro h0; exact .fn hl fun i d v hd hv=>ih i d v hd hv ((low_fn _ _).1 h0 d (List.mem_of_getElem? hd))
  | nilf=>intro _; exact .nilf
  | iface h ih=>intro h0; exact .iface (ih ((low_iface _ _).1 h0))
  | nili=>intro _; exact .nili
  | mp h ho=>intro h0; have hi:=(low_mp _).1 h0; obtain ⟨t,ds,e,hk⟩:=ho; exact .mp (by rw [hμ _ hi]; exact h) ⟨t,ds,hσ _ _ hi e,hk⟩
  | it h ho=>intro h0; have hi:=(low_it _).1 h0; obtain ⟨t,ds,e,hk⟩:=ho; exact .it (by rw [hμ _ hi]; exact h) ⟨t,ds,hσ _ _ hi e,hk⟩
  | yld h ho=>intro h0; have hi:=(low_yld _).1 h0; obtain ⟨t,ds,e,hk⟩:=ho; exact .yld (by rw [hμ _ hi]; exact h) ⟨t,ds,hσ _ _ hi e,hk⟩
  | emp=>intro _; exact .emp
  | undef=>intro _; exact .undef
  | skip=>intro _; exact .skip
theorem Gz.rep (hr:HR w F μ O) (hlow:∀ d v,Low n d→Rep w F μ O d v→Rep w F' μ' O' d v) (hown:∀ (id g off len:Nat) (A:Option Addr) (cap:Nat),J = some id→SlOk w μ O id g off len A cap→SlOk w μ' O' n g off len A cap)
    (hμ:∀ id b,n≤id→J ≠ some id→μ id = some b→F' c b) {d D:DV} (h:Gz O c n J d D):∀ v,Rep w F μ O d v→Rep w F' μ' O' D v:=by
  induction h with
  | low h=>intro v hv; exact hlow _ v h hv
  | nil =>
    intro v hv
    cases hv
    exact .vec (A:=none) (cap:=0) (fun _ _=>undef) (by simp) (by simp) (fun h=>by simp at h) (fun x hx=>by simp at hx) (fun j i x d hx=>by simp at hx)
  | emp =>
    intro v hv
    cases hv
    exact .vec (cap:=0) (fun _ _=>undef) (by simp) (by simp) (fun h=>by simp at h) (fun x hx=>by simp at hx) (fun j i x d hx=>by simp at hx)
  | own h =>
    intro v hv
    cases hv with
    | sl hs=>exact .sl (hown _ _ _ _ _ _ h hs)
  | @agg xs ys hl h ih =>
    intro v hv
    cases hv with
    | agg hl' hh =>
      refine .agg (hl.symm.trans hl') fun i d v hd hv=>?_
      have hi:=(List.getElem?_eq_some_iff.1 hd).1
      have hx:xs[i]? = some (xs[i]'(by omega)):=List.getElem?_eq_getElem _
      exact ih i _ _ hx hd v (hh i _ _ hx hv)
  | @tup xs ys hl h ih =>
    intro v hv
    cases hv with
    | tup hl' hh =>
      refine .tup (hl.symm.trans hl') fun i d v hd hv=>?_
      have hi:=(List.getElem?_eq_some_iff.1 hd).1
      have hx:xs[i]? = some (xs[i]'(by omega)):=List.getElem?_eq_getElem _
      exact ih i _ _ hx hd v (hh i _ _ hx hv)
  | @sl id off l t k xs ys hn hJ ho hlen hk h ih =>
    intro v hv
    cases hv with
    | @sl _ _ _ _ A cap hs =>
      obtain ⟨t2,k2,xs2,ho2,q1,q2,q3,q4,q5⟩:=hs
      rw [ho] at ho2
      cases ho2
      obtain ⟨hk1,hor⟩:=hr.obj _ _ ho
      rcases q5 rfl with ⟨g0,rfl,rfl,hmu⟩ | ⟨b,cur,fr,hmu,hh,hsz,hAs,hA⟩
      · have:l = 0:=by omega
        subst this
        have hy:ys = []:=List.length_eq_zero_iff.1 hlen
        subst hy
        exact .vec (A:=none) (cap:=0) (fun _ _=>undef) (by simp) (by simp) (fun h=>by simp at h) (fun x hx=>by simp at hx) (fun j i x d hx=>by simp at hx)
      · rcases hor with ⟨rfl,hmu'⟩ | ⟨b',cur',fr',hmu',hh',hfr',hcells⟩
        · rw [hmu] at hmu'; cases hmu'
        rw [hmu] at hmu'; cases hmu'
        rw [hh] at hh'; cases hh'
        have:=Rep.vec (w:=w) (F:=F') (μ:=μ') (σ:=O') (c:=c) (k:=k) (xs:=ys) (A:=A) (cap:=cap) (fun j i=>(cur[(off+j) * k+i]?).getD undef) (by omega) q4 (fun h0=>by
          refine ⟨_,hA (.inl (by omega)),hμ _ _ hn hJ hmu,fun j i hj hi=>?_⟩
          have hxx:xs[off+j]? = some (xs[off+j]'(by omega)):=List.getElem?_eq_getElem _
          have hxk:=hk1 _ (List.mem_of_getElem? hxx)
          obtain ⟨vv,g1,g2⟩:=hcells (off+j) i _ _ hxx (List.getElem?_eq_getElem (show i < _ by rw [hxk]; exact hi))
          rw [g1]
          rw [add_mk]
          unfold World.cell?
          rw [hh]
          dsimp only
          rw [show off * k+(j * k+i) = (off+j) * k+i by rw [Nat.add_mul]; omega,g1]
          rfl) (fun y hy=>by
          obtain ⟨j,hj⟩:=List.getElem?_of_mem hy
          have hjl:=(List.getElem?_eq_some_iff.1 hj).1
          have hxx:xs[off+j]? = some (xs[off+j]'(by omega)):=List.getElem?_eq_getElem _
          rw [← hk j _ _ (by omega) hxx hj]
          exact hk1 _ (List.mem_of_getElem? hxx)) (fun j i y D hy hD=>by
          have hjl:=(List.getElem?_eq_some_iff.1 hy).1
          have hil:=(List.getElem?_eq_some_iff.1 hD).1
          have hxx:xs[off+j]? = some (xs[off+j]'(by omega)):=List.getElem?_eq_getElem _
          have hlc:=hk j _ _ (by omega) hxx hy
          have hd:(xs[off+j]'(by omega)).cells[i]? = some ((xs[off+j]'(by omega)).cells[i]'(by omega)):=List.getElem?_eq_getElem _
          obtain ⟨vv,g1,g2⟩:=hcells (off+j) i _ _ hxx hd
          rw [g1]
          exact ih j i _ _ _ _ (by omega) hxx hy hd hD vv g2)
        rwa [hlen] at this
end
def Tidy (σ σ1:List Ob):Prop:=σ1.length = σ.length∧∀ (i:Nat) (o:Ob),σ1[i]? = some o→σ[i]? = some o∨(∃ t k xs,o = .arr t k xs∧∀ x ∈ xs,Low σ.length x)∨∃ t ds,o = .oth t ds∧t.refs = []∧∀ d ∈ ds,Low σ.length d
theorem Tidy.refl (σ:List Ob):Tidy σ σ:=⟨rfl,fun _ _ h=>.inl h⟩
theorem Tidy.set {σ σ1:List Ob} (h:Tidy σ σ1) {i t k:Nat} {xs:List DV} (hx:∀ x ∈ xs,Low σ.length x):Tidy σ (σ1.set i (.arr t k xs)):=by
  refine ⟨by simpa using h.1,fun j o ho=>?_⟩
  rcases Nat.lt_or_ge i σ1.length with hi | hi
  · rw [set_get hi] at ho
    split at ho
    · cases ho; exact .inr (.inl ⟨_,_,_,rfl,hx⟩)
    · exact h.2 j o ho
  · rw [List.set_eq_of_length_le hi] at ho
    exact h.2 j o ho
def kept (O:List Ob):Option Nat→List Ob
  | none=>[]
  | some id=>[O.getD id .dead]
theorem After.tidy {w w':World} {F F1:Nat→Nat→Prop} {μ μ1:Nat→Option Nat} {σ σ1 G:List Ob} {c:Nat} {d D:DV} {v:Value} (J:Option Nat) (hr:HR w F μ σ) (haf:After w F μ σ w' F1 μ1 (σ1 ++ G)) (hrep:Rep w' F1 μ1 (σ1 ++ G) d v) (h1:Tidy σ σ1) (hz:Gz (σ1 ++ G) c σ.length J d D)
    (hJ:∀ id,J = some id→σ.length≤id∧∃ t k xs,(σ1 ++ G)[id]? = some (.arr t k xs)∧∀ x ∈ xs,Low σ.length x):∃ F2 μ2,After w F μ σ w' F2 μ2 (σ1 ++ kept (σ1 ++ G) J)∧Rep w' F2 μ2 (σ1 ++ kept (σ1 ++ G) J) D v:=by
  obtain ⟨n,hn⟩:∃ n,n = σ.length:=⟨_,rfl⟩
  have hl1:σ1.length = n:=by rw [hn]; exact h1.1
  rw [← hn] at hz hJ
  obtain ⟨μ2,hμ2⟩:∃ μ2:Nat→Option Nat,μ2 = fun i=>if i < n then μ1 i else if i = n then J.bind μ1 else none:=⟨_,rfl⟩
  obtain ⟨F2,hF2⟩:∃ F2:Nat→Nat→Prop,F2 = fun c' b=>F1 c' b∨(c' = c∧∃ id,n≤id∧J ≠ some id∧μ1 id = some b):=⟨_,rfl⟩
  have m1:∀ i,i < n→μ2 i = μ1 i:=fun i hi=>by rw [hμ2]; exact if_pos hi
  have mn:μ2 n = J.bind μ1:=by rw [hμ2]; dsimp only; rw [if_neg (by omega),if_pos rfl]
  have mo:∀ i,n < i→μ2 i = none:=fun i hi=>by rw [hμ2]; dsimp only; rw [if_neg (by omega),if_neg (by omega)]
  have f1:∀ c b,F1 c b→F2 c b:=fun c b hb=>by rw [hF2]; exact .inl hb
  have g1:∀ (i:Nat) (o:Ob),i < n→(σ1 ++ G)[i]? = some o→(σ1 ++ kept (σ1 ++ G) J)[i]? = some o:=fun i o hi ho=>by
    rw [List.getElem?_append_left (by omega)] at ho ⊢; exact ho
  have low:∀ d v,Low n d→Rep w' F1 μ1 (σ1 ++ G) d v→Rep w' F2 μ2 (σ1 ++ kept (σ1 ++ G) J) d v:=fun d v hd h=>h.lowN f1 g1 m1 hd
  have gJ:∀ id t k xs,J = some id→(σ1 ++ G)[id]? = some (.arr t k xs)→(σ1 ++ kept (σ1 ++ G) J)[n]? = some (.arr t k xs):=by
    rintro id t k xs rfl ho
    rw [List.getElem?_append_right (by omega),hl1,Nat.sub_self]
    simp only [kept,List.getElem?_cons_zero,List.getD_eq_getElem?_getD,ho,Option.getD_some]
  have key:∀ i b,μ2 i = some b→∃ i',μ1 i' = some b∧(i' = i∧i < n∨i = n∧J = some i'∧n≤i'):=by
    intro i b hb
    rcases Nat.lt_trichotomy i n with hi | hi | hi
    · exact ⟨i,by rw [← m1 i hi]; exact hb,.inl ⟨rfl,hi⟩⟩
    · subst hi
      rw [mn] at hb
      cases hj:J with
      | none=>rw [hj] at hb; cases hb
      | some id=>rw [hj] at hb; exact ⟨id,hb,.inr ⟨rfl,rfl,(hJ id hj).1⟩⟩
    · rw [mo i hi] at hb; cases hb
  have newb:∀ i b,n≤i→μ1 i = some b→w.heap.size≤b:=fun i b hi hb=>by
    rcases haf.fr.new i b hb with e | e
    · rw [hr.out i (by omega)] at e; cases e
    · exact e
  have hlowσ:∀ (i:Nat) (o:Ob),σ1[i]? = some o→(∀ t k xs,o = .arr t k xs→∀ x ∈ xs,Low n x)∧∀ t ds,o = .oth t ds→(∀ q ∈ t.refs,q < n)∧∀ d ∈ ds,Low n d:=by
    intro i o ho
    rcases h1.2 i o ho with h2 | ⟨t,k,xs,rfl,h2⟩ | ⟨t,ds,rfl,h2,h3⟩
    · have hob:=hr.obj i o h2
      refine ⟨fun t k xs e x hx=>?_,fun t ds e=>?_⟩
      · subst e
        obtain ⟨z1,z2⟩:=hob
        intro id hid
        refine noId_of_cells fun q e he=>?_
        obtain ⟨j,hj⟩:=List.getElem?_of_mem hx
        rcases z2 with ⟨y1,_⟩ | ⟨b,cur,fr,_,_,_,y4⟩
        · rw [y1] at hx; simp at hx
        · obtain ⟨v,_,hv⟩:=y4 j q x e hj he
          exact hv.noId id (by omega)
      · subst e
        obtain ⟨z0,vs',z1,z2,z3⟩:=hob
        refine ⟨fun q hq=>?_,fun d hd id hid=>?_⟩
        · obtain ⟨_,_,e⟩:=z0 q hq
          have:=(List.getElem?_eq_some_iff.1 e).1
          omega
        · obtain ⟨j,hj⟩:=List.getElem?_of_mem hd
          have hjl:=(List.getElem?_eq_some_iff.1 hj).1
          exact (z3 j d _ hj (List.getElem?_eq_getElem (show j < vs'.length by omega))).noId id (by omega)
    · exact ⟨fun t' k' xs' e x hx=>by cases e; rw [hn]; exact h2 x hx,fun t' ds e=>by cases e⟩
    · exact ⟨fun t' k' xs' e=>(by cases e),fun t' ds' e=>by cases e; exact ⟨fun q hq=>(by rw [h2] at hq; simp at hq),fun d hd=>by rw [hn]; exact h3 d hd⟩⟩
  have hhr:HR w' F2 μ2 (σ1 ++ kept (σ1 ++ G) J):=by
    refine ⟨fun i o ho=>?_,fun i hi=>?_,fun i j b k1 k2=>?_,fun i b hb=>?_,fun c' b hb=>?_⟩
    · rcases Nat.lt_or_ge i n with hi | hi
      · rw [List.getElem?_append_left (by omega)] at ho
        have hoO:(σ1 ++ G)[i]? = some o:=by rw [List.getElem?_append_left (by omega)]; exact ho
        have hob:=haf.hr.obj i o hoO
        obtain ⟨l1,l2⟩:=hlowσ i o ho
        cases o with
        | arr t k xs =>
          obtain ⟨z1,z2⟩:=hob
          refine ⟨z1,z2.imp (fun e=>⟨e.1,by rw [m1 i hi]; exact e.2⟩) ?_⟩
          rintro ⟨b,cur,fr,y1,y2,y3,y4⟩
          refine ⟨b,cur,fr,by rw [m1 i hi]; exact y1,y2,y3,fun j q x d hx hd=>?_⟩
          obtain ⟨v,u1,u2⟩:=y4 j q x d hx hd
          exact ⟨v,u1,low d v (low_cells (l1 t k xs rfl x (List.mem_of_getElem? hx)) hd) u2⟩
        | oth t ds =>
          obtain ⟨z0,vs',z1,z2,z3⟩:=hob
          obtain ⟨l3,l4⟩:=l2 t ds rfl
          refine ⟨fun q hq=>?_,vs',z1.keep (fun b _=>rfl) (m1 i hi) (fun q hq=>m1 q (l3 q hq)),z2,fun j d v hd hv=>low d v (l4 d (List.mem_of_getElem? hd)) (z3 j d v hd hv)⟩
          obtain ⟨t',es,e⟩:=z0 q hq
          exact ⟨t',es,g1 q _ (l3 q hq) e⟩
        | dead=>exact (m1 i hi).trans hob
      · rw [List.getElem?_append_right (by omega),hl1] at ho
        cases hj:J with
        | none=>rw [hj] at ho; simp [kept] at ho
        | some id =>
          obtain ⟨hid,t,k,xs,hO,hx⟩:=hJ id hj
          have hkp:kept (σ1 ++ G) (some id) = [.arr t k xs]:=by simp [kept,List.getD_eq_getElem?_getD,hO]
          rw [hj] at low ho
          rw [hkp] at ho low ⊢
          have hin:i = n:=by
            rcases Nat.eq_zero_or_pos (i - n) with h0 | h0
            · omega
            · rw [List.getElem?_eq_none (by simp; omega)] at ho; cases ho
          subst hin
          simp at ho
          subst ho
          obtain ⟨z1,z2⟩:=haf.hr.obj id _ hO
          refine ⟨z1,z2.imp (fun e=>⟨e.1,by rw [mn,hj]; exact e.2⟩) ?_⟩
          rintro ⟨b,cur,fr,y1,y2,y3,y4⟩
          refine ⟨b,cur,fr,by rw [mn,hj]; exact y1,y2,y3,fun j q x d hx' hd=>?_⟩
          obtain ⟨v,u1,u2⟩:=y4 j q x d hx' hd
          exact ⟨v,u1,low d v (low_cells (hx x (List.mem_of_getElem? hx')) hd) u2⟩
    · cases hj:J with
      | none =>
        rw [hj] at hi
        simp only [kept,List.append_nil,hl1] at hi
        rcases Nat.lt_or_ge n i with h2 | h2
        · exact mo i h2
        · obtain rfl:i = n:=by omega
          rw [mn,hj]; rfl
      | some id =>
        rw [hj] at hi
        simp only [kept,List.length_append,List.length_singleton,hl1] at hi
        exact mo i (by omega)
    · obtain ⟨i',a1,a2⟩:=key i b k1
      obtain ⟨j',b1,b2⟩:=key j b k2
      have:=haf.hr.inj _ _ _ a1 b1
      subst this
      rcases a2 with ⟨rfl,_⟩ | ⟨rfl,_,_⟩ <;> rcases b2 with ⟨rfl,_⟩ | ⟨rfl,_,_⟩ <;> omega
    · obtain ⟨i',a1,_⟩:=key i b hb
      exact haf.hr.lt _ _ a1
    · rw [hF2] at hb
      rcases hb with hb | ⟨rfl,id,hid,hne,hb⟩
      · refine ⟨(haf.hr.col c' b hb).1,fun i hi=>?_⟩
        obtain ⟨i',a1,_⟩:=key i b hi
        exact (haf.hr.col c' b hb).2 i' a1
      · refine ⟨haf.hr.lt _ _ hb,fun i hi=>?_⟩
        obtain ⟨i',a1,a2⟩:=key i b hi
        have:=haf.hr.inj _ _ _ a1 hb
        subst this
        rcases a2 with ⟨rfl,hlt⟩ | ⟨_,e,_⟩
        · omega
        · exact hne e
  refine ⟨F2,μ2,⟨hhr,⟨haf.step.imm,fun c b hb=>f1 c b (haf.step.col c b hb),fun i o ho=>?_,fun i t k xs ys hx hy he=>?_,fun i t ds ho=>?_⟩,⟨haf.fr.os,haf.fr.tape,haf.fr.output,haf.fr.size,haf.fr.keep,fun i b hb=>?_,haf.fr.drawn⟩,fun c' b hb=>?_⟩,?_⟩
  · have hi:=(List.getElem?_eq_some_iff.1 ho).1
    obtain ⟨o',a1,a2⟩:=haf.step.ext i o ho
    exact ⟨o',g1 i o' (by omega) a1,a2⟩
  · have hi:=(List.getElem?_eq_some_iff.1 hx).1
    rw [m1 i (by omega)]
    refine haf.step.same i t k xs ys hx ?_ he
    rw [List.getElem?_append_left (by omega)] at hy ⊢
    exact hy
  · have hi:=(List.getElem?_eq_some_iff.1 ho).1
    rw [m1 i (by omega)]
    exact haf.step.othsame i t ds ho
  · obtain ⟨i',a1,a2⟩:=key i b hb
    rcases a2 with ⟨rfl,_⟩ | ⟨rfl,_,hge⟩
    · exact haf.fr.new _ b a1
    · exact .inr (newb _ b hge a1)
  · rw [hF2] at hb
    rcases hb with hb | ⟨rfl,id,hid,_,hb⟩
    · exact haf.col c' b hb
    · exact .inr (newb id b hid hb)
  · refine hz.rep haf.hr low (fun id g off len A cap hj hs=>?_) (fun id b hid hne hb=>by rw [hF2]; exact .inr ⟨rfl,id,hid,hne,hb⟩) v hrep
    obtain ⟨t,k,xs,a1,a2,a3,a4,a5,a6⟩:=hs
    refine ⟨t,k,xs,gJ id t k xs hj a1,a2,a3,a4,a5,fun e=>?_⟩
    rw [mn,hj]
    exact a6 e
theorem Ok.tidy {P:Program} {f:FuncId} {args:List DV} {σ σ1 G:List Ob} {c:Nat} {d D:DV} (J:Option Nat) (h:Ok P f args σ (.ret d) (σ1 ++ G)) (h1:Tidy σ σ1) (hz:Gz (σ1 ++ G) c σ.length J d D)
    (hJ:∀ id,J = some id→σ.length≤id∧∃ t k xs,(σ1 ++ G)[id]? = some (.arr t k xs)∧∀ x ∈ xs,Low σ.length x):Ok P f args σ (.ret D) (σ1 ++ kept (σ1 ++ G) J):=by
  refine ⟨h.enters,fun w F μ vs hr hv=>(h.calls w F μ vs hr hv).mono fun e w' he=>?_⟩
  obtain ⟨F1,μ1,v,haf,rfl,hrep⟩:=he
  obtain ⟨F2,μ2,k1,k2⟩:=haf.tidy J hr hrep h1 hz hJ
  exact ⟨F2,μ2,v,k1,rfl,k2⟩
def Tid (σ:List Ob) (c:Nat) (R:Out→List Ob→Prop) (o:Out) (O:List Ob):Prop :=
  ∃ (σ1 G:List Ob) (J:Option Nat) (d D:DV),O = σ1 ++ G∧Tidy σ σ1∧Gz O c σ.length J d D∧(∀ id,J = some id→σ.length≤id∧∃ t k xs,O[id]? = some (.arr t k xs)∧∀ x ∈ xs,Low σ.length x) ∧
    (o = .ret d∧R (.ret D) (σ1 ++ kept O J)∨o = .pan d∧R (.pan D) (σ1 ++ kept O J))
theorem OkE.tidy {P:Program} {f:FuncId} {args:List DV} {σ:List Ob} {c:Nat} {R:Out→List Ob→Prop} (h:OkE P f args σ (Tid σ c R)):OkE P f args σ R:=by
  refine ⟨h.enters,fun w F μ vs hr hv=>(h.calls w F μ vs hr hv).mono fun e w' he=>?_⟩
  obtain ⟨o,O,⟨σ1,G,J,d,D,rfl,h1,hz,hJ,h2⟩,F1,μ1,v,haf,he⟩:=he
  rcases h2 with ⟨rfl,h2⟩ | ⟨rfl,h2⟩
  · obtain ⟨rfl,hrep⟩:=he
    obtain ⟨F2,μ2,k1,k2⟩:=haf.tidy J hr hrep h1 hz hJ
    exact ⟨_,_,h2,F2,μ2,v,k1,rfl,k2⟩
  · obtain ⟨rfl,hrep⟩:=he
    obtain ⟨F2,μ2,k1,k2⟩:=haf.tidy J hr hrep h1 hz hJ
    exact ⟨_,_,h2,F2,μ2,v,k1,rfl,k2⟩
theorem Ok.lendF {P:Program} {f:FuncId} {args args':List DV} {σ:List Ob} {c:Nat} {D:DV} (h:Ok P f args' [] (.ret D) []) (hl:args.length = args'.length) (hz:∀ (i:Nat) (d d':DV),args[i]? = some d→args'[i]? = some d'→Fz σ c d d') (hD:Cl c (fun _=>True) D) :
    Ok P f args σ (.ret D) σ:=by
  refine ⟨h.enters,fun w F μ vs hr hv=>?_⟩
  obtain ⟨F',hF'⟩:∃ F':Nat→Nat→Prop,F' = fun c' b=>F c' b∨(c' = c∧∃ id,μ id = some b):=⟨_,rfl⟩
  have f1:∀ c b,F c b→F' c b:=fun c b hb=>by rw [hF']; exact .inl hb
  have hr0:HR w F' (fun _=>none) []:=by
    refine ⟨fun id o h=>(by simp at h),fun _ _=>rfl,fun _ _ _ h=>(by cases h),fun _ _ h=>(by cases h),fun c' b hb=>⟨?_,fun _ e=>(by cases e)⟩⟩
    rw [hF'] at hb
    rcases hb with hb | ⟨_,id,hb⟩
    · exact (hr.col c' b hb).1
    · exact hr.lt id b hb
  have hv0:Reps w F' (fun _=>none) [] args' vs:=by
    refine ⟨by rw [← hl]; exact hv.1,fun i d' v hd' hv'=>?_⟩
    have hi:=(List.getElem?_eq_some_iff.1 hd').1
    have hd:args[i]? = some (args[i]'(by omega)):=List.getElem?_eq_getElem _
    exact (hz i _ _ hd hd').rep hr f1 (fun id b hb=>by rw [hF']; exact .inr ⟨rfl,id,hb⟩) v (hv.2 i _ v hd hv')
  refine (h.calls w F' _ vs hr0 hv0).mono fun e w' he=>?_
  obtain ⟨F1,μ1,v,haf,rfl,hrep⟩:=he
  have hk:∀ b,b < w.heap.size→w'.heap[b]? = w.heap[b]?:=fun b hb=>haf.fr.keep b hb fun _ e=>by cases e
  obtain ⟨F2,hF2⟩:∃ F2:Nat→Nat→Prop,F2 = fun c' b=>F c' b∨(c' ≠ c∧F1 c' b):=⟨_,rfl⟩
  have g2:∀ c' b,F2 c' b→F c' b∨(w.heap.size≤b∧b < w'.heap.size):=by
    intro c' b hb
    rw [hF2] at hb
    rcases hb with hb | ⟨hne,hb⟩
    · exact .inl hb
    · rcases haf.col c' b hb with h2 | h2
      · rw [hF'] at h2
        rcases h2 with h2 | ⟨e,_⟩
        · exact .inl h2
        · exact absurd e hne
      · exact .inr ⟨h2,(haf.hr.col c' b hb).1⟩
  obtain ⟨k1,k2⟩:=hr.keepAll (F':=F2) hk (fun c b hb=>by rw [hF2]; exact .inl hb) g2 haf.fr.size
  refine ⟨F2,μ,v,⟨k1,k2,⟨haf.fr.os,haf.fr.tape,haf.fr.output,haf.fr.size,fun b hb _=>hk b hb,fun id b e=>.inl e,haf.fr.drawn⟩,fun c' b hb=>(g2 c' b hb).imp (fun h=>h) (fun h=>h.1)⟩,rfl,?_⟩
  exact Rep.back (K:=fun _=>True) (fun c' b hne hb=>by rw [hF2]; exact .inr ⟨hne,hb⟩) (fun _ _ _ _ hk=>absurd trivial hk) hrep hD
end Go.VL
end
section
namespace Go.VL
open Go
theorem Ghost.keep (n:Nat) {C:Ctx} {env:List (Nat × DV)} {σ X:List Ob} (l:List (Nat × DV)) (hσ:C.σ0 = σ) (hf:Fixed σ) (hl:agree env l) (he:lowEnv (σ.length+(X.take n).length) l) (ho:lowObs (σ.length+(X.take n).length) (X.take n)) (ht:tmpObs (σ.length+(X.take n).length) (X.drop n)) (hdd:C.dd = []:=by assumption) :
    Ghost C ⟨env,σ ++ X⟩ ⟨l,σ ++ X.take n⟩:=by
  rw [← List.length_append] at he ho ht
  have:=Ghost.clear (own:=X.take n) (tmp:=X.drop n) (env:=env) l hσ hf hl he ho ht
  rwa [List.take_append_drop] at this
end Go.VL
end
section
set_option maxRecDepth 10000
namespace Go.VL
open Go Go.Proofs
open Nat renaming reduceAdd → ja, reduceEqDiff → jb, reduceSub → jc, reduceMul → jd, reduceLeDiff → je, reduceBEq → jf, reduceLT → jg
open Int renaming reduceLT → jh, reduceLE → ji
open Go.VL renaming thenK → jk, blockK → jl, loopK → jm, loopG → jn
def eB (b:UInt8):DV:=.int .u8 b.toNat
def eN (n:Nat):DV:=.int .u64 n
def leNat:List UInt8→Nat
  | []=>0
  | b :: r=>b.toNat+256 * leNat r
theorem leNat_lt:∀ l:List UInt8,leNat l < 256 ^ l.length
  | []=>by simp [leNat]
  | b :: r=>by
    have:=leNat_lt r
    have hb:=b.toNat_lt
    simp only [leNat,List.length_cons,Nat.pow_succ]
    omega
theorem leNat_append:∀ (l r:List UInt8),leNat (l ++ r) = leNat l+256 ^ l.length * leNat r
  | [],r=>by simp [leNat]
  | b :: l,r=>by
    simp only [List.cons_append,leNat,leNat_append l r,List.length_cons,Nat.pow_succ]
    rw [Nat.mul_add,Nat.mul_assoc,Nat.mul_comm 256 (256 ^ l.length * leNat r),Nat.mul_assoc,Nat.mul_comm 256 (leNat r)]
    omega
theorem bits_or_u64 (a b:Nat) (ha:a < 2 ^ 64) (hb:b < 2 ^ 64):bits .u64 .or (a:Int) (b:Int) = ((a ||| b:Nat):Int):=by
  have h:a ||| b < 2 ^ 64:=Nat.or_lt_two_pow ha hb
  simp only [bits]
  have e:(BitVec.ofInt IntKind.u64.bits (a:Int) ||| BitVec.ofInt IntKind.u64.bits (b:Int)).toNat = a ||| b:=by
    simp only [BitVec.toNat_or,BitVec.ofInt_natCast,BitVec.toNat_ofNat]
    rw [show IntKind.u64.bits = 64 from rfl,Nat.mod_eq_of_lt ha,Nat.mod_eq_of_lt hb]
  rw [e]
  exact IntWalk.u64_in _ (by omega)
theorem or_shift (a c k:Nat) (h:a < 256 ^ k):a ||| c * 2 ^ (8 * k) = a+c * 2 ^ (8 * k):=by
  have h':a < 2 ^ (8 * k):=by rw [Nat.pow_mul]; exact h
  have:=Nat.shiftLeft_add_eq_or_of_lt h' c
  rw [Nat.shiftLeft_eq] at this
  rw [Nat.or_comm,← this,Nat.add_comm]
def getRes (bs:List UInt8) (at_ size:Int):Nat × Int :=
  if size < 1∨8 < size then (0,1) else if at_ < 0 then (0,4) else if (bs.length:Int) < at_∨(bs.length:Int) - at_ < size then (0,8)
  else (leNat ((bs.drop at_.toNat).take size.toNat),0)
theorem get_ok (c:Nat) (bs:List UInt8) (at_ size:Int) (σ:List Ob) (ha:-9223372036854775808≤at_∧at_≤9223372036854775807) :
    Ok Try.prog 80 [.vec c 1 (bs.map eB),.int .i64 at_,.int .i64 size] σ (.ret (.tup [eN (getRes bs at_ size).1,.int .i64 (getRes bs at_ size).2])) σ:=by
  refine Ok.of_body layOk Try.func80 rfl (by decide) (by simp [Try.ntmps80]) fun C hP hn hσ hfix hdd=>?_
  rw [show Try.f80.ntmps = 54 from rfl] at hn
  have hL:LayOk C.P L:=hP ▸ layOk
  have hm:C.P.follows .mixedOrders = true:=hP ▸ mixed
  refine SW.vlen 0 rfl fun hlen=>?_
  rw [List.length_map] at hlen
  by_cases h1:size < 1
  · have d1:decide (size < 1) = true:=by simpa using h1
    rw [show getRes bs at_ size = (0,1) by simp [getRes,h1]]
    repeat (first|((first|refine sA hL hn rfl ?_|refine sB hL hn rfl ?_);simp only [go_sem,jf,jh,ji,ja,jb,reduceIte,jc,jg,jd,je,reduceCtorEq,d1])|((first|refine sC ?_|refine sH ?_|refine sI ?_|refine sJ ?_);try simp only [jk,jl,jm,jn,if_true,if_false,jb])|refine sD ?_|refine sE ?_|refine sF rfl ?_|refine sG rfl ?_)
    exact ⟨_,_,_,Ghost.refl _ _,rfl,GhostV.refl _ _ _,rfl⟩
  have d1:decide (size < 1) = false:=by simpa using h1
  by_cases h2:8 < size
  · have d2:decide (size > 8) = true:=by simpa using h2
    rw [show getRes bs at_ size = (0,1) by simp [getRes,h2]]
    repeat (first|((first|refine sA hL hn rfl ?_|refine sB hL hn rfl ?_);simp only [go_sem,jf,jh,ji,ja,jb,reduceIte,jc,jg,jd,je,reduceCtorEq,d1,d2])|((first|refine sC ?_|refine sH ?_|refine sI ?_|refine sJ ?_);try simp only [jk,jl,jm,jn,if_true,if_false,jb])|refine sD ?_|refine sE ?_|refine sF rfl ?_|refine sG rfl ?_)
    exact ⟨_,_,_,Ghost.refl _ _,rfl,GhostV.refl _ _ _,rfl⟩
  have d2:decide (size > 8) = false:=by simpa using h2
  by_cases h3:at_ < 0
  · have d3:decide (at_ < 0) = true:=by simpa using h3
    rw [show getRes bs at_ size = (0,4) by simp [getRes,h1,h2,h3]]
    repeat (first|((first|refine sA hL hn rfl ?_|refine sB hL hn rfl ?_);simp only [go_sem,jf,jh,ji,ja,jb,reduceIte,jc,jg,jd,je,reduceCtorEq,d1,d2,d3])|((first|refine sC ?_|refine sH ?_|refine sI ?_|refine sJ ?_);try simp only [jk,jl,jm,jn,if_true,if_false,jb])|refine sD ?_|refine sE ?_|refine sF rfl ?_|refine sG rfl ?_)
    exact ⟨_,_,_,Ghost.refl _ _,rfl,GhostV.refl _ _ _,rfl⟩
  have d3:decide (at_ < 0) = false:=by simpa using h3
  have w1:IntKind.i64.wrap ((bs.length:Int) - at_) = bs.length - at_:=IntWalk.i64_in _ (by omega)
  by_cases h4:(bs.length:Int) < at_
  · have d4:decide (at_ > (bs.length:Int)) = true:=by simpa using h4
    rw [show getRes bs at_ size = (0,8) by simp [getRes,h1,h2,h3,h4]]
    repeat (first|((first|refine sA hL hn rfl ?_|refine sB hL hn rfl ?_);simp only [go_sem,jf,jh,ji,ja,jb,reduceIte,jc,jg,jd,je,reduceCtorEq,d1,d2,d3,bi,lenDV,List.length_map,d4])|((first|refine sC ?_|refine sH ?_|refine sI ?_|refine sJ ?_);try simp only [jk,jl,jm,jn,if_true,if_false,jb])|refine sD ?_|refine sE ?_|refine sF rfl ?_|refine sG rfl ?_)
    exact ⟨_,_,_,Ghost.refl _ _,rfl,GhostV.refl _ _ _,rfl⟩
  have d4:decide (at_ > (bs.length:Int)) = false:=by simpa using h4
  by_cases h5:(bs.length:Int) - at_ < size
  · have d5:decide (size > (bs.length:Int) - at_) = true:=by simpa using h5
    rw [show getRes bs at_ size = (0,8) by simp [getRes,h1,h2,h3,h5]]
    repeat (first|((first|refine sA hL hn rfl ?_|refine sB hL hn rfl ?_);simp only [go_sem,jf,jh,ji,ja,jb,reduceIte,jc,jg,jd,je,reduceCtorEq,d1,d2,d3,bi,lenDV,List.length_map,d4,w1,d5])|((first|refine sC ?_|refine sH ?_|refine sI ?_|refine sJ ?_);try simp only [jk,jl,jm,jn,if_true,if_false,jb])|refine sD ?_|refine sE ?_|refine sF rfl ?_|refine sG rfl ?_)
    exact ⟨_,_,_,Ghost.refl _ _,rfl,GhostV.refl _ _ _,rfl⟩
  have d5:decide (size > (bs.length:Int) - at_) = false:=by simpa using h5
  rw [show getRes bs at_ size = (leNat ((bs.drop at_.toNat).take size.toNat),0) by simp [getRes,h1,h2,h3,h4,h5]]
  obtain ⟨A,rfl⟩:=Int.eq_ofNat_of_zero_le (show 0≤at_ by omega)
  obtain ⟨S,rfl⟩:=Int.eq_ofNat_of_zero_le (show 0≤size by omega)
  have w2:IntKind.i64.wrap ((A:Int)+S) = (A+S:Nat):=by rw [IntWalk.i64_in _ (by omega)]; simp
  have b1:bound (some (.int .i64 ((A+S:Nat):Int))) bs.length bs.length = some (A+S):=bound_i (by omega)
  have b2:bound (some (.int .i64 (A:Int))) 0 (A+S) = some A:=bound_i (by omega)
  have hx:List.drop A (List.take (A+S) (bs.map eB)) = ((bs.drop A).take S).map eB:=by
    rw [List.drop_take,List.map_take,List.map_drop]; congr 1; omega
  have hxl:((bs.drop A).take S).length = S:=by simp; omega
  simp only [Int.toNat_natCast]
  generalize (bs.drop A).take S = xs at hx hxl
  repeat (first|((first|refine sA hL hn rfl ?_|refine sB hL hn rfl ?_);simp only [go_sem,jf,jh,ji,ja,jb,reduceIte,jc,jg,jd,je,reduceCtorEq,d1,d2,d3,bi,lenDV,List.length_map,d4,w1,d5,w2,sliceDV,b1,b2,hx,hxl])|((first|refine sC ?_|refine sH ?_|refine sI ?_|refine sJ ?_);try simp only [jk,jl,jm,jn,if_true,if_false,jb])|refine sD ?_|refine sE ?_|refine sF rfl ?_|refine sG rfl ?_)
  refine SW.lpg (fun k:Nat=>⟨[(6,eN (leNat (xs.take k))),(38,.vec c 1 (xs.map eB)),(39,.int .i64 S),(40,.int .i64 k)],σ⟩) (fun k=>S - k) (fun k=>k≤S) 0 (by omega) (.of rfl ⟨rfl,rfl,rfl,rfl,trivial⟩) ?_
  intro k hk
  by_cases hlt:k < S
  · have e1:decide ((k:Int) < (S:Int)) = true:=by simpa using hlt
    have e2:(0≤(k:Int)∧(k:Int) < (S:Int)):=by omega
    have e3:(xs.map eB)[k]?.getD .undef = eB (xs[k]'(by omega)):=by simp [hxl,hlt]
    have w3:IntKind.i64.wrap (8 * (k:Int)) = ((8 * k:Nat):Int):=by rw [IntWalk.i64_in _ (by omega)]; simp
    have w4:IntKind.i64.wrap ((k:Int)+1) = ((k+1:Nat):Int):=by rw [IntWalk.i64_in _ (by omega)]; simp
    repeat (first|((first|refine sA hL hn rfl ?_|refine sB hL hn rfl ?_);simp only [go_sem,jf,jh,ji,ja,jb,reduceIte,jc,jg,jd,je,reduceCtorEq,e1,bi,lenDV,indexAddrDV,e2,e3,loadDV,cellsAt,eB,w3,w4,convDV,shiftInt,List.length_map,hxl])|((first|refine sC ?_|refine sH ?_|refine sI ?_|refine sJ ?_);try simp only [jk,jl,jm,jn,if_true,if_false,jb])|refine sD ?_|refine sE ?_|refine sF rfl ?_|refine sG rfl ?_)
    refine Lp.nextg (k+1) (by omega) (by omega) (.of rfl ⟨?_,rfl,rfl,rfl,trivial⟩)
    simp only [lk,reduceIte,Nat.reduceEqDiff]
    have hb:=(xs[k]'(by omega)).toNat_lt
    have hl:leNat (xs.take k) < 256 ^ k:=by
      have:=leNat_lt (xs.take k)
      rwa [List.length_take,Nat.min_eq_left (by omega)] at this
    have hk7:256 ^ (k+1)≤256 ^ 8:=Nat.pow_le_pow_right (by omega) (by omega)
    have hp:(2:Nat) ^ (8 * k) = 256 ^ k:=by rw [Nat.pow_mul]
    have hle:(xs[k]'(by omega)).toNat * 256 ^ k≤255 * 256 ^ k:=Nat.mul_le_mul_right _ (by omega)
    rw [Nat.pow_succ] at hk7
    have w5:IntKind.u64.wrap ((xs[k]'(by omega)).toNat:Int) = ((xs[k]'(by omega)).toNat:Int):=IntWalk.u64_in _ (by omega)
    have w6:IntKind.u64.wrap (((xs[k]'(by omega)).toNat:Int) * 2 ^ min (8 * k) 64) = (((xs[k]'(by omega)).toNat * 256 ^ k:Nat):Int):=by
      rw [Nat.min_eq_left (by show 8 * k≤64; omega),show ((2:Int) ^ (8 * k)) = ((2 ^ (8 * k):Nat):Int) by simp,hp,← Int.natCast_mul]
      exact IntWalk.u64_in _ (by omega)
    rw [w5,w6,bits_or_u64 _ _ (by omega) (by omega),← hp,or_shift _ _ _ hl,hp]
    simp only [eN]
    rw [List.take_add_one,List.getElem?_eq_getElem (by omega),leNat_append,List.length_take,Nat.min_eq_left (by omega)]
    simp only [Option.toList,leNat]
    rw [Nat.mul_comm (256 ^ k)]
    simp
  · have e1:decide ((k:Int) < (S:Int)) = false:=by simpa using hlt
    have:k = S:=by omega
    subst this
    repeat (first|((first|refine sA hL hn rfl ?_|refine sB hL hn rfl ?_);simp only [go_sem,jf,jh,ji,ja,jb,reduceIte,jc,jg,jd,je,reduceCtorEq,e1])|((first|refine sC ?_|refine sH ?_|refine sI ?_|refine sJ ?_);try simp only [jk,jl,jm,jn,if_true,if_false,jb])|refine sD ?_|refine sE ?_|refine sF rfl ?_|refine sG rfl ?_)
    rw [List.take_of_length_le (by omega)]
    exact ⟨_,_,_,Ghost.refl _ _,rfl,GhostV.refl _ _ _,rfl⟩
end Go.VL
end
section
set_option maxRecDepth 10000
namespace Go.VL
open Go Go.Proofs
open Nat renaming reduceAdd → ja, reduceEqDiff → jb, reduceSub → jc, reduceMul → jd, reduceLeDiff → je, reduceBEq → jf, reduceLT → jg
open Int renaming reduceLT → jh, reduceLE → ji
open Go.VL renaming thenK → jk, blockK → jl, loopK → jm, loopG → jn
def eU (n:Int):DV:=.int .u32 n
def stepC (c:Int):Int:=bits .u32 .xor (c.fdiv (2 ^ min (1:Int).toNat IntKind.u32.bits)) (bits .u32 .and 2197175160 (IntKind.u32.wrap (0 - bits .u32 .and c 1)))
def itC:Nat→Int→Int
  | 0,c=>c
  | n+1,c=>stepC (itC n c)
def halfF (i:Nat):Int:=itC 4 (IntKind.u32.wrap i)
def tabTo (n:Nat):List DV:=(List.range 16).map fun j=>if j < n then eU (halfF j) else eU 0
def tab:List DV:=tabTo 16
theorem tabTo_length (n:Nat):(tabTo n).length = 16:=by simp [tabTo]
theorem tabTo_set (i:Nat) (h:i < 16):(tabTo i).take i ++ [eU (halfF i)] ++ (tabTo i).drop (i+1) = tabTo (i+1):=by
  rcases i with _ | _ | _ | _ | _ | _ | _ | _ | _ | _ | _ | _ | _ | _ | _ | _ | i <;> first | rfl | omega
theorem last_get {α:Type} (l:List α) (a:α):(l ++ [a])[l.length]? = some a:=by simp
theorem last_set {α:Type} (l:List α) (a b:α):(l ++ [a]).set l.length b = l ++ [b]:=by simp
theorem tabTo_noId (n id:Nat):∀ x ∈ tabTo n,NoId id x:=by
  intro x hx
  simp only [tabTo,List.mem_map] at hx
  obtain ⟨j,_,rfl⟩:=hx
  split <;> exact (noId_int _ _).2 trivial
theorem half_ok (σ:List Ob):Ok Try.prog 100 [] σ (.ret (.agg tab)) σ:=by
  refine Ok.of_body layOk Try.func100 rfl (by decide) (by simp [Try.ntmps100]) fun C hP hn hσ hfix hdd=>?_
  rw [show Try.f100.ntmps = 23 from rfl] at hn
  have hL:LayOk C.P L:=hP ▸ layOk
  have hm:C.P.follows .mixedOrders = true:=hP ▸ mixed
  repeat (first|((first|refine sA hL hn rfl ?_|refine sB hL hn rfl ?_);simp only [go_sem,jf,jh,ji,ja,jb,reduceIte,jc,jg,jd,je,reduceCtorEq])|((first|refine sC ?_|refine sH ?_|refine sI ?_|refine sJ ?_);try simp only [jk,jl,jm,jn,if_true,if_false,jb])|refine sD ?_|refine sE ?_|refine sF rfl ?_|refine sG rfl ?_)
  refine SW.lpg (fun i:Nat=>⟨[(0,.ptr σ.length 1 0 0),(3,.int .i64 i)],σ ++ [.arr 165 16 [.agg (tabTo i)]]⟩) (fun i=>16 - i) (fun i=>i≤16) 0 (by omega) (.of rfl ⟨rfl,rfl,trivial⟩) ?_
  intro i hi
  by_cases hlt:i < 16
  · have e1:decide ((i:Int) < 16) = true:=decide_eq_true (by omega)
    have w1:IntKind.i64.wrap ((i:Int)+1) = ((i+1:Nat):Int):=wi (by omega) (by omega)
    have b1:(0≤(i:Int)∧(i:Int) < ((16:Nat):Int)):=by omega
    have l1:i+1≤16:=by omega
    repeat (first|((first|refine sA hL hn rfl ?_|refine sB hL hn rfl ?_);simp only [go_sem,jf,jh,ji,ja,jb,reduceIte,jc,jg,jd,je,reduceCtorEq,e1,convDV])|((first|refine sC ?_|refine sH ?_|refine sI ?_|refine sJ ?_);try simp only [jk,jl,jm,jn,if_true,if_false,jb])|refine sD ?_|refine sE ?_|refine sF rfl ?_|refine sG rfl ?_)
    refine SW.lpg (fun k:Nat=>⟨[(0,.ptr σ.length 1 0 0),(3,.int .i64 i),(1,.int .i64 i),(2,eU (itC k (IntKind.u32.wrap i))),(8,.int .i64 k)],σ ++ [.arr 165 16 [.agg (tabTo i)]]⟩) (fun k=>4 - k) (fun k=>k≤4) 0 (by omega) (.of rfl ⟨rfl,rfl,rfl,rfl,rfl,trivial⟩) ?_
    intro k hk
    by_cases hkt:k < 4
    · have e2:decide ((k:Int) < 4) = true:=decide_eq_true (by omega)
      have w2:IntKind.i64.wrap ((k:Int)+1) = ((k+1:Nat):Int):=wi (by omega) (by omega)
      repeat (first|((first|refine sA hL hn rfl ?_|refine sB hL hn rfl ?_);simp only [go_sem,jf,jh,ji,ja,jb,reduceIte,jc,jg,jd,je,reduceCtorEq,e2,convDV,eU,shiftInt,w2])|((first|refine sC ?_|refine sH ?_|refine sI ?_|refine sJ ?_);try simp only [jk,jl,jm,jn,if_true,if_false,jb])|refine sD ?_|refine sE ?_|refine sF rfl ?_|refine sG rfl ?_)
      exact Lp.nextg (k+1) (by omega) (by omega) (.of rfl ⟨rfl,rfl,rfl,rfl,rfl,trivial⟩)
    · have e2:decide ((k:Int) < 4) = false:=decide_eq_false (by omega)
      obtain rfl:k = 4:=by omega
      repeat (first|((first|refine sA hL hn rfl ?_|refine sB hL hn rfl ?_);simp only [go_sem,jf,jh,ji,ja,jb,reduceIte,jc,jg,jd,je,reduceCtorEq,e2,indexAddrDV,b1,storeDV,last_get,last_set,Int.toNat_natCast,tabTo_length,List.all_cons,List.all_nil,DV.one,setCells,w1,l1,eU])|((first|refine sC ?_|refine sH ?_|refine sI ?_|refine sJ ?_);try simp only [jk,jl,jm,jn,if_true,if_false,jb])|refine sD ?_|refine sE ?_|refine sF rfl ?_|refine sG rfl ?_)
      refine Lp.nextg (i+1) (by omega) (by omega) (.of ?_ ⟨rfl,rfl,trivial⟩)
      rw [← tabTo_set i hlt,List.append_assoc]
      rfl
  · have e1:decide ((i:Int) < 16) = false:=decide_eq_false (by omega)
    obtain rfl:i = 16:=by omega
    have t1:(tabTo 16).all DV.one = true:=rfl
    have t3:(tabTo 16).drop 16 = []:=rfl
    have t2:(tabTo 16).take 16 = tabTo 16:=rfl
    repeat (first|((first|refine sA hL hn rfl ?_|refine sB hL hn rfl ?_);simp only [go_sem,jf,jh,ji,ja,jb,reduceIte,jc,jg,jd,je,reduceCtorEq,e1,loadDV,cellsAt,last_get,tabTo_length,storeDV,t1,t2,t3,List.drop_zero,List.take_zero,TD.isAgg,setCells,last_set,List.set_cons_zero,List.append_nil])|((first|refine sC ?_|refine sH ?_|refine sI ?_|refine sJ ?_);try simp only [jk,jl,jm,jn,if_true,if_false,jb])|refine sD ?_|refine sE ?_|refine sF rfl ?_|refine sG rfl ?_)
    refine ⟨_,.agg tab,_,Ghost.refl _ _,?_,GhostV.pop1 0 (by rw [hn]; decide) hσ hfix (fz_same ((noId_agg _).2 (tabTo_noId 16 _)) _ _) (by simpa [noId_agg] using tabTo_noId 16 σ.length),rfl⟩
    show resDV L _ [Go.ResultVar.cell 0 165] = _
    simp only [resDV,resL,resDV1,go_sem,jf,jh,ji,ja,jb,reduceIte,jc,jg,jd,je,reduceCtorEq,last_get,t2,tabTo_length,tab]
def halfStep (c:Int):Int:=bits .u32 .xor (c.fdiv (2 ^ min (4:Int).toNat IntKind.u32.bits)) (halfF (bits .u32 .and c 15).toNat)
def moreStep (c:Int) (x:UInt8):Int:=halfStep (halfStep (bits .u32 .xor c (IntKind.u32.wrap x.toNat)))
def moreF (c:Int) (bs:List UInt8):Int:=bits .u32 .xor IntKind.u32.max (bs.foldl moreStep (bits .u32 .xor IntKind.u32.max c))
def sumF (bs:List UInt8):Int:=moreF 0 bs
theorem bits_u32 (op:BinOp) (a b:Int):0≤bits .u32 op a b∧bits .u32 op a b < 4294967296:=by
  have:∀ n:Int,0≤IntKind.u32.wrap n∧IntKind.u32.wrap n < 4294967296:=fun n=>by
    rw [IntKind.wrap_u32]
    omega
  cases op <;> exact this _
theorem and15 (c:Int):0≤bits .u32 .and c 15∧bits .u32 .and c 15 < 16:=by
  refine ⟨(bits_u32 _ _ _).1,?_⟩
  have h:(BitVec.ofInt 32 c &&& BitVec.ofInt 32 15).toNat < 16:=by
    rw [BitVec.toNat_and]
    exact Nat.lt_of_le_of_lt Nat.and_le_right (by decide)
  show IntKind.u32.wrap ((BitVec.ofInt 32 c &&& BitVec.ofInt 32 15).toNat:Int) < 16
  rw [IntKind.wrap_u32]
  omega
theorem tab_get (j:Nat) (h:j < 16):(tab.drop j)[0]? = some (eU (halfF j)):=by
  rw [List.getElem?_drop,Nat.add_zero]
  simp [tab,tabTo,h]
theorem and15' (c:Int):(0≤bits .u32 .and c 15∧bits .u32 .and c 15 < ((16:Nat):Int)) ↔ True:=iff_of_true (by have:=and15 c; omega) trivial
theorem tab_get' (c:Int):(tab.drop (bits .u32 .and c 15).toNat)[0]? = some (.int .u32 (halfF (bits .u32 .and c 15).toNat)):=tab_get _ (by have:=and15 c; omega)
theorem take_succ_fold {α β:Type} (f:β→α→β) (b:β) (l:List α) (k:Nat) (h:k < l.length):(l.take (k+1)).foldl f b = f ((l.take k).foldl f b) (l[k]):=by
  rw [← List.take_append_getElem h,List.foldl_append]
  rfl
theorem more_ok (c:Nat) (k:Int) (bs:List UInt8) (σ:List Ob):Ok Try.prog 94 [eU k,.vec c 1 (bs.map eB)] σ (.ret (eU (moreF k bs))) σ:=by
  refine Ok.of_body layOk Try.func94 rfl (by decide) (by simp [Try.ntmps94]) fun C hP hn hσ hfix hdd=>?_
  rw [show Try.f94.ntmps = 38 from rfl] at hn
  have hL:LayOk C.P L:=hP ▸ layOk
  have hm:C.P.follows .mixedOrders = true:=hP ▸ mixed
  refine SW.vlen 1 rfl fun hlen=>?_
  rw [List.length_map] at hlen
  repeat (first|((first|refine sA hL hn rfl ?_|refine sB hL hn rfl ?_);simp only [go_sem,jf,jh,ji,ja,jb,reduceIte,jc,jg,jd,je,reduceCtorEq,eU])|((first|refine sC ?_|refine sH ?_|refine sI ?_|refine sJ ?_);try simp only [jk,jl,jm,jn,if_true,if_false,jb])|refine sD ?_|refine sE ?_|refine sF rfl ?_|refine sG rfl ?_)
  have t1:tab.all DV.one = true:=rfl
  have t2:tab.length = 16:=rfl
  refine sK hP hL hn rfl rfl (half_ok _) rfl rfl rfl rfl ?_; simp (maxSteps:=2000000) only [go_sem,jf,jh,ji,ja,jb,reduceIte,jc,jg,jd,je,reduceCtorEq,eU,last_get,last_set,t1,t2]
  repeat (first|((first|refine sA hL hn rfl ?_|refine sB hL hn rfl ?_);simp only [go_sem,jf,jh,ji,ja,jb,reduceIte,jc,jg,jd,je,reduceCtorEq,List.length_map])|((first|refine sC ?_|refine sH ?_|refine sI ?_|refine sJ ?_);try simp only [jk,jl,jm,jn,if_true,if_false,jb])|refine sD ?_|refine sE ?_|refine sF rfl ?_|refine sG rfl ?_)
  refine SW.lpg (fun j:Nat=>⟨[(0,eU ((bs.take j).foldl moreStep (bits .u32 .xor IntKind.u32.max k))),(5,.ptr σ.length 1 0 0),(11,.vec c 1 (bs.map eB)),(12,.int .i64 bs.length),(13,.int .i64 j)],σ ++ [.arr 165 16 [.agg tab]]⟩) (fun j=>bs.length - j) (fun j=>j≤bs.length) 0 (by omega) (.of rfl ⟨rfl,rfl,rfl,rfl,rfl,trivial⟩) ?_
  intro j hj
  by_cases hlt:j < bs.length
  · have e1:decide ((j:Int) < (bs.length:Int)) = true:=decide_eq_true (by omega)
    have e2:(0≤(j:Int)∧(j:Int) < (bs.length:Int)):=by omega
    have e3:(bs.map eB)[j]?.getD .undef = eB bs[j]:=by simp [hlt]
    have w1:IntKind.i64.wrap ((j:Int)+1) = ((j+1:Nat):Int):=wi (by omega) (by omega)
    repeat (first|((first|refine sA hL hn rfl ?_|refine sB hL hn rfl ?_);simp only [go_sem,jf,jh,ji,ja,jb,reduceIte,jc,jg,jd,je,reduceCtorEq,e1,eU,List.length_map,e2,e3,eB,and15',tab_get',last_get,t2,w1])|((first|refine sC ?_|refine sH ?_|refine sI ?_|refine sJ ?_);try simp only [jk,jl,jm,jn,if_true,if_false,jb])|refine sD ?_|refine sE ?_|refine sF rfl ?_|refine sG rfl ?_)
    refine Lp.nextg (j+1) (by omega) (by omega) (.of rfl ⟨?_,rfl,rfl,rfl,rfl,trivial⟩)
    rw [take_succ_fold _ _ _ _ hlt]
    rfl
  · have e1:decide ((j:Int) < (bs.length:Int)) = false:=decide_eq_false (by omega)
    obtain rfl:j = bs.length:=by omega
    rw [List.take_length]
    repeat (first|((first|refine sA hL hn rfl ?_|refine sB hL hn rfl ?_);simp only [go_sem,jf,jh,ji,ja,jb,reduceIte,jc,jg,jd,je,reduceCtorEq,e1,eU])|((first|refine sC ?_|refine sH ?_|refine sI ?_|refine sJ ?_);try simp only [jk,jl,jm,jn,if_true,if_false,jb])|refine sD ?_|refine sE ?_|refine sF rfl ?_|refine sG rfl ?_)
    exact ⟨_,_,_,Ghost.refl _ _,rfl,GhostV.pop1 0 (by rw [hn]; decide) hσ hfix rfl (by simpa [noId_agg,tab] using tabTo_noId 16 σ.length),rfl⟩
theorem sum_ok (c:Nat) (bs:List UInt8) (σ:List Ob):Ok Try.prog 81 [.vec c 1 (bs.map eB)] σ (.ret (eU (sumF bs))) σ:=by
  refine Ok.of_body layOk Try.func81 rfl (by decide) (by simp [Try.ntmps81]) fun C hP hn hσ hfix hdd=>?_
  rw [show Try.f81.ntmps = 5 from rfl] at hn
  have hL:LayOk C.P L:=hP ▸ layOk
  have hm:C.P.follows .mixedOrders = true:=hP ▸ mixed
  repeat (first|((first|refine sA hL hn rfl ?_|refine sB hL hn rfl ?_);simp only [go_sem,jf,jh,ji,ja,jb,reduceIte,jc,jg,jd,je,reduceCtorEq,eU])|((first|refine sC ?_|refine sH ?_|refine sI ?_|refine sJ ?_);try simp only [jk,jl,jm,jn,if_true,if_false,jb])|refine sD ?_|refine sE ?_|refine sF rfl ?_|refine sG rfl ?_)
  refine sK hP hL hn rfl rfl (more_ok c 0 bs _) rfl rfl rfl rfl ?_; simp (maxSteps:=2000000) only [go_sem,jf,jh,ji,ja,jb,reduceIte,jc,jg,jd,je,reduceCtorEq,eU]
  repeat (first|((first|refine sA hL hn rfl ?_|refine sB hL hn rfl ?_);simp only [go_sem,jf,jh,ji,ja,jb,reduceIte,jc,jg,jd,je,reduceCtorEq,eU])|((first|refine sC ?_|refine sH ?_|refine sI ?_|refine sJ ?_);try simp only [jk,jl,jm,jn,if_true,if_false,jb])|refine sD ?_|refine sE ?_|refine sF rfl ?_|refine sG rfl ?_)
  exact ⟨_,_,_,Ghost.refl _ _,rfl,GhostV.refl _ _ _,rfl⟩
end Go.VL
end
section
set_option maxRecDepth 100000
namespace Go.VL
open Go Go.Proofs
open Nat renaming reduceAdd → ja, reduceEqDiff → jb, reduceSub → jc, reduceMul → jd, reduceLeDiff → je, reduceBEq → jf, reduceLT → jg
open Int renaming reduceLT → jh, reduceLE → ji
open Go.VL renaming thenK → jk, blockK → jl, loopK → jm, loopG → jn
def widthsF (kind m:Nat):List DV:=[.int .i64 1,.int .i64 1,.int .i64 2] ++ List.replicate m (.int .i64 8) ++ (if kind = 1 then List.replicate m (.int .i64 8) else List.replicate (m+1) (.int .i64 4))
theorem widths11:runs LX FN 100000 77 [.int .i64 1,.int .i64 1] (.vec 0 1 (widthsF 1 1)) = true:=by kernel_rfl
theorem widths12:runs LX FN 100000 77 [.int .i64 1,.int .i64 2] (.vec 0 1 (widthsF 1 2)) = true:=by kernel_rfl
theorem widths13:runs LX FN 100000 77 [.int .i64 1,.int .i64 3] (.vec 0 1 (widthsF 1 3)) = true:=by kernel_rfl
theorem widths21:runs LX FN 100000 77 [.int .i64 2,.int .i64 1] (.vec 0 1 (widthsF 2 1)) = true:=by kernel_rfl
theorem widths22:runs LX FN 100000 77 [.int .i64 2,.int .i64 2] (.vec 0 1 (widthsF 2 2)) = true:=by kernel_rfl
theorem widths23:runs LX FN 100000 77 [.int .i64 2,.int .i64 3] (.vec 0 1 (widthsF 2 3)) = true:=by kernel_rfl
theorem widths_ok (kind m:Nat) (hk:kind = 1∨kind = 2) (hm:1≤m∧m≤3) (σ:List Ob):Ok Try.prog 77 [.int .i64 kind,.int .i64 m] σ (.ret (.vec 0 1 (widthsF kind m))) σ:=by
  have hl:∀ a b:Int,∀ x ∈ [DV.int .i64 a,DV.int .i64 b],Low 0 x:=by simp [low_int]
  have h:m = 1∨m = 2∨m = 3:=by omega
  rcases hk with rfl | rfl <;> rcases h with rfl | rfl | rfl
  · exact runs_ok layOkX mixed tabOk widths11 (hl _ _) σ
  · exact runs_ok layOkX mixed tabOk widths12 (hl _ _) σ
  · exact runs_ok layOkX mixed tabOk widths13 (hl _ _) σ
  · exact runs_ok layOkX mixed tabOk widths21 (hl _ _) σ
  · exact runs_ok layOkX mixed tabOk widths22 (hl _ _) σ
  · exact runs_ok layOkX mixed tabOk widths23 (hl _ _) σ
theorem alive_run:runs LX FN 100000 5 [] (.bool true) = true:=by kernel_rfl
theorem alive_ok (σ:List Ob):Ok Try.prog 5 [] σ (.ret (.bool true)) σ :=
  runs_ok layOkX mixed tabOk alive_run (by simp) σ
end Go.VL
end
