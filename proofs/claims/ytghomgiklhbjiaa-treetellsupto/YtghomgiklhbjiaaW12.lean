/- Proved: TreeTells: whatever tree, root, key and number come in (together of bulk at most 1048576), the call returns true and they read as they did; no other condition. This text is part 12 of 18. -/
import Derived.Test.YtghomgiklhbjiaaW11
import Derived.Scope
set_option linter.unusedSimpArgs false
set_option linter.unusedVariables false
section
namespace Go.VL
open Go
def SWd (C:Ctx) (dd D:List DD) (c:Code) (st:St) (K:XE→St→Prop):Prop:=∀ a w,Rel (C.at dd) st a w→c.wpIn C.fe 0 C.P (Post (C.at D) K) a w
theorem SWd.seq {C:Ctx} {dd d1 D:List DD} {x y:Code} {st s1:St} {K:XE→St→Prop} (h:Does C x st dd .normal s1 d1) (h2:SWd C d1 D y s1 K):SWd C dd D (.seq x y) st K:=by
  intro a w hr
  refine wpIn_seq (wpIn_mono (h a w hr) fun e a w hq=>?_)
  cases e with
  | normal=>obtain ⟨_,F,μ,hq⟩:=hq; exact h2 a w ⟨F,μ,hq⟩
  | exit i=>obtain ⟨e,_⟩:=hq; cases e
  | goto l=>exact hq.elim
  | ret=>obtain ⟨e,_⟩:=hq; cases e
  | panic ch=>obtain ⟨d,v,F,μ,e,_⟩:=hq; cases e
  | outgrown=>exact hq.elim
theorem SWd.end {C:Ctx} {D:List DD} {c:Code} {st:St} {K:XE→St→Prop} (h:SW (C.at D) c st K):SWd C D D c st K:=h
def DefPostL (σ':List Ob) (md':Md) (w:World) (F:Nat→Nat→Prop) (μ:Nat→Option Nat) (σ:List Ob) (e:Ending) (u':FrameMode) (w':World):Prop :=
  ∃ v F' μ',e = .returned v∧After w F μ σ w' F' μ' σ'∧MdRel w' F' μ' σ' u' md'
structure DefOk (P:Program) (g:FuncId) (caps:List DV) (md:Md) (σ:List Ob) (md':Md) (σ':List Ob):Prop where
  enters:∀ (vs:Array Value) (w:World),(callFunc g vs).run P w = .ok (.enter g vs) w
  calls:∀ (w:World) (F:Nat→Nat→Prop) (μ:Nat→Option Nat) (vs:List Value) (u:FrameMode),HR w F μ σ→Reps w F μ σ caps vs→MdRel w F μ σ u md→CallsD P g ⟨vs⟩ u w (DefPostL σ' md' w F μ σ)
theorem defOk_of_walk {P : Program} {L : Lay} (hL : LayOk P L) {g : FuncId} {fn : Func} {c : Code} (hf : P.funcs[g]? = some fn) (hb : fn.body = some c) (hname : (fn.name == "runtime.NumGoroutine") = false) {caps : List DV} (hlen : caps.length ≤ fn.ntmps) {md md' : Md} {σ : List Ob} {st' : St} {stop : Bool} {d : DV}
    (h:∀ C:Ctx,C.P = P→C.n = fn.ntmps→∀ (c₀:Frame) (cs:List Frame) (a:Act) (w:World) (u:FrameMode),RelS C md ⟨slots 0 caps,σ⟩ a w u→c.wpS P (FinS C c₀ cs stop md' st') a ({ c₀ with mode:=u } :: cs) w)
    (hres:resDV L st' fn.results.toList = some d):DefOk P g caps md σ md' st'.ob:=by
  refine ⟨fun vs w=>?_,fun w F μ vs u hr hv hmd=>?_⟩
  · have hn' : ¬ fn.name = "runtime.NumGoroutine" := by simpa using hname
    simp [callFunc,program,Sem.run,hf,hn',hb]
  · refine callsD_of_wpS hf hb fun c₀ cs hu=>?_
    subst hu
    have hst:RelS ⟨P,fn.ntmps,none,[],w,F,μ,σ,hr.out⟩ md ⟨slots 0 caps,σ⟩ { tmps:=(⟨vs⟩:Array Value) ++ Array.replicate (fn.ntmps - (⟨vs⟩:Array Value).size) undef,defers:=[] } w c₀.mode :=
      ⟨F,μ,rel_start hr hv hlen,hmd⟩
    refine wpS_mono (h ⟨P,fn.ntmps,none,[],w,F,μ,σ,hr.out⟩ rfl rfl c₀ cs _ w c₀.mode hst) ?_
    rintro ex a1 cs1 w1 ⟨rfl,u1,rfl,F1,μ1,hr1,hmd1⟩
    obtain ⟨v,r1,r2⟩:=run_results (C:=Ctx.at ⟨P,fn.ntmps,none,[],w,F,μ,σ,hr.out⟩ []) hL hr1 (fn:=fn) hres
    have hdef:a1.defers = []:=hr1.defers
    cases stop with
    | false=>exact ⟨hdef,u1,rfl,v,r1,v,F1,μ1,rfl,⟨hr1.hr,hr1.step,hr1.fr,hr1.col⟩,hmd1⟩
    | true=>exact ⟨hdef,u1,rfl,v,r1,v,F1,μ1,rfl,⟨hr1.hr,hr1.step,hr1.fr,hr1.col⟩,hmd1⟩
def LeaveD (P:Program) (L:Lay) (rs:List ResultVar) (g:FuncId) (caps:List DV) (Q:Out→List Ob→Prop) (e:XE) (st:St):Prop :=
  ∃ md md' σ',MdOf e = some md∧DefOk P g caps md st.ob md' σ'∧((md'.settle = .ret∧∃ d,resDV L ⟨st.env,σ'⟩ rs = some d∧Q (.ret d) σ')∨∃ d,md'.settle = .pan d∧Q (.pan d) σ')
def OutsP (Q:Out→List Ob→Prop) (w:World) (F:Nat→Nat→Prop) (μ:Nat→Option Nat) (σ:List Ob) (e:Ending) (w':World):Prop:=∃ o σ',Q o σ'∧OutPost o σ' w F μ σ e w'
theorem leaveD_ok {P:Program} {L:Lay} (hL:LayOk P L) {C:Ctx} (hP:C.P = P) {fn:Func} {g:FuncId} {caps:List DV} {Q:Out→List Ob→Prop} {st:St} {md md':Md} {σ':List Ob} (hd:DefOk P g caps md st.ob md' σ')
    (hq:(md'.settle = .ret∧∃ d,resDV L ⟨st.env,σ'⟩ fn.results.toList = some d∧Q (.ret d) σ')∨∃ d,md'.settle = .pan d∧Q (.pan d) σ') {a:Act} {w:World} {u:FrameMode} (hl:LvS C [.fn g caps] st.env st.ob a w u md) :
    Leaves P fn a.tmps (OutsP Q C.w0 C.F0 C.μ0 C.σ0) a.defers u w:=by
  obtain ⟨F,μ,hr,hmd,hne⟩:=hl
  obtain ⟨d,ds,e1,⟨vs,e2,e3⟩,e4⟩:=hr.defers
  rw [e1]
  have hu:u ≠ .run:=by
    cases md with
    | ret=>rw [show u = .returning from hmd]; simp
    | pan d=>obtain ⟨v,e,_⟩:=hmd; rw [e]; simp
    | rcv d=>exact absurd rfl (hne d)
  subst e3
  refine ⟨hu,.func g,⟨vs⟩,g,⟨vs⟩,rfl,?_,fun c cs hcm=>?_⟩
  · simp only [invoke,Array.empty_append]
    exact hd.enters _ w
  · obtain ⟨e,u',w',fr,⟨v,F',μ',rfl,haf,hmd'⟩,q1,q2,q3⟩:=hd.calls w F μ vs u hr.hr e2 hmd c cs hcm
    refine ⟨_,u',w',fr,?_,q1,q2,q3⟩
    have hds:ds = []:=e4
    subst hds
    have hr':Rel0 (C.at []) F' μ' ⟨st.env,σ'⟩ { a with defers:=[] } w':=⟨haf.hr,fun t=>(hr.env t).step haf.step,hr.step.trans haf.step,hr.fr.trans haf.fr,fun c b hb=>(haf.col c b hb).elim (hr.col c b) (fun q=>.inr (Nat.le_trans hr.fr.size q)),hr.size,rfl⟩
    have hmd2:=hmd'.settle
    show Leaves P fn a.tmps (OutsP Q C.w0 C.F0 C.μ0 C.σ0) [] (settle u') w'
    rcases hq with ⟨hs,d,hres,hQ⟩ | ⟨d,hs,hQ⟩
    · rw [hs] at hmd2
      rw [show settle u' = .returning from hmd2]
      obtain ⟨v,r1,r2⟩:=run_results (C:=C.at []) (by rw [show (C.at []).P = P from hP]; exact hL) hr' (fn:=fn) hres
      rw [show (C.at []).P = P from hP] at r1
      exact ⟨v,r1,_,_,hQ,F',μ',v,⟨hr'.hr,hr'.step,hr'.fr,hr'.col⟩,rfl,r2⟩
    · rw [hs] at hmd2
      obtain ⟨v,e,hrep⟩:=hmd2
      rw [e]
      exact ⟨_,_,hQ,F',μ',v,⟨hr'.hr,hr'.step,hr'.fr,hr'.col⟩,rfl,hrep⟩
theorem OkE.of_defer {P:Program} {L:Lay} (hL:LayOk P L) {f:FuncId} {fn:Func} {c:Code} {args:List DV} {σ:List Ob} {Q:Out→List Ob→Prop} {g:FuncId} {caps:List DV} (hf:P.funcs[f]? = some fn) (hb:fn.body = some c)
    (hname : (fn.name == "runtime.NumGoroutine") = false) (hlen : args.length ≤ fn.ntmps)
    (h:∀ C:Ctx,C.P = P→C.n = fn.ntmps→C.rd = none→C.σ0 = σ→Fixed σ→SWd C [] [.fn g caps] c ⟨slots 0 args,σ⟩ (LeaveD P L fn.results.toList g caps Q)):OkE P f args σ Q:=by
  refine ⟨fun vs w=>?_,fun w F μ vs hr hv=>?_⟩
  · have hn : ¬ fn.name = "runtime.NumGoroutine" := by simpa using hname
    simp [callFunc,program,Sem.run,hf,hn,hb]
  · let C:Ctx:=⟨P,fn.ntmps,none,[],w,F,μ,σ,hr.out⟩
    have hwp:=h C rfl rfl rfl rfl hr.fixed _ w ⟨F,μ,rel_start hr hv hlen⟩
    refine calls_of_wp_defers hf hb (wp_mono ((wpIn_wide (n:=0)).1 hwp) fun ex a w' hq=>?_)
    cases ex with
    | normal =>
      obtain ⟨st,⟨md,md',σ',he,hd,hq⟩,F',μ',hr'⟩:=hq
      cases he
      exact leaveD_ok (C:=C) hL rfl hd hq ⟨F',μ',hr',rfl,fun d h=>by cases h⟩
    | ret =>
      obtain ⟨st,⟨md,md',σ',he,hd,hq⟩,F',μ',hr'⟩:=hq
      cases he
      exact leaveD_ok (C:=C) hL rfl hd hq ⟨F',μ',hr',rfl,fun d h=>by cases h⟩
    | exit i=>obtain ⟨st,⟨md,md',σ',he,_⟩,_⟩:=hq; cases he
    | panic ch =>
      obtain ⟨st,d,v,F',μ',⟨md,md',σ',he,hd,hq⟩,rfl,h1,h2⟩:=hq
      cases he
      exact leaveD_ok (C:=C) hL rfl hd hq ⟨F',μ',h1,⟨v,rfl,h2⟩,fun d h=>by cases h⟩
    | goto l=>exact hq.elim
    | outgrown=>exact hq.elim
end Go.VL
end
section
set_option maxRecDepth 10000
set_option maxHeartbeats 2000000
namespace Go.VL
open Go Go.Proofs
open Nat renaming reduceAdd → ja, reduceEqDiff → jb, reduceSub → jc, reduceMul → jd, reduceLeDiff → je, reduceBEq → jf, reduceLT → jg
open Int renaming reduceLT → jh, reduceLE → ji
open Go.VL renaming thenK → jk, blockK → jl, loopK → jm, loopG → jn
theorem toldNil_ok (e:Nat) (σ:List Ob):Ok Try.prog 36 [.nili,.ptr e 1 0 0] σ (.ret (.bool false)) σ:=by
  refine Ok.of_body layOk Try.func36 rfl (by decide) (by simp [Try.ntmps36]) fun C hP hn hσ hfix hdd=>?_
  rw [show Try.f36.ntmps = 17 from rfl] at hn
  have hL:LayOk C.P L:=hP ▸ layOk
  have hm:C.P.follows .mixedOrders = true:=hP ▸ mixed
  repeat (first|((first|refine sA hL hn rfl ?_|refine sB hL hn rfl ?_);simp only [go_sem,jf,jh,ji,ja,jb,reduceIte,jc,jg,jd,je,reduceCtorEq])|((first|refine sC ?_|refine sH ?_|refine sI ?_|refine sJ ?_);try simp only [jk,jl,jm,jn,if_true,if_false,jb])|refine sD ?_|refine sE ?_|refine sF rfl ?_|refine sG rfl ?_)
  exact ⟨_,_,_,Ghost.refl _ _,rfl,GhostV.refl _ _ _,rfl⟩
theorem toldErr_ok (n:Int) (e:Nat) (x:Int) (σ:List Ob) (he:σ[e]? = some (.arr 31 1 [.int .i64 x])):Ok Try.prog 36 [errD n,.ptr e 1 0 0] σ (.ret (.bool true)) (σ.set e (.arr 31 1 [.int .i64 n])):=by
  unfold errD
  refine Ok.of_body layOk Try.func36 rfl (by decide) (by simp [Try.ntmps36]) fun C hP hn hσ hfix hdd=>?_
  rw [show Try.f36.ntmps = 17 from rfl] at hn
  have hL:LayOk C.P L:=hP ▸ layOk
  have hm:C.P.follows .mixedOrders = true:=hP ▸ mixed
  repeat (first|((first|refine sA hL hn rfl ?_|refine sB hL hn rfl ?_);simp only [go_sem,jf,jh,ji,ja,jb,reduceIte,jc,jg,jd,je,reduceCtorEq,he])|((first|refine sC ?_|refine sH ?_|refine sI ?_|refine sJ ?_);try simp only [jk,jl,jm,jn,if_true,if_false,jb])|refine sD ?_|refine sE ?_|refine sF rfl ?_|refine sG rfl ?_)
  exact ⟨_,_,_,Ghost.refl _ _,rfl,GhostV.refl _ _ _,rfl⟩
theorem readDefRet (e wc:Nat) (σ:List Ob):DefOk Try.prog 45 [.ptr e 1 0 0,.ptr wc 1 0 0] .ret σ .ret σ:=by
  refine defOk_of_walk (stop:=false) (st':=⟨[],σ⟩) layOk Try.func45 rfl (by decide) (by simp [Try.ntmps45]) (fun C hP hn c₀ cs a w u hr=>?_) rfl
  rw [show Try.f45.ntmps = 4 from rfl] at hn
  refine wpS_seq (wpS_mono (wpS_region ?_) (Q:=FinS C c₀ cs false .ret ⟨[(0,.ptr e 1 0 0),(1,.ptr wc 1 0 0),(2,.nili),(3,.bool false)],σ⟩) ?_)
  · refine opS_recover (o:=_) rfl rfl (by rw [hn]; decide) rfl (fun a w u hr=>?_) hr
    refine opS_call (f:=36) (caps:=[]) (d:=.bool false) (ob':=σ) rfl rfl (by rw [hn]; decide) rfl ?_ ?_ (fun a w u hr=>?_) hr
    · rfl
    · exact toldNil_ok e σ
    exact ⟨rfl,u,rfl,hr.weak (Weak.of_agree rfl ⟨rfl,rfl,rfl,rfl,trivial⟩)⟩
  · rintro ex a1 cs1 w1 ⟨rfl,u1,rfl,hr1⟩
    have hv:a1.eval (.tmp 3) = .bool false:=by
      obtain ⟨F,μ,h1,_⟩:=hr1
      have:=rep_ev h1 (.tmp 3)
      generalize a1.eval (.tmp 3) = v at this
      cases this
      rfl
    refine wpS_cond hv ?_
    exact wpS_of_wp (wp_skip ⟨rfl,u1,rfl,hr1.weak (Weak.of_agree (l:=[]) rfl trivial)⟩)
theorem readDefPan (n:Int) (e wc:Nat) (x:Int) (y:DV) (σ:List Ob) (he:σ[e]? = some (.arr 31 1 [.int .i64 x])) (hw:σ[wc]? = some (.arr 68 1 [y])) (hy:∀ l,y ≠ .agg l) (hne:e ≠ wc) :
    DefOk Try.prog 45 [.ptr e 1 0 0,.ptr wc 1 0 0] (.pan (errD n)) σ (.rcv (errD n)) ((σ.set e (.arr 31 1 [.int .i64 n])).set wc (.arr 68 1 [.nilp])):=by
  obtain ⟨σ1,hσ1⟩:∃ σ1,σ1 = σ.set e (.arr 31 1 [.int .i64 n]):=⟨_,rfl⟩
  obtain ⟨σ2,hσ2⟩:∃ σ2,σ2 = σ1.set wc (.arr 68 1 [.nilp]):=⟨_,rfl⟩
  have hw1:σ1[wc]? = some (.arr 68 1 [y]):=by rw [hσ1,List.getElem?_set_ne hne]; exact hw
  have htold:=toldErr_ok n e x σ he
  rw [← hσ1] at htold ⊢
  rw [← hσ2]
  refine defOk_of_walk (stop:=false) (st':=⟨[],σ2⟩) layOk Try.func45 rfl (by decide) (by simp [Try.ntmps45]) (fun C hP hn c₀ cs a w u hr=>?_) rfl
  rw [show Try.f45.ntmps = 4 from rfl] at hn
  refine wpS_seq (wpS_mono (wpS_region ?_) (Q:=FinS C c₀ cs false (.rcv (errD n)) ⟨[(0,.ptr e 1 0 0),(1,.ptr wc 1 0 0),(2,errD n),(3,.bool true)],σ1⟩) ?_)
  · refine opS_recover (o:=_) rfl rfl (by rw [hn]; decide) rfl (fun a w u hr=>?_) hr
    refine opS_call (f:=36) (caps:=[]) (d:=.bool true) (ob':=σ1) rfl rfl (by rw [hn]; decide) rfl ?_ ?_ (fun a w u hr=>?_) hr
    · rfl
    · exact htold
    exact ⟨rfl,u,rfl,hr.weak (Weak.of_agree rfl ⟨rfl,rfl,rfl,rfl,trivial⟩)⟩
  · rintro ex a1 cs1 w1 ⟨rfl,u1,rfl,hr1⟩
    have hv:a1.eval (.tmp 3) = .bool true:=by
      obtain ⟨F,μ,h1,_⟩:=hr1
      have:=rep_ev h1 (.tmp 3)
      generalize a1.eval (.tmp 3) = v at this
      cases this
      rfl
    refine wpS_cond hv (wpS_region ?_)
    have hst:sop L ⟨[(0,.ptr e 1 0 0),(1,.ptr wc 1 0 0),(2,errD n),(3,.bool true)],σ1⟩ (.store 68 (.tmp 1) (.const (.pointer none))) = some (.undef,σ2):=by
      rw [hσ2]
      simp only [go_sem,hw1,reduceIte,Nat.reduceLT,reduceCtorEq,ja,Nat.reduceBEq]
      cases y <;> first | rfl | exact absurd rfl (hy _)
    refine opS_value (P:=Try.prog) (o:=_) hP rfl rfl (by rw [hn]; decide) (OpRun.of_sop layOk hst) (fun a w u hr=>?_) hr1
    exact ⟨rfl,u,rfl,hr.weak (Weak.of_agree (l:=[]) rfl trivial)⟩
def w0:WS:=⟨[],[],0⟩
def treeF (ps:List Pg) (root:Int):WS × Int :=
  if 2048 < ps.length then (w0,3) else if root = 0 then (w0,0) else if (nodeF ps 16 root 1 none none w0).2 = true then ((nodeF ps 16 root 1 none none w0).1,0) else (w0,9)
def readObs (n c:Nat) (ps:List Pg) (w:WS) (Wc:DV) (e:Int):List Ob :=
  [.arr 29 1 [.agg [pgsD c ps]],.arr 68 1 [Wc],.arr 31 1 [.int .i64 e],wM w,wW c ps (n+3) (n+5) w,wI w]
theorem readE_ok (c:Nat) (ps:List Pg) (root:Int) (σ:List Ob) (Q:Out→List Ob→Prop)
    (h0:(treeF ps root).2 = 0→Q (.ret (.tup [.ptr (σ.length+4) 1 0 0,.int .i64 0])) (σ ++ readObs σ.length c ps (treeF ps root).1 (.ptr (σ.length+4) 1 0 0) 0))
    (h1:(treeF ps root).2 ≠ 0→∀ G,Q (.ret (.tup [.nilp,.int .i64 (treeF ps root).2])) (σ ++ G)) :
    OkE Try.prog 29 [.agg [pgsD c ps],.int .i64 root] σ Q:=by
  obtain ⟨X,hX⟩:∃ X,X = ps.map ePg:=⟨_,rfl⟩
  have hXl:X.length = ps.length:=by rw [hX,List.length_map]
  have hneed:=needT_ok 3
  have hpan:=needF_ok 3
  unfold pgsD
  rw [← hX]
  obtain ⟨n,hnl⟩:∃ n,n = σ.length:=⟨_,rfl⟩
  refine OkE.of_defer (g:=45) (caps:=[.ptr (n+2) 1 0 0,.ptr (n+1) 1 0 0]) layOk Try.func29 rfl (by decide) (by simp [Try.ntmps29]) fun C hP hn hrd hσ hfix=>?_
  rw [show Try.f29.ntmps = 22 from rfl] at hn
  refine SWd.seq (s1:=⟨[(0,.agg [.vec c 1 X]),(1,.int .i64 root),(2,.ptr n 1 0 0),(4,.ptr (n+1) 1 0 0),(5,.ptr (n+2) 1 0 0)],σ ++ [.arr 29 1 [.agg [.vec c 1 X]],.arr 68 1 [.nilp],.arr 31 1 [.int .i64 0]]⟩) (d1:=[]) ?_ ?_
  · skip
    refine Does.part hP hn (fun d h=>by cases h) fun C hP hn=>?_
    have hL:LayOk C.P L:=hP ▸ layOk
    have hm:C.P.follows .mixedOrders = true:=hP ▸ mixed
    repeat (first|((first|refine sA hL hn rfl ?_|refine sB hL hn rfl ?_);simp only [go_sem,jf,jh,ji,ja,jb,reduceIte,jc,jg,jd,je,reduceCtorEq])|((first|refine sC ?_|refine sH ?_|refine sI ?_|refine sJ ?_);try simp only [jk,jl,jm,jn,if_true,if_false,jb])|refine sD ?_|refine sE ?_|refine sF rfl ?_|refine sG rfl ?_)
    exact ⟨rfl,.of rfl (by simp [agree,lk,hnl])⟩
  refine SWd.seq (s1:=⟨[(0,.agg [.vec c 1 X]),(1,.int .i64 root),(2,.ptr n 1 0 0),(4,.ptr (n+1) 1 0 0),(5,.ptr (n+2) 1 0 0)],σ ++ [.arr 29 1 [.agg [.vec c 1 X]],.arr 68 1 [.nilp],.arr 31 1 [.int .i64 0]]⟩) (d1:=[.fn 45 [.ptr (n+2) 1 0 0,.ptr (n+1) 1 0 0]]) ?_ ?_
  · refine Does.region ?_
    refine DoesL.op rfl (by rw [hn]; decide) (OpDo.op (hP ▸ layOk) rfl) ?_
    refine DoesL.defer hrd rfl (by rw [hn]; decide) rfl rfl rfl ?_
    rintro a w ⟨F,μ,h⟩
    exact ⟨rfl,F,μ,h.weak (Weak.of_agree rfl ⟨rfl,rfl,rfl,rfl,rfl,trivial⟩)⟩
  refine SWd.end ?_
  obtain ⟨C',hC'⟩:∃ C',C' = C.at [.fn 45 [.ptr (n+2) 1 0 0,.ptr (n+1) 1 0 0]]:=⟨_,rfl⟩
  rw [← hC']
  replace hP:C'.P = Try.prog:=by rw [hC']; exact hP
  replace hn:C'.n = 22:=by rw [hC']; exact hn
  clear hC' hσ hrd
  have hL:LayOk C'.P L:=hP ▸ layOk
  have hm:C'.P.follows .mixedOrders = true:=hP ▸ mixed
  have bad:∀ (env:List (Nat × DV)) (G:List Ob) (y:DV) (e:Int),lk env 4 = .ptr (n+1) 1 0 0→lk env 5 = .ptr (n+2) 1 0 0→G[1]? = some (.arr 68 1 [y])→G[2]? = some (.arr 31 1 [.int .i64 0])→(∀ l,y ≠ .agg l)→(treeF ps root).2 = e→e ≠ 0 →
      LeaveD Try.prog L Try.f29.results.toList 45 [.ptr (n+2) 1 0 0,.ptr (n+1) 1 0 0] Q (.panic (errD e)) ⟨env,σ ++ G⟩:=by
    intro env G y e h4 h5 g1 g2 hy he hne
    have k1:(σ ++ G)[n+1]? = some (.arr 68 1 [y]):=by rw [hnl,own_get]; exact g1
    have k2:(σ ++ G)[n+2]? = some (.arr 31 1 [.int .i64 0]):=by rw [hnl,own_get]; exact g2
    refine ⟨_,_,_,rfl,readDefPan e (n+2) (n+1) 0 y (σ ++ G) k2 k1 hy (by omega),.inl ⟨rfl,.tup [.nilp,.int .i64 e],?_,?_⟩⟩
    · have l1:=(List.getElem?_eq_some_iff.1 k1).1
      have l2:=(List.getElem?_eq_some_iff.1 k2).1
      show resDV L ⟨env,_⟩ [.cell 4 68,.cell 5 31] = _
      have j1:(((σ ++ G).set (n+2) (Ob.arr 31 1 [.int .i64 e])).set (n+1) (.arr 68 1 [.nilp]))[n+1]? = some (.arr 68 1 [.nilp]):=by
        rw [List.getElem?_set_self (by simpa using l1)]
      have j2:(((σ ++ G).set (n+2) (Ob.arr 31 1 [.int .i64 e])).set (n+1) (.arr 68 1 [.nilp]))[n+2]? = some (.arr 31 1 [.int .i64 e]):=by
        rw [List.getElem?_set_ne (by omega),List.getElem?_set_self l2]
      simp only [resDV,resL,resDV1,h4,h5,go_sem,j1,j2,reduceIte,Nat.reduceLT,reduceCtorEq,ja,Nat.reduceBEq]
    · rw [hnl,own_set,own_set]
      have:=h1 (by rw [he]; exact hne) ((G.set 2 (.arr 31 1 [.int .i64 e])).set 1 (.arr 68 1 [.nilp]))
      rw [he] at this
      exact this
  have good:∀ (env:List (Nat × DV)) (w:WS),lk env 4 = .ptr (n+1) 1 0 0→lk env 5 = .ptr (n+2) 1 0 0→treeF ps root = (w,0) →
      LeaveD Try.prog L Try.f29.results.toList 45 [.ptr (n+2) 1 0 0,.ptr (n+1) 1 0 0] Q .ret ⟨env,σ ++ readObs n c ps w (.ptr (n+4) 1 0 0) 0⟩:=by
    intro env w h4 h5 he
    refine ⟨_,_,_,rfl,readDefRet (n+2) (n+1) _,.inl ⟨rfl,.tup [.ptr (n+4) 1 0 0,.int .i64 0],?_,?_⟩⟩
    · show resDV L ⟨env,_⟩ [.cell 4 68,.cell 5 31] = _
      have j1:(σ ++ readObs n c ps w (.ptr (n+4) 1 0 0) 0)[n+1]? = some (.arr 68 1 [.ptr (n+4) 1 0 0]):=by rw [hnl,own_get]; rfl
      have j2:(σ ++ readObs n c ps w (.ptr (n+4) 1 0 0) 0)[n+2]? = some (.arr 31 1 [.int .i64 0]):=by rw [hnl,own_get]; rfl
      simp only [resDV,resL,resDV1,h4,h5,go_sem,j1,j2,reduceIte,Nat.reduceLT,reduceCtorEq,ja,Nat.reduceBEq]
    · rw [he] at h0
      have:=h0 rfl
      rw [← hnl] at this
      exact this
  by_cases hlen:2048 < ps.length
  · have d1:decide (((ps.length:Nat):Int)≤2048) = false:=decide_eq_false (by omega)
    have ht:(treeF ps root).2 = 3:=by unfold treeF; rw [if_pos hlen]
    rw [hnl]
    repeat (first|((first|refine sA hL hn rfl ?_|refine sB hL hn rfl ?_);simp only [go_sem,jf,jh,ji,ja,jb,reduceIte,jc,jg,jd,je,reduceCtorEq,hXl,d1])|((first|refine sC ?_|refine sH ?_|refine sI ?_|refine sJ ?_);try simp only [jk,jl,jm,jn,if_true,if_false,jb])|refine sD ?_|refine sE ?_|refine sF rfl ?_|refine sG rfl ?_)
    refine SWops.callp hP (by rw [hn]; rfl) (hpan _) rfl rfl rfl rfl ?_; simp (maxSteps:=2000000) only [go_sem,jf,jh,ji,ja,jb,reduceIte,jc,jg,jd,je,reduceCtorEq,dgo_nil,dgo_cons]
    rw [← hnl]
    exact bad _ _ .nilp 3 rfl rfl rfl rfl (fun l h=>by cases h) ht (by decide)
  have d1:decide (((ps.length:Nat):Int)≤2048) = true:=decide_eq_true (by omega)
  have hbd:∀ k:Nat,buildDV L 74 [(0,.agg [.vec c 1 X]),(1,.mp k)] = some (.agg [.vec c 1 X,.mp k,.nils,.int .i64 0]):=fun x=>rfl
  have hst:readObs n c ps w0 (.ptr (n+4) 1 0 0) 0 = [.arr 29 1 [.agg [.vec c 1 X]],.arr 68 1 [.ptr (n+4) 1 0 0],.arr 31 1 [.int .i64 0],.oth (.map [] 0) [],.arr 74 4 [.agg [.vec c 1 X,.mp (n+3),.sl (n+5) 0 0 0,.int .i64 0]],.arr 27 2 []]:=by
    rw [hX]; rfl
  obtain ⟨r0,hr0'⟩:∃ r0,r0 = (root != 0):=⟨_,rfl⟩
  rw [hnl]
  repeat (first|((first|refine sA hL hn rfl ?_|refine sB hL hn rfl ?_);simp only [go_sem,jf,jh,ji,ja,jb,reduceIte,jc,jg,jd,je,reduceCtorEq,hXl,d1])|((first|refine sC ?_|refine sH ?_|refine sI ?_|refine sJ ?_);try simp only [jk,jl,jm,jn,if_true,if_false,jb])|refine sD ?_|refine sE ?_|refine sF rfl ?_|refine sG rfl ?_)
  refine sK hP hL hn rfl rfl (hneed _) rfl rfl rfl rfl ?_; simp (maxSteps:=2000000) only [go_sem,jf,jh,ji,ja,jb,reduceIte,jc,jg,jd,je,reduceCtorEq]
  repeat (first|((first|refine sA hL hn rfl ?_|refine sB hL hn rfl ?_);simp only [go_sem,jf,jh,ji,ja,jb,reduceIte,jc,jg,jd,je,reduceCtorEq,hbd,List.headD_cons,← hr0'])|((first|refine sC ?_|refine sH ?_|refine sI ?_|refine sJ ?_);try simp only [jk,jl,jm,jn,if_true,if_false,jb])|refine sD ?_|refine sE ?_|refine sF rfl ?_|refine sG rfl ?_)
  refine SW.ghost (Ghost.trans (Ghost.newNilIn (σ.length+4) 2 27 2 (t:=74) (k:=4) (cs:=[.vec c 1 X,.mp (σ.length+3),.nils,.int .i64 0]) (by rw [own_get]; rfl) rfl) (.of (l:=[(1,.int .i64 root),(4,.ptr (n+1) 1 0 0),(5,.ptr (n+2) 1 0 0),(17,.bool r0)]) (ob':=σ ++ readObs n c ps w0 (.ptr (n+4) 1 0 0) 0) ?_ ?_)) ?_
  · rw [hst,hnl,own_set,List.append_assoc]
    simp
  · simp [agree,lk,hnl]
  have gw:∀ w,(σ ++ readObs n c ps w (.ptr (n+4) 1 0 0) 0)[n+1]? = some (.arr 68 1 [.ptr (n+4) 1 0 0]):=fun w=>by rw [hnl,own_get]; rfl
  have sw:∀ w,(σ ++ readObs n c ps w (.ptr (n+4) 1 0 0) 0).set (n+1) (.arr 68 1 [.ptr (n+4) 1 0 0]) = σ ++ readObs n c ps w (.ptr (n+4) 1 0 0) 0:=fun w=>by rw [hnl,own_set]; rfl
  have ge:∀ w,(σ ++ readObs n c ps w (.ptr (n+4) 1 0 0) 0)[n+2]? = some (.arr 31 1 [.int .i64 0]):=fun w=>by rw [hnl,own_get]; rfl
  have se:∀ w,(σ ++ readObs n c ps w (.ptr (n+4) 1 0 0) 0).set (n+2) (.arr 31 1 [.int .i64 0]) = σ ++ readObs n c ps w (.ptr (n+4) 1 0 0) 0:=fun w=>by rw [hnl,own_set]; rfl
  by_cases hr0:root = 0
  · have ht:treeF ps root = (w0,0):=by unfold treeF; rw [if_neg hlen,if_pos hr0]
    have d2:r0 = false:=by rw [hr0']; simpa using hr0
    rw [d2]
    repeat (first|((first|refine sA hL hn rfl ?_|refine sB hL hn rfl ?_);simp only [go_sem,jf,jh,ji,ja,jb,reduceIte,jc,jg,jd,je,reduceCtorEq,gw,sw,ge,se,List.headD_cons])|((first|refine sC ?_|refine sH ?_|refine sI ?_|refine sJ ?_);try simp only [jk,jl,jm,jn,if_true,if_false,jb])|refine sD ?_|refine sE ?_|refine sF rfl ?_|refine sG rfl ?_)
    rw [← hnl]
    refine good _ _ ?_ ?_ ht <;> rfl
  have d2:r0 = true:=by rw [hr0']; simpa using hr0
  have h3:Three (σ ++ readObs n c ps w0 (.ptr (n+4) 1 0 0) 0) (n+4) (n+3) (n+5):=by
    constructor <;> simp [readObs] <;> omega
  have hS:∀ w,wS (σ ++ readObs n c ps w0 (.ptr (n+4) 1 0 0) 0) (n+4) (n+3) (n+5) c ps w = σ ++ readObs n c ps w (.ptr (n+4) 1 0 0) 0:=by
    intro w
    unfold wS s3
    rw [hnl,own_set,own_set,own_set]
    rfl
  have hnode:=node_ok c ps (by omega) (n+4) (n+3) (n+5) 16 _ h3 root 1 none none w0 (by decide) (by decide) (by decide)
  rw [hS,hS] at hnode
  obtain ⟨res,hres⟩:∃ res,res = nodeF ps 16 root 1 none none w0:=⟨_,rfl⟩
  have htF:treeF ps root = if res.2 = true then (res.1,0) else (w0,9):=by unfold treeF; rw [if_neg hlen,if_neg hr0,hres]
  rw [← hres] at hnode
  rw [d2]
  by_cases hb:res.2 = true
  · rw [if_pos hb] at hnode htF
    repeat (first|((first|refine sA hL hn rfl ?_|refine sB hL hn rfl ?_);simp only [go_sem,jf,jh,ji,ja,jb,reduceIte,jc,jg,jd,je,reduceCtorEq,gw])|((first|refine sC ?_|refine sH ?_|refine sI ?_|refine sJ ?_);try simp only [jk,jl,jm,jn,if_true,if_false,jb])|refine sD ?_|refine sE ?_|refine sF rfl ?_|refine sG rfl ?_)
    refine sK hP hL hn rfl rfl (hnode) rfl rfl rfl rfl ?_; simp (maxSteps:=2000000) only [go_sem,jf,jh,ji,ja,jb,reduceIte,jc,jg,jd,je,reduceCtorEq,gw,sw,ge,se,List.headD_cons]
    repeat (first|((first|refine sA hL hn rfl ?_|refine sB hL hn rfl ?_);simp only [go_sem,jf,jh,ji,ja,jb,reduceIte,jc,jg,jd,je,reduceCtorEq,gw,sw,ge,se,List.headD_cons])|((first|refine sC ?_|refine sH ?_|refine sI ?_|refine sJ ?_);try simp only [jk,jl,jm,jn,if_true,if_false,jb])|refine sD ?_|refine sE ?_|refine sF rfl ?_|refine sG rfl ?_)
    rw [← hnl]
    refine good _ _ ?_ ?_ htF <;> rfl
  · rw [if_neg hb] at hnode htF
    repeat (first|((first|refine sA hL hn rfl ?_|refine sB hL hn rfl ?_);simp only [go_sem,jf,jh,ji,ja,jb,reduceIte,jc,jg,jd,je,reduceCtorEq,gw])|((first|refine sC ?_|refine sH ?_|refine sI ?_|refine sJ ?_);try simp only [jk,jl,jm,jn,if_true,if_false,jb])|refine sD ?_|refine sE ?_|refine sF rfl ?_|refine sG rfl ?_)
    refine SWops.callp hP (by rw [hn]; rfl) (hnode) rfl rfl rfl rfl ?_; simp (maxSteps:=2000000) only [go_sem,jf,jh,ji,ja,jb,reduceIte,jc,jg,jd,je,reduceCtorEq,dgo_nil,dgo_cons]
    rw [← hnl]
    refine bad _ (readObs n c ps res.1 (.ptr (n+4) 1 0 0) 0) (.ptr (n+4) 1 0 0) 9 ?_ ?_ rfl rfl (fun l h=>by cases h) (by rw [htF]) (by decide) <;> rfl
theorem readOk_ok (c:Nat) (ps:List Pg) (root:Int) (h:(treeF ps root).2 = 0) (σ:List Ob):Ok Try.prog 29 [.agg [pgsD c ps],.int .i64 root] σ (.ret (.tup [.ptr (σ.length+4) 1 0 0,.int .i64 0])) (σ ++ readObs σ.length c ps (treeF ps root).1 (.ptr (σ.length+4) 1 0 0) 0) :=
  OkE.ok (readE_ok c ps root σ (fun o O=>o = _∧O = _) (fun _=>⟨rfl,rfl⟩) (fun h'=>absurd h h')) fun o O h=>h
theorem readErr_ok (c:Nat) (ps:List Pg) (root:Int) (h:(treeF ps root).2 ≠ 0) (σ:List Ob):Ok Try.prog 29 [.agg [pgsD c ps],.int .i64 root] σ (.ret (.tup [.nilp,.int .i64 (treeF ps root).2])) σ:=by
  refine OkE.ok (OkE.tidy (c:=0) (R:=fun o O=>o = .ret (.tup [.nilp,.int .i64 (treeF ps root).2])∧O = σ) (readE_ok c ps root σ _ (fun h'=>absurd h' h) fun _ G=>?_)) fun o O h=>h
  exact Tid.none (.low (by simp [low_tup,low_nilp,low_int])) ⟨rfl,rfl⟩
theorem check_ok (c:Nat) (ps:List Pg) (root:Int) (σ:List Ob):Ok Try.prog 20 [.agg [pgsD c ps],.int .i64 root] σ (.ret (.int .i64 (treeF ps root).2)) σ:=by
  have hl:=low_pgs σ.length c ps
  refine OkE.ok (OkE.tidy (c:=0) (R:=fun o O=>o = .ret (.int .i64 (treeF ps root).2)∧O = σ) ?_) fun o O h=>h
  have h0:=readOk_ok c ps root
  have h1:=readErr_ok c ps root
  obtain ⟨e,he⟩:∃ e,e = (treeF ps root).2:=⟨_,rfl⟩
  obtain ⟨P,hPe⟩:∃ P,P = pgsD c ps:=⟨_,rfl⟩
  rw [← he] at h0 h1 ⊢
  rw [← hPe] at h0 h1 ⊢
  refine OkE.of_body layOk Try.func20 rfl (by decide) (by simp [Try.ntmps20]) fun C hP hn hσ hfix hdd=>?_
  rw [show Try.f20.ntmps = 14 from rfl] at hn
  have hL:LayOk C.P L:=hP ▸ layOk
  have hm:C.P.follows .mixedOrders = true:=hP ▸ mixed
  by_cases h:e = 0
  · repeat (first|((first|refine sA hL hn rfl ?_|refine sB hL hn rfl ?_);simp only [go_sem,jf,jh,ji,ja,jb,reduceIte,jc,jg,jd,je,reduceCtorEq])|((first|refine sC ?_|refine sH ?_|refine sI ?_|refine sJ ?_);try simp only [jk,jl,jm,jn,if_true,if_false,jb])|refine sD ?_|refine sE ?_|refine sF rfl ?_|refine sG rfl ?_)
    refine sK hP hL hn rfl rfl (h0 h _) rfl rfl rfl rfl ?_; simp (maxSteps:=2000000) only [go_sem,jf,jh,ji,ja,jb,reduceIte,jc,jg,jd,je,reduceCtorEq]
    repeat (first|((first|refine sA hL hn rfl ?_|refine sB hL hn rfl ?_);simp only [go_sem,jf,jh,ji,ja,jb,reduceIte,jc,jg,jd,je,reduceCtorEq])|((first|refine sC ?_|refine sH ?_|refine sI ?_|refine sJ ?_);try simp only [jk,jl,jm,jn,if_true,if_false,jb])|refine sD ?_|refine sE ?_|refine sF rfl ?_|refine sG rfl ?_)
    refine ⟨_,_,?_,_,(.int .i64 0),_,Ghost.refl _ _,?_,GhostV.refl _ _ _,rfl⟩
    rotate_left
    show resDV L _ [Go.ResultVar.tmp 4] = _
    simp only [resDV,resL,resDV1,go_sem,jf,jh,ji,ja,jb,reduceIte,jc,jg,jd,je,reduceCtorEq]
    exact Tid.none (.low ((low_int _ _).2 trivial)) ⟨by rw [h],rfl⟩
  · repeat (first|((first|refine sA hL hn rfl ?_|refine sB hL hn rfl ?_);simp only [go_sem,jf,jh,ji,ja,jb,reduceIte,jc,jg,jd,je,reduceCtorEq])|((first|refine sC ?_|refine sH ?_|refine sI ?_|refine sJ ?_);try simp only [jk,jl,jm,jn,if_true,if_false,jb])|refine sD ?_|refine sE ?_|refine sF rfl ?_|refine sG rfl ?_)
    refine sK hP hL hn rfl rfl (h1 h _) rfl rfl rfl rfl ?_; simp (maxSteps:=2000000) only [go_sem,jf,jh,ji,ja,jb,reduceIte,jc,jg,jd,je,reduceCtorEq]
    repeat (first|((first|refine sA hL hn rfl ?_|refine sB hL hn rfl ?_);simp only [go_sem,jf,jh,ji,ja,jb,reduceIte,jc,jg,jd,je,reduceCtorEq])|((first|refine sC ?_|refine sH ?_|refine sI ?_|refine sJ ?_);try simp only [jk,jl,jm,jn,if_true,if_false,jb])|refine sD ?_|refine sE ?_|refine sF rfl ?_|refine sG rfl ?_)
    refine ⟨_,_,?_,_,(.int .i64 e),_,Ghost.refl _ _,?_,GhostV.refl _ _ _,rfl⟩
    rotate_left
    show resDV L _ [Go.ResultVar.tmp 4] = _
    simp only [resDV,resL,resDV1,go_sem,jf,jh,ji,ja,jb,reduceIte,jc,jg,jd,je,reduceCtorEq]
    exact Tid.none (.low ((low_int _ _).2 trivial)) ⟨rfl,rfl⟩
end Go.VL
end
section
set_option maxRecDepth 10000
set_option maxHeartbeats 2000000
namespace Go.VL
open Go Go.Proofs
open Nat renaming reduceAdd → ja, reduceEqDiff → jb, reduceSub → jc, reduceMul → jd, reduceLeDiff → je, reduceBEq → jf, reduceLT → jg
open Int renaming reduceLT → jh, reduceLE → ji
open Go.VL renaming thenK → jk, blockK → jl, loopK → jm, loopG → jn
def cmpK (a key:Int):Int:=if a < key then -1 else if a > key then 1 else 0
theorem cmpK_ok (x:It) (key:Int) (σ:List Ob):Ok Try.prog 31 [eT x,.int .u64 key] σ (.ret (.int .i64 (cmpK x.1 key))) σ:=by
  obtain ⟨p1,p2⟩:=x
  refine Ok.thaw (c:=0) (O:=[.arr 27 2 [.agg [.int .u64 p1,.int .u64 p2]]]) ?_ .int (by simp [eT,lk,low_int,low_bool,low_str,low_nils,low_nilp,low_nilf,low_nili,low_undef,low_skip,low_vec,low_agg,low_tup,low_fn,low_vptr,low_iface,low_ptr,low_sl,low_mp,low_it,low_yld,low_emp,lowEnv,lowObs,lowOb,tmpObs,isArr]) σ
  unfold eT
  show Ok _ _ [.agg [.int .u64 p1,.int .u64 p2],.int .u64 key] [] (.ret (.int .i64 (cmpK p1 key))) _
  refine Ok.of_body layOk Try.func31 rfl (by decide) (by simp [Try.ntmps31]) fun C hP hn hσ hfix hdd=>?_
  rw [show Try.f31.ntmps = 15 from rfl] at hn
  have hL:LayOk C.P L:=hP ▸ layOk
  have hm:C.P.follows .mixedOrders = true:=hP ▸ mixed
  by_cases h1:p1 < key
  · have d1:decide (p1 < key) = true:=decide_eq_true h1
    rw [show cmpK p1 key = -1 by simp [cmpK,h1]]
    repeat (first|((first|refine sA hL hn rfl ?_|refine sB hL hn rfl ?_);simp only [go_sem,jf,jh,ji,ja,jb,reduceIte,jc,jg,jd,je,reduceCtorEq,d1])|((first|refine sC ?_|refine sH ?_|refine sI ?_|refine sJ ?_);try simp only [jk,jl,jm,jn,if_true,if_false,jb])|refine sD ?_|refine sE ?_|refine sF rfl ?_|refine sG rfl ?_)
    exact ⟨_,_,_,Ghost.refl _ _,rfl,GhostV.refl _ _ _,rfl⟩
  have d1:decide (p1 < key) = false:=decide_eq_false h1
  by_cases h2:p1 > key
  · have d2:decide (p1 > key) = true:=decide_eq_true h2
    rw [show cmpK p1 key = 1 by simp [cmpK,h1,h2]]
    repeat (first|((first|refine sA hL hn rfl ?_|refine sB hL hn rfl ?_);simp only [go_sem,jf,jh,ji,ja,jb,reduceIte,jc,jg,jd,je,reduceCtorEq,d1,d2])|((first|refine sC ?_|refine sH ?_|refine sI ?_|refine sJ ?_);try simp only [jk,jl,jm,jn,if_true,if_false,jb])|refine sD ?_|refine sE ?_|refine sF rfl ?_|refine sG rfl ?_)
    exact ⟨_,_,_,Ghost.refl _ _,rfl,GhostV.refl _ _ _,rfl⟩
  · have d2:decide (p1 > key) = false:=decide_eq_false h2
    rw [show cmpK p1 key = 0 by simp [cmpK,h1,h2]]
    repeat (first|((first|refine sA hL hn rfl ?_|refine sB hL hn rfl ?_);simp only [go_sem,jf,jh,ji,ja,jb,reduceIte,jc,jg,jd,je,reduceCtorEq,d1,d2])|((first|refine sC ?_|refine sH ?_|refine sI ?_|refine sJ ?_);try simp only [jk,jl,jm,jn,if_true,if_false,jb])|refine sD ?_|refine sE ?_|refine sF rfl ?_|refine sG rfl ?_)
    exact ⟨_,_,_,Ghost.refl _ _,rfl,GhostV.refl _ _ _,rfl⟩
def bsGo (xs:List It) (key:Int):Nat→Nat→Nat→Nat
  | 0,i,_=>i
  | n+1,i,j=>if i < j then (if cmpK ((xs[(i+j) / 2]?).getD (0,0)).1 key < 0 then bsGo xs key n ((i+j) / 2+1) j else bsGo xs key n i ((i+j) / 2)) else i
def bsF (xs:List It) (key:Int):Nat × Bool :=
  let i:=bsGo xs key xs.length 0 xs.length
  (i,decide (i < xs.length) && cmpK ((xs[i]?).getD (0,0)).1 key == 0)
theorem bsGo_end (xs:List It) (key:Int):∀ (n i j:Nat),j - i≤n→∀ m,j - i≤m→bsGo xs key n i j = bsGo xs key m i j:=by
  intro n
  induction n with
  | zero =>
    intro i j h m hm
    cases m with
    | zero=>rfl
    | succ m=>simp only [bsGo]; rw [if_neg (by omega)]
  | succ n ih =>
    intro i j h m hm
    cases m with
    | zero=>simp only [bsGo]; rw [if_neg (by omega)]
    | succ m =>
      simp only [bsGo]
      split
      · split
        · exact ih _ _ (by omega) _ (by omega)
        · exact ih _ _ (by omega) _ (by omega)
      · rfl
theorem bs_ok (c:Nat) (xs:List It) (key:Int) (hl:xs.length≤1000000000000) (σ:List Ob):Ok Try.prog 30 [.vec c 2 (xs.map eT),.int .u64 key,.fn 31 []] σ (.ret (.tup [.int .i64 (bsF xs key).1,.bool (bsF xs key).2])) σ:=by
  obtain ⟨X,hX⟩:∃ X,X = xs.map eT:=⟨_,rfl⟩
  have hXl:X.length = xs.length:=by rw [hX,List.length_map]
  obtain ⟨R,hR⟩:∃ R,R = bsGo xs key xs.length 0 xs.length:=⟨_,rfl⟩
  rw [← hX]
  have e30:∀ (k:Nat),k < xs.length→X[k]?.getD .undef = eT ((xs[k]?).getD (0,0)):=fun k hk=>by
    rw [hX,List.getElem?_map,List.getElem?_eq_getElem hk]; rfl
  unfold bsF
  simp only
  rw [← hR]
  refine Ok.of_body layOk Try.func30 rfl (by decide) (by simp [Try.ntmps30]) fun C hP hn hσ hfix hdd=>?_
  rw [show Try.f30.ntmps = 49 from rfl] at hn
  have hL:LayOk C.P L:=hP ▸ layOk
  have hm:C.P.follows .mixedOrders = true:=hP ▸ mixed
  repeat (first|((first|refine sA hL hn rfl ?_|refine sB hL hn rfl ?_);simp only [go_sem,jf,jh,ji,ja,jb,reduceIte,jc,jg,jd,je,reduceCtorEq,hXl])|((first|refine sC ?_|refine sH ?_|refine sI ?_|refine sJ ?_);try simp only [jk,jl,jm,jn,if_true,if_false,jb])|refine sD ?_|refine sE ?_|refine sF rfl ?_|refine sG rfl ?_)
  refine SW.lpg (fun x:Nat × Nat=>⟨[(0,.vec c 2 X),(1,.int .u64 key),(2,.fn 31 []),(8,.int .i64 xs.length),(9,.int .i64 x.1),(10,.int .i64 x.2)],σ⟩) (fun x=>x.2 - x.1) (fun x=>x.1≤xs.length∧x.2≤xs.length∧R = bsGo xs key (x.2 - x.1) x.1 x.2) (0,xs.length) ⟨by simp,by simp,hR⟩ (.of rfl (by simp [agree,lk])) ?_
  rintro ⟨i,j⟩ ⟨hi,hj,hrest⟩
  simp only at hi hj hrest
  by_cases hlt:i < j
  · have e1:decide ((i:Int) < (j:Int)) = true:=decide_eq_true (by omega)
    obtain ⟨m,hm'⟩:∃ m,m = (i+j) / 2:=⟨_,rfl⟩
    have w1:IntKind.i64.wrap ((i:Int)+(j:Int)) = ((i+j:Nat):Int):=wi (by omega) (by omega)
    have w2:IntKind.u64.wrap ((i+j:Nat):Int) = ((i+j:Nat):Int):=wu (by omega) rfl
    have w3:((i+j:Nat):Int).fdiv (2 ^ min 1 64) = (m:Int):=by
      rw [Int.fdiv_eq_ediv_of_nonneg _ (by decide),hm']
      show _ / (2:Int) = _
      omega
    have w3u:IntKind.u64.wrap (m:Int) = (m:Int):=wu (by omega) rfl
    have w4:IntKind.i64.wrap (m:Int) = (m:Int):=wi (by omega) rfl
    have w5:IntKind.i64.wrap ((m:Int)+1) = ((m+1:Nat):Int):=wi (by omega) (by omega)
    have e2:(0≤(m:Int)∧(m:Int) < (xs.length:Int)):=by omega
    have e3:=e30 m (by omega)
    obtain ⟨S,hS⟩:∃ S,S = i+j:=⟨_,rfl⟩
    rw [← hS] at w1 w2 w3
    obtain ⟨p,hp⟩:∃ p,p = (xs[m]?).getD (0,0):=⟨_,rfl⟩
    rw [← hp] at e3
    have hcmp:=cmpK_ok p key
    obtain ⟨r,hr⟩:∃ r,r = cmpK p.1 key:=⟨_,rfl⟩
    rw [← hr] at hcmp
    have hgo:R = if r < 0 then bsGo xs key (j - (m+1)) (m+1) j else bsGo xs key (m - i) i m:=by
      rw [hrest,show j - i = (j - i - 1)+1 by omega]
      simp only [bsGo]
      rw [if_pos hlt,← hm',← hp,← hr]
      split
      · exact bsGo_end _ _ _ _ _ (by omega) _ (by omega)
      · exact bsGo_end _ _ _ _ _ (by omega) _ (by omega)
    obtain ⟨p1,p2⟩:=p
    unfold eT at e3 hcmp
    simp only at e3 hcmp
    have z1:((1:Int) < 0) = False:=by decide
    have t1:Int.toNat 1 = 1:=rfl
    repeat (first|((first|refine sA hL hn rfl ?_|refine sB hL hn rfl ?_);simp only [go_sem,jf,jh,ji,ja,jb,reduceIte,jc,jg,jd,je,reduceCtorEq,e1,w1,convDV,w2,shiftInt,z1,t1,w3,w3u,w4,hXl,e2,e3])|((first|refine sC ?_|refine sH ?_|refine sI ?_|refine sJ ?_);try simp only [jk,jl,jm,jn,if_true,if_false,jb])|refine sD ?_|refine sE ?_|refine sF rfl ?_|refine sG rfl ?_)
    by_cases hneg:r < 0
    · rw [if_pos hneg] at hgo
      have d1:decide (r < 0) = true:=decide_eq_true hneg
      refine sK hP hL hn rfl rfl (hcmp _) rfl rfl rfl rfl ?_; simp (maxSteps:=2000000) only [go_sem,jf,jh,ji,ja,jb,reduceIte,jc,jg,jd,je,reduceCtorEq,d1]
      repeat (first|((first|refine sA hL hn rfl ?_|refine sB hL hn rfl ?_);simp only [go_sem,jf,jh,ji,ja,jb,reduceIte,jc,jg,jd,je,reduceCtorEq,w5])|((first|refine sC ?_|refine sH ?_|refine sI ?_|refine sJ ?_);try simp only [jk,jl,jm,jn,if_true,if_false,jb])|refine sD ?_|refine sE ?_|refine sF rfl ?_|refine sG rfl ?_)
      refine Lp.nextg (m+1,j) ⟨?_,hj,?_⟩ ?_ (.of rfl (by simp [agree,lk]))
      · show m+1≤_; omega
      · exact hgo
      · show j - (m+1) < j - i; omega
    · rw [if_neg hneg] at hgo
      have d1:decide (r < 0) = false:=decide_eq_false hneg
      refine sK hP hL hn rfl rfl (hcmp _) rfl rfl rfl rfl ?_; simp (maxSteps:=2000000) only [go_sem,jf,jh,ji,ja,jb,reduceIte,jc,jg,jd,je,reduceCtorEq,d1]
      repeat (first|((first|refine sA hL hn rfl ?_|refine sB hL hn rfl ?_);simp only [go_sem,jf,jh,ji,ja,jb,reduceIte,jc,jg,jd,je,reduceCtorEq])|((first|refine sC ?_|refine sH ?_|refine sI ?_|refine sJ ?_);try simp only [jk,jl,jm,jn,if_true,if_false,jb])|refine sD ?_|refine sE ?_|refine sF rfl ?_|refine sG rfl ?_)
      refine Lp.nextg (i,m) ⟨hi,?_,?_⟩ ?_ (.of rfl (by simp [agree,lk]))
      · show m≤_; omega
      · exact hgo
      · show m - i < j - i; omega
  · have e1:decide ((i:Int) < (j:Int)) = false:=decide_eq_false (by omega)
    have hRi:R = i:=by
      rw [hrest,show j - i = 0 by omega]; rfl
    rw [hRi]
    by_cases hin:i < xs.length
    · have d2:decide ((i:Int) < (xs.length:Int)) = true:=decide_eq_true (by omega)
      have d2':decide (i < xs.length) = true:=decide_eq_true hin
      have e2:(0≤(i:Int)∧(i:Int) < (xs.length:Int)):=by omega
      have e3:=e30 i hin
      obtain ⟨p,hp⟩:∃ p,p = (xs[i]?).getD (0,0):=⟨_,rfl⟩
      rw [← hp] at e3 ⊢
      have hcmp:=cmpK_ok p key
      obtain ⟨r,hr⟩:∃ r,r = cmpK p.1 key:=⟨_,rfl⟩
      rw [← hr] at hcmp ⊢
      obtain ⟨p1,p2⟩:=p
      unfold eT at e3 hcmp
      simp only at e3 hcmp
      repeat (first|((first|refine sA hL hn rfl ?_|refine sB hL hn rfl ?_);simp only [go_sem,jf,jh,ji,ja,jb,reduceIte,jc,jg,jd,je,reduceCtorEq,e1,d2,hXl,e2,e3])|((first|refine sC ?_|refine sH ?_|refine sI ?_|refine sJ ?_);try simp only [jk,jl,jm,jn,if_true,if_false,jb])|refine sD ?_|refine sE ?_|refine sF rfl ?_|refine sG rfl ?_)
      refine sK hP hL hn rfl rfl (hcmp _) rfl rfl rfl rfl ?_; simp (maxSteps:=2000000) only [go_sem,jf,jh,ji,ja,jb,reduceIte,jc,jg,jd,je,reduceCtorEq]
      rw [d2',Bool.true_and]
      repeat (first|((first|refine sA hL hn rfl ?_|refine sB hL hn rfl ?_);simp only [go_sem,jf,jh,ji,ja,jb,reduceIte,jc,jg,jd,je,reduceCtorEq])|((first|refine sC ?_|refine sH ?_|refine sI ?_|refine sJ ?_);try simp only [jk,jl,jm,jn,if_true,if_false,jb])|refine sD ?_|refine sE ?_|refine sF rfl ?_|refine sG rfl ?_)
      exact ⟨_,_,_,Ghost.refl _ _,rfl,GhostV.refl _ _ _,rfl⟩
    · have d2:decide ((i:Int) < (xs.length:Int)) = false:=decide_eq_false (by omega)
      have d2':decide (i < xs.length) = false:=decide_eq_false hin
      rw [d2',Bool.false_and]
      repeat (first|((first|refine sA hL hn rfl ?_|refine sB hL hn rfl ?_);simp only [go_sem,jf,jh,ji,ja,jb,reduceIte,jc,jg,jd,je,reduceCtorEq,e1,d2])|((first|refine sC ?_|refine sH ?_|refine sI ?_|refine sJ ?_);try simp only [jk,jl,jm,jn,if_true,if_false,jb])|refine sD ?_|refine sE ?_|refine sF rfl ?_|refine sG rfl ?_)
      exact ⟨_,_,_,Ghost.refl _ _,rfl,GhostV.refl _ _ _,rfl⟩
end Go.VL
end
section
set_option maxRecDepth 10000
set_option maxHeartbeats 2000000
namespace Go.VL
open Go Go.Proofs
open Nat renaming reduceAdd → ja, reduceEqDiff → jb, reduceSub → jc, reduceMul → jd, reduceLeDiff → je, reduceBEq → jf, reduceLT → jg
open Int renaming reduceLT → jh, reduceLE → ji
open Go.VL renaming thenK → jk, blockK → jl, loopK → jm, loopG → jn
theorem bsOwn_ok (xs:List It) (key:Int) (hl:xs.length≤1000000000000) (σ:List Ob) (id t:Nat) (h:σ[id]? = some (.arr t 2 (xs.map eT))):Ok Try.prog 30 [.sl id xs.length 0 xs.length,.int .u64 key,.fn 31 []] σ (.ret (.tup [.int .i64 (bsF xs key).1,.bool (bsF xs key).2])) σ :=
  Ok.lendF (c:=1) (bs_ok 1 xs key hl []) rfl (fun i x y hx hy=>by
    match i,hx,hy with
    | 0,hx,hy=>cases hx; cases hy; exact Fz.list eT (low_eT 0) h
    | 1,hx,hy=>cases hx; cases hy; exact .int
    | 2,hx,hy=>cases hx; cases hy; exact .low ((low_fn _ _).2 fun x hx=>by simp at hx)
    | i+3,hx,_=>simp at hx) (cl_tup2 .int .bool)
def floorF (ps:List Pg) (root key:Int):It × Bool × Int :=
  if (treeF ps root).2 ≠ 0 then ((0,0),false,(treeF ps root).2)
  else
    let b:=bsF (treeF ps root).1.items key
    let i:Int:=if b.2 then b.1 else b.1 - 1
    if i < 0 then ((0,0),false,0) else (((treeF ps root).1.items[i.toNat]?).getD (0,0),true,0)
theorem treeF_len (ps:List Pg) (root:Int):(treeF ps root).1.items.length≤3 * 4 ^ 16:=by
  have h:=nodeF_len ps 16 root 1 none none w0
  have h0:w0.items.length = 0:=rfl
  rw [h0,Nat.zero_add] at h
  unfold treeF
  split
  · simp [w0]
  · split
    · simp [w0]
    · split
      · exact h
      · simp [w0]
theorem bsGo_le (xs:List It) (key:Int):∀ (n i j:Nat),i≤j→j≤xs.length→bsGo xs key n i j≤xs.length
  | 0,i,j,h1,h2=>by simp only [bsGo]; omega
  | n+1,i,j,h1,h2=>by
    simp only [bsGo]
    split
    · split
      · exact bsGo_le xs key n _ _ (by omega) h2
      · exact bsGo_le xs key n _ _ (by omega) (by omega)
    · omega
theorem floor_ok (c:Nat) (ps:List Pg) (root key:Int) (σ:List Ob):Ok Try.prog 10 [.agg [pgsD c ps],.int .i64 root,.int .u64 key] σ (.ret (.tup [eT (floorF ps root key).1,.bool (floorF ps root key).2.1,.int .i64 (floorF ps root key).2.2])) σ:=by
  have h0:=readOk_ok c ps root
  have h1:=readErr_ok c ps root
  obtain ⟨R,hR⟩:∃ R:Out→List Ob→Prop,R = fun o O=>o = .ret (.tup [eT (floorF ps root key).1,.bool (floorF ps root key).2.1,.int .i64 (floorF ps root key).2.2])∧O = σ:=⟨_,rfl⟩
  have fin:∀ (x:It) (b:Bool) (e:Int) (G:List Ob),floorF ps root key = (x,b,e)→Tid σ 0 R (.ret (.tup [eT x,.bool b,.int .i64 e])) (σ ++ G):=by
    intro x b e G h
    refine Tid.none (.low ?_) ?_
    · simp [eT,lk,low_int,low_bool,low_str,low_nils,low_nilp,low_nilf,low_nili,low_undef,low_skip,low_vec,low_agg,low_tup,low_fn,low_vptr,low_iface,low_ptr,low_sl,low_mp,low_it,low_yld,low_emp,lowEnv,lowObs,lowOb,tmpObs,isArr]
    · rw [hR]; exact ⟨by rw [h],rfl⟩
  refine OkE.ok (OkE.tidy (c:=0) (R:=R) ?_) (fun o O h=>by rw [hR] at h; exact h)
  have hlen:=treeF_len ps root
  obtain ⟨w,hw⟩:∃ w,w = (treeF ps root).1:=⟨_,rfl⟩
  obtain ⟨e,he⟩:∃ e,e = (treeF ps root).2:=⟨_,rfl⟩
  have hF:floorF ps root key = if e ≠ 0 then ((0,0),false,e) else if (if (bsF w.items key).2 then ((bsF w.items key).1:Int) else (bsF w.items key).1 - 1) < 0 then ((0,0),false,0) else ((w.items[((if (bsF w.items key).2 then ((bsF w.items key).1:Int) else (bsF w.items key).1 - 1)).toNat]?).getD (0,0),true,0):=by
    unfold floorF; rw [← he,← hw]
  rw [← hw] at hlen
  rw [← he,← hw] at h0
  rw [← he] at h1
  simp only [readObs,wW,wI] at h0
  obtain ⟨MM,hMM⟩:∃ MM,MM = wM w:=⟨_,rfl⟩
  obtain ⟨P,hPe⟩:∃ P,P = pgsD c ps:=⟨_,rfl⟩
  obtain ⟨IX,hIX⟩:∃ IX,IX = w.items.map eT:=⟨_,rfl⟩
  obtain ⟨N,hN⟩:∃ N,N = w.items.length:=⟨_,rfl⟩
  have hIXl:IX.length = N:=by rw [hIX,hN,List.length_map]
  simp only [← hMM,← hPe,← hIX,← hN] at h0 h1 ⊢
  rw [← hN] at hlen
  have hN64:N≤12884901888:=Nat.le_trans hlen (by decide)
  have hbd:buildDV L 27 [] = some (.agg [.int .u64 0,.int .u64 0]):=rfl
  refine OkE.of_body layOk Try.func10 rfl (by decide) (by simp [Try.ntmps10]) fun C hP hn hσ hfix hdd=>?_
  rw [show Try.f10.ntmps = 46 from rfl] at hn
  have hL:LayOk C.P L:=hP ▸ layOk
  have hm:C.P.follows .mixedOrders = true:=hP ▸ mixed
  by_cases hne:e ≠ 0
  · rw [if_pos hne] at hF
    have d1:(e != 0) = true:=by simpa using hne
    repeat (first|((first|refine sA hL hn rfl ?_|refine sB hL hn rfl ?_);simp only [go_sem,jf,jh,ji,ja,jb,reduceIte,jc,jg,jd,je,reduceCtorEq])|((first|refine sC ?_|refine sH ?_|refine sI ?_|refine sJ ?_);try simp only [jk,jl,jm,jn,if_true,if_false,jb])|refine sD ?_|refine sE ?_|refine sF rfl ?_|refine sG rfl ?_)
    refine sK hP hL hn rfl rfl (h1 hne _) rfl rfl rfl rfl ?_; simp (maxSteps:=2000000) only [go_sem,jf,jh,ji,ja,jb,reduceIte,jc,jg,jd,je,reduceCtorEq]
    repeat (first|((first|refine sA hL hn rfl ?_|refine sB hL hn rfl ?_);simp only [go_sem,jf,jh,ji,ja,jb,reduceIte,jc,jg,jd,je,reduceCtorEq,d1,hbd])|((first|refine sC ?_|refine sH ?_|refine sI ?_|refine sJ ?_);try simp only [jk,jl,jm,jn,if_true,if_false,jb])|refine sD ?_|refine sE ?_|refine sF rfl ?_|refine sG rfl ?_)
    refine ⟨_,_,?_,_,(.tup [.agg [.int .u64 0,.int .u64 0],.bool false,.int .i64 e]),_,Ghost.refl _ _,?_,GhostV.refl _ _ _,rfl⟩
    rotate_left
    show resDV L _ [Go.ResultVar.cell 6 27,Go.ResultVar.tmp 7,Go.ResultVar.tmp 8] = _
    simp only [resDV,resL,resDV1,go_sem,jf,jh,ji,ja,jb,reduceIte,jc,jg,jd,je,reduceCtorEq]
    exact fin (0,0) false e _ hF
  rw [if_neg hne] at hF
  have he0:e = 0:=by omega
  have d1:((0:Int) != 0) = false:=rfl
  obtain ⟨bi,hbi⟩:∃ bi,bi = bsF w.items key:=⟨_,rfl⟩
  have hbs:=bsOwn_ok w.items key (by omega)
  have hble:(bsF w.items key).1≤w.items.length:=bsGo_le _ _ _ _ _ (by omega) (by omega)
  have hbd2:(bsF w.items key).2 = true→(bsF w.items key).1 < w.items.length:=by
    intro h
    unfold bsF at h
    simp only [Bool.and_eq_true,decide_eq_true_eq] at h
    exact h.1
  rw [← hbi] at hF hbs hble hbd2
  obtain ⟨i,is⟩:=bi
  simp only at hF hbs hble hbd2
  rw [← hN] at hble hbd2
  simp only [← hN] at hbs
  simp only [← hIX] at hbs
  repeat (first|((first|refine sA hL hn rfl ?_|refine sB hL hn rfl ?_);simp only [go_sem,jf,jh,ji,ja,jb,reduceIte,jc,jg,jd,je,reduceCtorEq])|((first|refine sC ?_|refine sH ?_|refine sI ?_|refine sJ ?_);try simp only [jk,jl,jm,jn,if_true,if_false,jb])|refine sD ?_|refine sE ?_|refine sF rfl ?_|refine sG rfl ?_)
  refine sK hP hL hn rfl rfl (h0 he0 _) rfl rfl rfl rfl ?_; simp (maxSteps:=2000000) only [go_sem,jf,jh,ji,ja,jb,reduceIte,jc,jg,jd,je,reduceCtorEq]
  repeat (first|((first|refine sA hL hn rfl ?_|refine sB hL hn rfl ?_);simp only [go_sem,jf,jh,ji,ja,jb,reduceIte,jc,jg,jd,je,reduceCtorEq,d1])|((first|refine sC ?_|refine sH ?_|refine sI ?_|refine sJ ?_);try simp only [jk,jl,jm,jn,if_true,if_false,jb])|refine sD ?_|refine sE ?_|refine sF rfl ?_|refine sG rfl ?_)
  have e30:∀ k:Nat,k < N→IX[k]? = some (eT ((w.items[k]?).getD (0,0))):=fun k hk=>by
    rw [hN] at hk
    rw [hIX,List.getElem?_map,List.getElem?_eq_getElem hk]; rfl
  cases is
  · simp only [Bool.false_eq_true,if_false] at hF
    have w1:IntKind.i64.wrap ((i:Int) - 1) = (i:Int) - 1:=wi (by omega) rfl
    by_cases hz:(i:Int) - 1 < 0
    · rw [if_pos hz] at hF
      have d2:decide ((i:Int) - 1 < 0) = true:=decide_eq_true hz
      refine sK hP hL hn rfl rfl (hbs _ (σ.length+7) 27 (by rw [own_get]; rfl)) rfl rfl rfl rfl ?_; simp (maxSteps:=2000000) only [go_sem,jf,jh,ji,ja,jb,reduceIte,jc,jg,jd,je,reduceCtorEq]
      repeat (first|((first|refine sA hL hn rfl ?_|refine sB hL hn rfl ?_);simp only [go_sem,jf,jh,ji,ja,jb,reduceIte,jc,jg,jd,je,reduceCtorEq,w1,d2,hbd])|((first|refine sC ?_|refine sH ?_|refine sI ?_|refine sJ ?_);try simp only [jk,jl,jm,jn,if_true,if_false,jb])|refine sD ?_|refine sE ?_|refine sF rfl ?_|refine sG rfl ?_)
      refine ⟨_,_,?_,_,(.tup [.agg [.int .u64 0,.int .u64 0],.bool false,.int .i64 0]),_,Ghost.refl _ _,?_,GhostV.refl _ _ _,rfl⟩
      rotate_left
      show resDV L _ [Go.ResultVar.cell 6 27,Go.ResultVar.tmp 7,Go.ResultVar.tmp 8] = _
      simp only [resDV,resL,resDV1,go_sem,jf,jh,ji,ja,jb,reduceIte,jc,jg,jd,je,reduceCtorEq]
      exact fin (0,0) false 0 _ hF
    · rw [if_neg hz] at hF
      have d2:decide ((i:Int) - 1 < 0) = false:=decide_eq_false hz
      have e2:(0≤(i:Int) - 1∧(i:Int) - 1 < (N:Int)):=by omega
      have e3:=e30 ((i:Int) - 1).toNat (by omega)
      have e4:((i:Int) - 1).toNat+1≤N:=by omega
      obtain ⟨p,hp⟩:∃ p,p = (w.items[((i:Int) - 1).toNat]?).getD (0,0):=⟨_,rfl⟩
      rw [← hp] at e3 hF
      obtain ⟨p1,p2⟩:=p
      unfold eT at e3
      simp only at e3
      refine sK hP hL hn rfl rfl (hbs _ (σ.length+7) 27 (by rw [own_get]; rfl)) rfl rfl rfl rfl ?_; simp (maxSteps:=2000000) only [go_sem,jf,jh,ji,ja,jb,reduceIte,jc,jg,jd,je,reduceCtorEq]
      repeat (first|((first|refine sA hL hn rfl ?_|refine sB hL hn rfl ?_);simp only [go_sem,jf,jh,ji,ja,jb,reduceIte,jc,jg,jd,je,reduceCtorEq,w1,d2,hIXl,e2,e3,e4])|((first|refine sC ?_|refine sH ?_|refine sI ?_|refine sJ ?_);try simp only [jk,jl,jm,jn,if_true,if_false,jb])|refine sD ?_|refine sE ?_|refine sF rfl ?_|refine sG rfl ?_)
      refine ⟨_,_,?_,_,(.tup [.agg [.int .u64 p1,.int .u64 p2],.bool true,.int .i64 0]),_,Ghost.refl _ _,?_,GhostV.refl _ _ _,rfl⟩
      rotate_left
      show resDV L _ [Go.ResultVar.cell 6 27,Go.ResultVar.tmp 7,Go.ResultVar.tmp 8] = _
      simp only [resDV,resL,resDV1,go_sem,jf,jh,ji,ja,jb,reduceIte,jc,jg,jd,je,reduceCtorEq]
      exact fin (p1,p2) true 0 _ hF
  · simp only [if_true] at hF
    have hlt:=hbd2 rfl
    have hz:¬ (i:Int) < 0:=by omega
    rw [if_neg hz,Int.toNat_natCast] at hF
    have d2:decide ((i:Int) < 0) = false:=decide_eq_false hz
    have e2:(0≤(i:Int)∧(i:Int) < (N:Int)):=by omega
    have e3:=e30 i (by omega)
    have e4:i+1≤N:=by omega
    obtain ⟨p,hp⟩:∃ p,p = (w.items[i]?).getD (0,0):=⟨_,rfl⟩
    rw [← hp] at e3 hF
    obtain ⟨p1,p2⟩:=p
    unfold eT at e3
    simp only at e3
    refine sK hP hL hn rfl rfl (hbs _ (σ.length+7) 27 (by rw [own_get]; rfl)) rfl rfl rfl rfl ?_; simp (maxSteps:=2000000) only [go_sem,jf,jh,ji,ja,jb,reduceIte,jc,jg,jd,je,reduceCtorEq]
    repeat (first|((first|refine sA hL hn rfl ?_|refine sB hL hn rfl ?_);simp only [go_sem,jf,jh,ji,ja,jb,reduceIte,jc,jg,jd,je,reduceCtorEq,d2,hIXl,e2,e3,e4,Int.toNat_natCast])|((first|refine sC ?_|refine sH ?_|refine sI ?_|refine sJ ?_);try simp only [jk,jl,jm,jn,if_true,if_false,jb])|refine sD ?_|refine sE ?_|refine sF rfl ?_|refine sG rfl ?_)
    refine ⟨_,_,?_,_,(.tup [.agg [.int .u64 p1,.int .u64 p2],.bool true,.int .i64 0]),_,Ghost.refl _ _,?_,GhostV.refl _ _ _,rfl⟩
    rotate_left
    show resDV L _ [Go.ResultVar.cell 6 27,Go.ResultVar.tmp 7,Go.ResultVar.tmp 8] = _
    simp only [resDV,resL,resDV1,go_sem,jf,jh,ji,ja,jb,reduceIte,jc,jg,jd,je,reduceCtorEq]
    exact fin (p1,p2) true 0 _ hF
def getFT (ps:List Pg) (root key:Int):Int × Bool × Int :=
  let f:=floorF ps root key
  if f.2.1 = false∨f.1.1 ≠ key then (0,false,f.2.2) else (f.1.2,true,0)
theorem get8_ok (c:Nat) (ps:List Pg) (root key:Int) (σ:List Ob):Ok Try.prog 16 [.agg [pgsD c ps],.int .i64 root,.int .u64 key] σ (.ret (.tup [.int .u64 (getFT ps root key).1,.bool (getFT ps root key).2.1,.int .i64 (getFT ps root key).2.2])) σ:=by
  have hf:=floor_ok c ps root key
  have hl:=low_pgs 0 c ps
  unfold getFT
  obtain ⟨f,hfe⟩:∃ f,f = floorF ps root key:=⟨_,rfl⟩
  rw [← hfe] at hf ⊢
  obtain ⟨P,hPe⟩:∃ P,P = pgsD c ps:=⟨_,rfl⟩
  rw [← hPe] at hf hl ⊢
  obtain ⟨⟨p1,p2⟩,is,e⟩:=f
  unfold eT at hf
  simp only at hf ⊢
  refine Ok.thaw (c:=0) (O:=[.arr 29 1 [.agg [P]],.arr 27 2 [.agg [.int .u64 p1,.int .u64 p2]]]) ?_ (.low (by simp [lk,low_int,low_bool,low_str,low_nils,low_nilp,low_nilf,low_nili,low_undef,low_skip,low_vec,low_agg,low_tup,low_fn,low_vptr,low_iface,low_ptr,low_sl,low_mp,low_it,low_yld,low_emp,lowEnv,lowObs,lowOb,tmpObs,isArr])) (by simp [lk,low_int,low_bool,low_str,low_nils,low_nilp,low_nilf,low_nili,low_undef,low_skip,low_vec,low_agg,low_tup,low_fn,low_vptr,low_iface,low_ptr,low_sl,low_mp,low_it,low_yld,low_emp,lowEnv,lowObs,lowOb,tmpObs,isArr,hl]) σ
  refine Ok.of_body layOk Try.func16 rfl (by decide) (by simp [Try.ntmps16]) fun C hP hn hσ hfix hdd=>?_
  rw [show Try.f16.ntmps = 31 from rfl] at hn
  have hL:LayOk C.P L:=hP ▸ layOk
  have hm:C.P.follows .mixedOrders = true:=hP ▸ mixed
  cases is
  · rw [if_pos (.inl rfl)]
    repeat (first|((first|refine sA hL hn rfl ?_|refine sB hL hn rfl ?_);simp only [go_sem,jf,jh,ji,ja,jb,reduceIte,jc,jg,jd,je,reduceCtorEq])|((first|refine sC ?_|refine sH ?_|refine sI ?_|refine sJ ?_);try simp only [jk,jl,jm,jn,if_true,if_false,jb])|refine sD ?_|refine sE ?_|refine sF rfl ?_|refine sG rfl ?_)
    refine sK hP hL hn rfl rfl (hf _) rfl rfl rfl rfl ?_; simp (maxSteps:=2000000) only [go_sem,jf,jh,ji,ja,jb,reduceIte,jc,jg,jd,je,reduceCtorEq]
    repeat (first|((first|refine sA hL hn rfl ?_|refine sB hL hn rfl ?_);simp only [go_sem,jf,jh,ji,ja,jb,reduceIte,jc,jg,jd,je,reduceCtorEq])|((first|refine sC ?_|refine sH ?_|refine sI ?_|refine sJ ?_);try simp only [jk,jl,jm,jn,if_true,if_false,jb])|refine sD ?_|refine sE ?_|refine sF rfl ?_|refine sG rfl ?_)
    exact ⟨_,_,_,Ghost.refl _ _,rfl,GhostV.refl _ _ _,rfl⟩
  · by_cases hk:p1 = key
    · rw [if_neg (by simp [hk])]
      have d1:(p1 != key) = false:=by simpa using hk
      repeat (first|((first|refine sA hL hn rfl ?_|refine sB hL hn rfl ?_);simp only [go_sem,jf,jh,ji,ja,jb,reduceIte,jc,jg,jd,je,reduceCtorEq])|((first|refine sC ?_|refine sH ?_|refine sI ?_|refine sJ ?_);try simp only [jk,jl,jm,jn,if_true,if_false,jb])|refine sD ?_|refine sE ?_|refine sF rfl ?_|refine sG rfl ?_)
      refine sK hP hL hn rfl rfl (hf _) rfl rfl rfl rfl ?_; simp (maxSteps:=2000000) only [go_sem,jf,jh,ji,ja,jb,reduceIte,jc,jg,jd,je,reduceCtorEq]
      repeat (first|((first|refine sA hL hn rfl ?_|refine sB hL hn rfl ?_);simp only [go_sem,jf,jh,ji,ja,jb,reduceIte,jc,jg,jd,je,reduceCtorEq,d1])|((first|refine sC ?_|refine sH ?_|refine sI ?_|refine sJ ?_);try simp only [jk,jl,jm,jn,if_true,if_false,jb])|refine sD ?_|refine sE ?_|refine sF rfl ?_|refine sG rfl ?_)
      exact ⟨_,_,_,Ghost.refl _ _,rfl,GhostV.refl _ _ _,rfl⟩
    · rw [if_pos (.inr hk)]
      have d1:(p1 != key) = true:=by simpa using hk
      repeat (first|((first|refine sA hL hn rfl ?_|refine sB hL hn rfl ?_);simp only [go_sem,jf,jh,ji,ja,jb,reduceIte,jc,jg,jd,je,reduceCtorEq])|((first|refine sC ?_|refine sH ?_|refine sI ?_|refine sJ ?_);try simp only [jk,jl,jm,jn,if_true,if_false,jb])|refine sD ?_|refine sE ?_|refine sF rfl ?_|refine sG rfl ?_)
      refine sK hP hL hn rfl rfl (hf _) rfl rfl rfl rfl ?_; simp (maxSteps:=2000000) only [go_sem,jf,jh,ji,ja,jb,reduceIte,jc,jg,jd,je,reduceCtorEq]
      repeat (first|((first|refine sA hL hn rfl ?_|refine sB hL hn rfl ?_);simp only [go_sem,jf,jh,ji,ja,jb,reduceIte,jc,jg,jd,je,reduceCtorEq,d1])|((first|refine sC ?_|refine sH ?_|refine sI ?_|refine sJ ?_);try simp only [jk,jl,jm,jn,if_true,if_false,jb])|refine sD ?_|refine sE ?_|refine sF rfl ?_|refine sG rfl ?_)
      exact ⟨_,_,_,Ghost.refl _ _,rfl,GhostV.refl _ _ _,rfl⟩
end Go.VL
end
section
namespace Go.VL
open Go
theorem SW.scope {C:Ctx} (hrd:C.rd = none) {c:Code} {st:St} {K:XE→St→Prop} (h:SW C c st K):SW C (.scope c) st K:=by
  intro a w hr
  have hfe:C.fe = Fence.wide:=by
    show { Fence.wide with round:=C.rd } = Fence.wide
    rw [hrd]
    rfl
  have h1:=h a w hr
  rw [hfe] at h1 ⊢
  refine (wpIn_wide (n:=0)).2 (wp_scope_straight ?_)
  refine wp_mono ((wpIn_wide (n:=0)).1 h1) fun e' a' w' q=>?_
  cases e' with
  | goto l=>exact q.elim
  | outgrown=>exact q.elim
  | normal=>exact q
  | exit i=>exact q
  | ret=>exact q
  | panic ch=>exact q
theorem OkE.of_body2 {P:Program} {L:Lay} (hL:LayOk P L) {f:FuncId} {fn:Func} {c:Code} {args:List DV} {σ:List Ob} {Q:Out→List Ob→Prop} (hf:P.funcs[f]? = some fn) (hb:fn.body = some c)
    (hname : (fn.name == "runtime.NumGoroutine") = false) (hlen : args.length ≤ fn.ntmps)
    (h:∀ C:Ctx,C.P = P→C.n = fn.ntmps→C.rd = none→C.σ0 = σ→Fixed σ→C.dd = []→SW C c ⟨slots 0 args,σ⟩ fun e st=>∃ out σ',Q out σ'∧finK C L fn.results.toList out σ' e st):OkE P f args σ Q:=by
  refine ⟨fun vs w=>?_,fun w F μ vs hr hv=>?_⟩
  · have hn : ¬ fn.name = "runtime.NumGoroutine" := by simpa using hname
    simp [callFunc,program,Sem.run,hf,hn,hb]
  · let C:Ctx:=⟨P,fn.ntmps,none,[],w,F,μ,σ,hr.out⟩
    refine calls_of_wp hf hb (wp_mono ((wpIn_wide (n:=0)).1 (h C rfl rfl rfl rfl hr.fixed rfl _ w ⟨F,μ,hr,fun t=>?_,Step.refl ..,Fr.refl ..,fun _ _ h=>.inl h,?_,rfl⟩)) fun e a w' hq=>?_)
    · show Rep w F μ σ (lk (slots 0 args) t) _
      rw [lk_slots,if_pos (Nat.zero_le t),Nat.sub_zero]
      rcases Nat.lt_or_ge t args.length with ht | ht
      · rw [List.getElem?_eq_getElem ht,Option.getD_some]
        have ht':t < vs.length:=by rw [← hv.1]; exact ht
        have:((⟨vs⟩:Array Value) ++ Array.replicate (fn.ntmps - (⟨vs⟩:Array Value).size) undef).getD t undef = vs[t]:=by
          rw [Array.getD_eq_getD_getElem?,Array.getElem?_append_left (by simpa using ht')]
          simp [ht']
        rw [this]
        exact hv.2 t _ _ (List.getElem?_eq_getElem ht) (List.getElem?_eq_getElem ht')
      · rw [List.getElem?_eq_none ht]
        exact .undef
    · show ((⟨vs⟩:Array Value) ++ Array.replicate (fn.ntmps - (⟨vs⟩:Array Value).size) undef).size = fn.ntmps
      have:=hv.1
      simp; omega
    · have wk:∀ {F' μ' st},Rel0 C F' μ' st a w'→Rel0 C F' μ' ⟨[],st.ob⟩ a w':=fun h=>⟨h.hr,fun _=>.undef,h.step,h.fr,h.col,h.size,h.defers⟩
      have fin:∀ st,(∃ out σ',Q out σ'∧∃ st' d d',Ghost C st st'∧resDV L st' fn.results.toList = some d∧GhostV C d st'.ob d' σ'∧out = .ret d')→Rel C st a w' →
          a.defers = []∧∃ v,(results fn a.tmps).run P w' = .ok v w'∧∃ o σ',Q o σ'∧OutPost o σ' w F μ σ (.returned v) w':=by
        rintro st ⟨out,σ',hQ,st',d,d',g1,g3,g4,rfl⟩ hrel
        obtain ⟨F',μ',h'⟩:=g1 a w' hrel
        obtain ⟨v,r1,r2⟩:=run_results (C:=C) hL h' g3
        obtain ⟨F'',μ'',h'',r3⟩:=g4 a w' v F' μ' (wk h') r2
        exact ⟨h'.defers,v,r1,_,_,hQ,F'',μ'',v,⟨h''.hr,h''.step,h''.fr,h''.col⟩,rfl,r3⟩
      cases e with
      | normal=>obtain ⟨st,hk,hrel⟩:=hq; exact fin st hk hrel
      | ret=>obtain ⟨st,hk,hrel⟩:=hq; exact fin st hk hrel
      | exit i=>obtain ⟨st,⟨_,_,_,hk⟩,_⟩:=hq; exact hk.elim
      | goto l=>exact hq.elim
      | panic ch =>
        obtain ⟨st,d,v,F',μ',⟨out,σ',hQ,d',g4,rfl⟩,rfl,h',r2⟩:=hq
        obtain ⟨F'',μ'',h'',r3⟩:=g4 a w' v F' μ' (wk h') r2
        exact ⟨h'.defers,_,_,hQ,F'',μ'',v,⟨h''.hr,h''.step,h''.fr,h''.col⟩,rfl,r3⟩
      | outgrown=>exact hq.elim
end Go.VL
end
