/- Proved: TreeOwn: whatever tree, root and item come in (together of bulk at most 1048576), the call returns true and they read as they did; no other condition. This text is part 10 of 18. -/
import Derived.Test.YtghomgiklhbjiaaW09
set_option linter.unusedSimpArgs false
set_option linter.unusedVariables false
set_option maxRecDepth 10000
set_option maxHeartbeats 2000000
open List renaming all_eq_true → AS,append_assoc → AR,append_nil → AK,cons_append → Bq,drop_eq_getElem_cons → BW,drop_eq_nil_of_le → A9,getElem?_append_left → AJ,getElem?_eq_getElem → AI,getElem?_eq_none → BA,getElem?_eq_some_iff → AH,getElem?_set_ne → A6,getElem?_set_self → Ds,headD_cons → Cd,length_append → AP,length_cons → A5,length_drop → BP,length_map → AN,length_nil → Bj,length_set → Ci,map_append → B8,mem_append → BT,mem_map → Ba,mem_or_eq_of_mem_set → C9,mem_singleton → BX,nil_append → Be,set_append_right → Cg
open Nat renaming add_zero → Bt,le_refl → AU,le_trans → Bl,reduceLT → Bv,sub_self → B7,sub_zero → B6,zero_le → BD
open Option renaming getD_some → A8
open Int renaming toNat → Ce
open Array renaming empty_append → B3,replicate → BI
namespace Go.VL
open Go Go.Proofs
open Nat (reduceAdd reduceEqDiff reduceSub reduceMul reduceLeDiff)
def SWd (C:Ctx) (dd D:List DD) (c:Code) (st:St) (K:XE→St→Prop):Prop:=∀a w,Rel (C.at dd) st a w→c.wpIn C.fe 0 C.P (iM (C.at D) K) a w
theorem SWd.seq{C:Ctx}{dd d1 D:List DD}{x y:Code}{st s1:St}{K:XE→St→Prop} (h:aJ C x st dd .normal s1 d1) (h2:SWd C d1 D y s1 K):SWd C dd D (.seq x y) st K:=by
 intro a w hr
 refine wpIn_seq (wpIn_mono (h a w hr) fun e a w hq=>?_)
 cases e with
 |normal=>obtain⟨_,F,μ,hq⟩:=hq;exact h2 a w ⟨F,μ,hq⟩
 |exit i=>obtain⟨e,_⟩:=hq;cases e
 |goto l=>exact hq.elim
 |ret=>obtain⟨e,_⟩:=hq;cases e
 |panic ch=>obtain⟨d,v,F,μ,e,_⟩:=hq;cases e
 |outgrown=>exact hq.elim
theorem SWd.end{C:Ctx}{D:List DD}{c:Code}{st:St}{K:XE→St→Prop} (h:SW (C.at D) c st K):SWd C D D c st K:=h
def xy (σ':List Ob) (md':Md) (w:World) (F:Nat→Nat→Prop) (μ:Nat→Option Nat) (σ:List Ob) (e:Ending) (u':FrameMode) (w':World):Prop:=
 ∃v F' μ',e=.returned v∧After w F μ σ w' F' μ' σ'∧fX w' F' μ' σ' u' md'
structure DefOk (P:Program) (g:FuncId) (caps:List DV) (md:Md) (σ:List Ob) (md':Md) (σ':List Ob):Prop where
 enters:∀(vs:Array Value) (w:World),(callFunc g vs).run P w=.ok (.enter g vs) w
 calls:∀(w:World) (F:Nat→Nat→Prop) (μ:Nat→Option Nat) (vs:List Value) (u:FrameMode),HR w F μ σ→bF w F μ σ caps vs→fX w F μ σ u md→CallsD P g ⟨vs⟩ u w (xy σ' md' w F μ σ)
theorem dF{P:Program}{L:Lay} (hL:af P L){g:FuncId}{fn:Func}{c:Code} (hf:P.funcs[g]?=some fn) (hb:fn.body=some c) (hname:(fn.name== "runtime.NumGoroutine")=false){caps:List DV} (hlen:caps.length≤fn.ntmps){md md':Md}{σ:List Ob}{st':St}{stop:Bool}{d:DV}
  (h:∀C:Ctx,C.P=P→C.n=fn.ntmps→∀(c₀:Frame) (cs:List Frame) (a:Act) (w:World) (u:FrameMode),gv C md ⟨bL 0 caps,σ⟩ a w u→c.wpS P (tf C c₀ cs stop md' st') a ({c₀ with mode:=u}::cs) w)
  (hres:aF L st' fn.results.toList=some d):DefOk P g caps md σ md' st'.ob:=by
 refine⟨fun vs w=>?_,fun w F μ vs u hr hv hmd=>?_⟩
 ·have hn':¬ fn.name= "runtime.NumGoroutine" :=by simpa using hname
  simp[callFunc,program,Sem.run,hf,hn',hb]
 ·refine callsD_of_wpS hf hb fun c₀ cs hu=>?_
  subst hu
  have hst:gv ⟨P,fn.ntmps,none,[],w,F,μ,σ,hr.out⟩ md ⟨bL 0 caps,σ⟩ {tmps:=(⟨vs⟩:Array Value)++BI (fn.ntmps-(⟨vs⟩:Array Value).size) undef,defers:=[]} w c₀.mode:=
   ⟨F,μ,fK hr hv hlen,hmd⟩
  refine dH (h ⟨P,fn.ntmps,none,[],w,F,μ,σ,hr.out⟩ rfl rfl c₀ cs _ w c₀.mode hst) ?_
  rintro ex a1 cs1 w1 ⟨rfl,u1,rfl,F1,μ1,hr1,hmd1⟩
  obtain⟨v,r1,r2⟩:=bZ (C:=Ctx.at ⟨P,fn.ntmps,none,[],w,F,μ,σ,hr.out⟩ []) hL hr1 (fn:=fn) hres
  have hdef:a1.defers=[]:=hr1.defers
  cases stop with
  |false=>exact⟨hdef,u1,rfl,v,r1,v,F1,μ1,rfl,⟨hr1.hr,hr1.step,hr1.fr,hr1.col⟩,hmd1⟩
  |true=>exact⟨hdef,u1,rfl,v,r1,v,F1,μ1,rfl,⟨hr1.hr,hr1.step,hr1.fr,hr1.col⟩,hmd1⟩
def pM (P:Program) (L:Lay) (rs:List ResultVar) (g:FuncId) (caps:List DV) (Q:Out→List Ob→Prop) (e:XE) (st:St):Prop:=
 ∃md md' σ',xw e=some md∧DefOk P g caps md st.ob md' σ'∧((md'.settle=.ret∧∃d,aF L ⟨st.env,σ'⟩ rs=some d∧Q (.ret d) σ')∨∃d,md'.settle=.pan d∧Q (.pan d) σ')
def zm (Q:Out→List Ob→Prop) (w:World) (F:Nat→Nat→Prop) (μ:Nat→Option Nat) (σ:List Ob) (e:Ending) (w':World):Prop:=∃o σ',Q o σ'∧di o σ' w F μ σ e w'
theorem kI{P:Program}{L:Lay} (hL:af P L){C:Ctx} (hP:C.P=P){fn:Func}{g:FuncId}{caps:List DV}{Q:Out→List Ob→Prop}{st:St}{md md':Md}{σ':List Ob} (hd:DefOk P g caps md st.ob md' σ')
  (hq:(md'.settle=.ret∧∃d,aF L ⟨st.env,σ'⟩ fn.results.toList=some d∧Q (.ret d) σ')∨∃d,md'.settle=.pan d∧Q (.pan d) σ'){a:Act}{w:World}{u:FrameMode} (hl:LvS C [.fn g caps] st.env st.ob a w u md):
  Leaves P fn a.tmps (zm Q C.w0 C.F0 C.μ0 C.σ0) a.defers u w:=by
 obtain⟨F,μ,hr,hmd,hne⟩:=hl
 obtain⟨d,ds,e1,⟨vs,e2,e3⟩,e4⟩:=hr.defers
 rw[e1]
 have hu:u≠ .run:=by
  cases md with
  |ret=>rw[show u=.returning from hmd];simp
  |pan d=>obtain⟨v,e,_⟩:=hmd;rw[e];simp
  |rcv d=>exact absurd rfl (hne d)
 subst e3
 refine⟨hu,.func g,⟨vs⟩,g,⟨vs⟩,rfl,?_,fun c cs hcm=>?_⟩
 ·simp only[invoke,B3]
  exact hd.enters _ w
 ·obtain⟨e,u',w',fr,⟨v,F',μ',rfl,haf,hmd'⟩,q1,q2,q3⟩:=hd.calls w F μ vs u hr.hr e2 hmd c cs hcm
  refine⟨_,u',w',fr,?_,q1,q2,q3⟩
  have hds:ds=[]:=e4
  subst hds
  have hr':Rel0 (C.at []) F' μ' ⟨st.env,σ'⟩ {a with defers:=[]} w':=⟨haf.hr,fun t=>(hr.env t).step haf.step,hr.step.trans haf.step,hr.fr.trans haf.fr,fun c b hb=>(haf.col c b hb).elim (hr.col c b) (fun q=>.inr (Bl hr.fr.size q)),hr.size,rfl⟩
  have hmd2:=hmd'.settle
  show Leaves P fn a.tmps (zm Q C.w0 C.F0 C.μ0 C.σ0) [] (settle u') w'
  rcases hq with⟨hs,d,hres,hQ⟩|⟨d,hs,hQ⟩
  ·rw[hs] at hmd2
   rw[show settle u'=.returning from hmd2]
   obtain⟨v,r1,r2⟩:=bZ (C:=C.at []) (by rw[show(C.at []).P=P from hP];exact hL) hr' (fn:=fn) hres
   rw[show(C.at []).P=P from hP] at r1
   exact⟨v,r1,_,_,hQ,F',μ',v,⟨hr'.hr,hr'.step,hr'.fr,hr'.col⟩,rfl,r2⟩
  ·rw[hs] at hmd2
   obtain⟨v,e,hrep⟩:=hmd2
   rw[e]
   exact⟨_,_,hQ,F',μ',v,⟨hr'.hr,hr'.step,hr'.fr,hr'.col⟩,rfl,hrep⟩
theorem OkE.of_defer{P:Program}{L:Lay} (hL:af P L){f:FuncId}{fn:Func}{c:Code}{args:List DV}{σ:List Ob}{Q:Out→List Ob→Prop}{g:FuncId}{caps:List DV} (hf:P.funcs[f]?=some fn) (hb:fn.body=some c)
  (hname:(fn.name== "runtime.NumGoroutine")=false) (hlen:args.length≤fn.ntmps)
  (h:∀C:Ctx,C.P=P→C.n=fn.ntmps→C.rd=none→C.σ0=σ→gF σ→SWd C [] [.fn g caps] c ⟨bL 0 args,σ⟩ (pM P L fn.results.toList g caps Q)):OkE P f args σ Q:=by
 refine⟨fun vs w=>?_,fun w F μ vs hr hv=>?_⟩
 ·have hn:¬ fn.name= "runtime.NumGoroutine" :=by simpa using hname
  simp[callFunc,program,Sem.run,hf,hn,hb]
 ·let C:Ctx:=⟨P,fn.ntmps,none,[],w,F,μ,σ,hr.out⟩
  have hwp:=h C rfl rfl rfl rfl hr.fixed _ w ⟨F,μ,fK hr hv hlen⟩
  refine calls_of_wp_defers hf hb (wp_mono ((wpIn_wide (n:=0)).1 hwp) fun ex a w' hq=>?_)
  cases ex with
  |normal=>
   obtain⟨st,⟨md,md',σ',he,hd,hq⟩,F',μ',hr'⟩:=hq
   cases he
   exact kI (C:=C) hL rfl hd hq ⟨F',μ',hr',rfl,fun d h=>by cases h⟩
  |ret=>
   obtain⟨st,⟨md,md',σ',he,hd,hq⟩,F',μ',hr'⟩:=hq
   cases he
   exact kI (C:=C) hL rfl hd hq ⟨F',μ',hr',rfl,fun d h=>by cases h⟩
  |exit i=>obtain⟨st,⟨md,md',σ',he,_⟩,_⟩:=hq;cases he
  |panic ch=>
   obtain⟨st,d,v,F',μ',⟨md,md',σ',he,hd,hq⟩,rfl,h1,h2⟩:=hq
   cases he
   exact kI (C:=C) hL rfl hd hq ⟨F',μ',h1,⟨v,rfl,h2⟩,fun d h=>by cases h⟩
  |goto l=>exact hq.elim
  |outgrown=>exact hq.elim
theorem mc (e:Nat) (σ:List Ob):Ok Try.prog 36 [.nili,.ptr e 1 0 0] σ (.ret (.bool false)) σ:=by
 refine Ok.of_body ae Try.func36 rfl (by decide) (by simp[Try.ntmps36]) fun C hP hn hσ hfix hdd=>?_
 rw[show Try.f36.ntmps=17 from rfl] at hn
 have hL:af C.P L:=hP▸ae
 have hm:C.P.follows .mixedOrders=true:=hP▸ao
 repeat(first|(refine sB hL hn rfl ?_;simp only[go_sem,seval])|refine sN rfl ?_|refine sC ?_)
 exact⟨_,_,_,ai.refl _ _,rfl,ag.refl _ _ _,rfl⟩
theorem mf (n:Int) (e:Nat) (x:Int) (σ:List Ob) (he:σ[e]?=some (.arr 31 1 [.int .i64 x])):Ok Try.prog 36 [be n,.ptr e 1 0 0] σ (.ret (.bool true)) (σ.set e (.arr 31 1 [.int .i64 n])):=by
 unfold be
 refine Ok.of_body ae Try.func36 rfl (by decide) (by simp[Try.ntmps36]) fun C hP hn hσ hfix hdd=>?_
 rw[show Try.f36.ntmps=17 from rfl] at hn
 have hL:af C.P L:=hP▸ae
 have hm:C.P.follows .mixedOrders=true:=hP▸ao
 repeat(first|(refine sB hL hn rfl ?_;simp only[go_sem,seval,he])|refine sN rfl ?_|refine sC ?_)
 exact⟨_,_,_,ai.refl _ _,rfl,ag.refl _ _ _,rfl⟩
theorem sk (e wc:Nat) (σ:List Ob):DefOk Try.prog 45 [.ptr e 1 0 0,.ptr wc 1 0 0] .ret σ .ret σ:=by
 refine dF (stop:=false) (st':=⟨[],σ⟩) ae Try.func45 rfl (by decide) (by simp[Try.ntmps45]) (fun C hP hn c₀ cs a w u hr=>?_) rfl
 rw[show Try.f45.ntmps=4 from rfl] at hn
 refine wpS_seq (dH (wpS_region ?_) (Q:=tf C c₀ cs false .ret ⟨[(0,.ptr e 1 0 0),(1,.ptr wc 1 0 0),(2,.nili),(3,.bool false)],σ⟩) ?_)
 ·refine dK (o:=_) rfl rfl (by rw[hn];decide) rfl (fun a w u hr=>?_) hr
  refine gX (f:=36) (caps:=[]) (d:=.bool false) (ob':=σ) rfl rfl (by rw[hn];decide) rfl ?_ ?_ (fun a w u hr=>?_) hr
  ·rfl
  ·exact mc e σ
  exact⟨rfl,u,rfl,hr.weak (Weak.of_agree rfl ⟨rfl,rfl,rfl,rfl,trivial⟩)⟩
 ·rintro ex a1 cs1 w1 ⟨rfl,u1,rfl,hr1⟩
  have hv:a1.eval (.tmp 3)=.bool false:=by
   obtain⟨F,μ,h1,_⟩:=hr1
   have:=bb h1 (.tmp 3)
   generalize a1.eval (.tmp 3)=v at this
   cases this
   rfl
  refine wpS_cond hv ?_
  exact wpS_of_wp (wp_skip ⟨rfl,u1,rfl,hr1.weak (Weak.of_agree (l:=[]) rfl trivial)⟩)
theorem sm (n:Int) (e wc:Nat) (x:Int) (y:DV) (σ:List Ob) (he:σ[e]?=some (.arr 31 1 [.int .i64 x])) (hw:σ[wc]?=some (.arr 68 1 [y])) (hy:∀l,y≠ .agg l) (hne:e≠wc):
  DefOk Try.prog 45 [.ptr e 1 0 0,.ptr wc 1 0 0] (.pan (be n)) σ (.rcv (be n)) ((σ.set e (.arr 31 1 [.int .i64 n])).set wc (.arr 68 1 [.nilp])):=by
 obtain⟨σ1,hσ1⟩:∃σ1,σ1=σ.set e (.arr 31 1 [.int .i64 n]):=⟨_,rfl⟩
 obtain⟨σ2,hσ2⟩:∃σ2,σ2=σ1.set wc (.arr 68 1 [.nilp]):=⟨_,rfl⟩
 have hw1:σ1[wc]?=some (.arr 68 1 [y]):=by rw[hσ1,A6 hne];exact hw
 have htold:=mf n e x σ he
 rw[←hσ1] at htold⊢
 rw[←hσ2]
 refine dF (stop:=false) (st':=⟨[],σ2⟩) ae Try.func45 rfl (by decide) (by simp[Try.ntmps45]) (fun C hP hn c₀ cs a w u hr=>?_) rfl
 rw[show Try.f45.ntmps=4 from rfl] at hn
 refine wpS_seq (dH (wpS_region ?_) (Q:=tf C c₀ cs false (.rcv (be n)) ⟨[(0,.ptr e 1 0 0),(1,.ptr wc 1 0 0),(2,be n),(3,.bool true)],σ1⟩) ?_)
 ·refine dK (o:=_) rfl rfl (by rw[hn];decide) rfl (fun a w u hr=>?_) hr
  refine gX (f:=36) (caps:=[]) (d:=.bool true) (ob':=σ1) rfl rfl (by rw[hn];decide) rfl ?_ ?_ (fun a w u hr=>?_) hr
  ·rfl
  ·exact htold
  exact⟨rfl,u,rfl,hr.weak (Weak.of_agree rfl ⟨rfl,rfl,rfl,rfl,trivial⟩)⟩
 ·rintro ex a1 cs1 w1 ⟨rfl,u1,rfl,hr1⟩
  have hv:a1.eval (.tmp 3)=.bool true:=by
   obtain⟨F,μ,h1,_⟩:=hr1
   have:=bb h1 (.tmp 3)
   generalize a1.eval (.tmp 3)=v at this
   cases this
   rfl
  refine wpS_cond hv (wpS_region ?_)
  have hst:sop L ⟨[(0,.ptr e 1 0 0),(1,.ptr wc 1 0 0),(2,be n),(3,.bool true)],σ1⟩ (.store 68 (.tmp 1) (.const (.pointer none)))=some (.undef,σ2):=by
   rw[hσ2]
   simp only[go_sem,hw1,Bv,reduceCtorEq]
   cases y<;>first|rfl|exact absurd rfl (hy _)
  refine fN (P:=Try.prog) (o:=_) hP rfl rfl (by rw[hn];decide) (ar.of_sop ae hst) (fun a w u hr=>?_) hr1
  exact⟨rfl,u,rfl,hr.weak (Weak.of_agree (l:=[]) rfl trivial)⟩
def w0:WS:=⟨[],[],0⟩
def bT (ps:List Pg) (root:Int):WS×Int:=
 if 2048<ps.length then(w0,3) else if root=0 then(w0,0) else if(bX ps 16 root 1 none none w0).2=true then((bX ps 16 root 1 none none w0).1,0) else(w0,9)
def bJ (n c:Nat) (ps:List Pg) (w:WS) (Wc:DV) (e:Int):List Ob:=
 [.arr 29 1 [.agg [pgsD c ps]],.arr 68 1 [Wc],.arr 31 1 [.int .i64 e],wM w,wW c ps (n+3) (n+5) w,wI w]
theorem qp (c:Nat) (ps:List Pg) (root:Int) (σ:List Ob) (Q:Out→List Ob→Prop)
  (h0:(bT ps root).2=0→Q (.ret (.tup [.ptr (σ.length+4) 1 0 0,.int .i64 0])) (σ++bJ σ.length c ps (bT ps root).1 (.ptr (σ.length+4) 1 0 0) 0))
  (h1:(bT ps root).2≠0→∀G,Q (.ret (.tup [.nilp,.int .i64 (bT ps root).2])) (σ++G)):
  OkE Try.prog 29 [.agg [pgsD c ps],.int .i64 root] σ Q:=by
 obtain⟨X,hX⟩:∃X,X=ps.map ePg:=⟨_,rfl⟩
 have hXl:X.length=ps.length:=by rw[hX,AN]
 have hneed:=mP 3
 have hpan:=jZ 3
 unfold pgsD
 rw[←hX]
 obtain⟨n,hnl⟩:∃n,n=σ.length:=⟨_,rfl⟩
 refine OkE.of_defer (g:=45) (caps:=[.ptr (n+2) 1 0 0,.ptr (n+1) 1 0 0]) ae Try.func29 rfl (by decide) (by simp[Try.ntmps29]) fun C hP hn hrd hσ hfix=>?_
 rw[show Try.f29.ntmps=22 from rfl] at hn
 refine SWd.seq (s1:=⟨[(0,.agg [.vec c 1 X]),(1,.int .i64 root),(2,.ptr n 1 0 0),(4,.ptr (n+1) 1 0 0),(5,.ptr (n+2) 1 0 0)],σ++[.arr 29 1 [.agg [.vec c 1 X]],.arr 68 1 [.nilp],.arr 31 1 [.int .i64 0]]⟩) (d1:=[]) ?_ ?_
 ·skip
  refine aJ.part hP hn (fun d h=>by cases h) fun C hP hn=>?_
  have hL:af C.P L:=hP▸ae
  have hm:C.P.follows .mixedOrders=true:=hP▸ao
  repeat(first|(refine sB hL hn rfl ?_;simp only[go_sem,seval])|refine sN rfl ?_|refine sC ?_)
  exact⟨rfl,.of rfl (by simp[aC,lk,hnl])⟩
 refine SWd.seq (s1:=⟨[(0,.agg [.vec c 1 X]),(1,.int .i64 root),(2,.ptr n 1 0 0),(4,.ptr (n+1) 1 0 0),(5,.ptr (n+2) 1 0 0)],σ++[.arr 29 1 [.agg [.vec c 1 X]],.arr 68 1 [.nilp],.arr 31 1 [.int .i64 0]]⟩) (d1:=[.fn 45 [.ptr (n+2) 1 0 0,.ptr (n+1) 1 0 0]]) ?_ ?_
 ·refine aJ.region ?_
  refine bC.op rfl (by rw[hn];decide) (bK.op (hP▸ae) rfl) ?_
  refine bC.defer hrd rfl (by rw[hn];decide) rfl rfl rfl ?_
  rintro a w ⟨F,μ,h⟩
  exact⟨rfl,F,μ,h.weak (Weak.of_agree rfl ⟨rfl,rfl,rfl,rfl,rfl,trivial⟩)⟩
 refine SWd.end ?_
 obtain⟨C',hC'⟩:∃C',C'=C.at [.fn 45 [.ptr (n+2) 1 0 0,.ptr (n+1) 1 0 0]]:=⟨_,rfl⟩
 rw[←hC']
 replace hP:C'.P=Try.prog:=by rw[hC'];exact hP
 replace hn:C'.n=22:=by rw[hC'];exact hn
 clear hC' hσ hrd
 have hL:af C'.P L:=hP▸ae
 have hm:C'.P.follows .mixedOrders=true:=hP▸ao
 have bad:∀(env:List (Nat×DV)) (G:List Ob) (y:DV) (e:Int),lk env 4=.ptr (n+1) 1 0 0→lk env 5=.ptr (n+2) 1 0 0→G[1]?=some (.arr 68 1 [y])→G[2]?=some (.arr 31 1 [.int .i64 0])→(∀l,y≠ .agg l)→(bT ps root).2=e→e≠0→
   pM Try.prog L Try.f29.results.toList 45 [.ptr (n+2) 1 0 0,.ptr (n+1) 1 0 0] Q (.panic (be e)) ⟨env,σ++G⟩:=by
  intro env G y e h4 h5 g1 g2 hy he hne
  have k1:(σ++G)[n+1]?=some (.arr 68 1 [y]):=by rw[hnl,ak];exact g1
  have k2:(σ++G)[n+2]?=some (.arr 31 1 [.int .i64 0]):=by rw[hnl,ak];exact g2
  refine⟨_,_,_,rfl,sm e (n+2) (n+1) 0 y (σ++G) k2 k1 hy (by omega),.inl ⟨rfl,.tup [.nilp,.int .i64 e],?_,?_⟩⟩
  ·have l1:=(AH.1 k1).1
   have l2:=(AH.1 k2).1
   show aF L ⟨env,_⟩ [.cell 4 68,.cell 5 31]=_
   have j1:(((σ++G).set (n+2) (Ob.arr 31 1 [.int .i64 e])).set (n+1) (.arr 68 1 [.nilp]))[n+1]?=some (.arr 68 1 [.nilp]):=by
    rw[Ds (by simpa using l1)]
   have j2:(((σ++G).set (n+2) (Ob.arr 31 1 [.int .i64 e])).set (n+1) (.arr 68 1 [.nilp]))[n+2]?=some (.arr 31 1 [.int .i64 e]):=by
    rw[A6 (by omega),Ds l2]
   simp only[aF,cA,aV,h4,h5,go_sem,j1,j2]
  ·rw[hnl,ay,ay]
   have:=h1 (by rw[he];exact hne) ((G.set 2 (.arr 31 1 [.int .i64 e])).set 1 (.arr 68 1 [.nilp]))
   rw[he] at this
   exact this
 have good:∀(env:List (Nat×DV)) (w:WS),lk env 4=.ptr (n+1) 1 0 0→lk env 5=.ptr (n+2) 1 0 0→bT ps root=(w,0)→
   pM Try.prog L Try.f29.results.toList 45 [.ptr (n+2) 1 0 0,.ptr (n+1) 1 0 0] Q .ret ⟨env,σ++bJ n c ps w (.ptr (n+4) 1 0 0) 0⟩:=by
  intro env w h4 h5 he
  refine⟨_,_,_,rfl,sk (n+2) (n+1) _,.inl ⟨rfl,.tup [.ptr (n+4) 1 0 0,.int .i64 0],?_,?_⟩⟩
  ·show aF L ⟨env,_⟩ [.cell 4 68,.cell 5 31]=_
   have j1:(σ++bJ n c ps w (.ptr (n+4) 1 0 0) 0)[n+1]?=some (.arr 68 1 [.ptr (n+4) 1 0 0]):=by rw[hnl,ak];rfl
   have j2:(σ++bJ n c ps w (.ptr (n+4) 1 0 0) 0)[n+2]?=some (.arr 31 1 [.int .i64 0]):=by rw[hnl,ak];rfl
   simp only[aF,cA,aV,h4,h5,go_sem,j1,j2]
  ·rw[he] at h0
   have:=h0 rfl
   rw[←hnl] at this
   exact this
 by_cases hlen:2048<ps.length
 ·have d1:decide (((ps.length:Nat):Int)≤2048)=false:=decide_eq_false (by omega)
  have ht:(bT ps root).2=3:=by unfold bT;rw[if_pos hlen]
  rw[hnl]
  repeat(first|(refine sB hL hn rfl ?_;simp only[go_sem,seval,hXl,d1])|refine sN rfl ?_|refine sC ?_)
  refine aa.callp hP (by rw[hn];rfl) (hpan _) rfl rfl rfl rfl ?_;simp (maxSteps:=2000000) only[go_sem,seval]
  rw[←hnl]
  exact bad _ _ .nilp 3 rfl rfl rfl rfl (fun l h=>by cases h) ht (by decide)
 have d1:decide (((ps.length:Nat):Int)≤2048)=true:=decide_eq_true (by omega)
 have hbd:∀k:Nat,bf L 74 [(0,.agg [.vec c 1 X]),(1,.mp k)]=some (.agg [.vec c 1 X,.mp k,.nils,.int .i64 0]):=fun x=>rfl
 have hst:bJ n c ps w0 (.ptr (n+4) 1 0 0) 0=[.arr 29 1 [.agg [.vec c 1 X]],.arr 68 1 [.ptr (n+4) 1 0 0],.arr 31 1 [.int .i64 0],.oth (.map [] 0) [],.arr 74 4 [.agg [.vec c 1 X,.mp (n+3),.sl (n+5) 0 0 0,.int .i64 0]],.arr 27 2 []]:=by
  rw[hX];rfl
 obtain⟨r0,hr0'⟩:∃r0,r0=(root !=0):=⟨_,rfl⟩
 rw[hnl]
 repeat(first|(refine sB hL hn rfl ?_;simp only[go_sem,seval,hXl,d1])|refine sN rfl ?_|refine sC ?_)
 refine sK hP hL hn rfl rfl (hneed _) rfl rfl rfl rfl ?_;simp (maxSteps:=2000000) only[go_sem,seval]
 repeat(first|(refine sB hL hn rfl ?_;simp only[go_sem,seval,hbd,Cd,←hr0'])|refine sN rfl ?_|refine sC ?_)
 refine SW.ghost (ai.trans (ai.newNilIn (σ.length+4) 2 27 2 (t:=74) (k:=4) (cs:=[.vec c 1 X,.mp (σ.length+3),.nils,.int .i64 0]) (by rw[ak];rfl) rfl) (.of (l:=[(1,.int .i64 root),(4,.ptr (n+1) 1 0 0),(5,.ptr (n+2) 1 0 0),(17,.bool r0)]) (ob':=σ++bJ n c ps w0 (.ptr (n+4) 1 0 0) 0) ?_ ?_)) ?_
 ·rw[hst,hnl,ay,AR]
  simp
 ·simp[aC,lk,hnl]
 have gw:∀w,(σ++bJ n c ps w (.ptr (n+4) 1 0 0) 0)[n+1]?=some (.arr 68 1 [.ptr (n+4) 1 0 0]):=fun w=>by rw[hnl,ak];rfl
 have sw:∀w,(σ++bJ n c ps w (.ptr (n+4) 1 0 0) 0).set (n+1) (.arr 68 1 [.ptr (n+4) 1 0 0])=σ++bJ n c ps w (.ptr (n+4) 1 0 0) 0:=fun w=>by rw[hnl,ay];rfl
 have ge:∀w,(σ++bJ n c ps w (.ptr (n+4) 1 0 0) 0)[n+2]?=some (.arr 31 1 [.int .i64 0]):=fun w=>by rw[hnl,ak];rfl
 have se:∀w,(σ++bJ n c ps w (.ptr (n+4) 1 0 0) 0).set (n+2) (.arr 31 1 [.int .i64 0])=σ++bJ n c ps w (.ptr (n+4) 1 0 0) 0:=fun w=>by rw[hnl,ay];rfl
 by_cases hr0:root=0
 ·have ht:bT ps root=(w0,0):=by unfold bT;rw[if_neg hlen,if_pos hr0]
  have d2:r0=false:=by rw[hr0'];simpa using hr0
  rw[d2]
  repeat(first|(refine sB hL hn rfl ?_;simp only[go_sem,seval,gw,sw,ge,se,Cd])|refine sN rfl ?_|refine sC ?_)
  rw[←hnl]
  refine good _ _ ?_ ?_ ht<;>rfl
 have d2:r0=true:=by rw[hr0'];simpa using hr0
 have h3:Three (σ++bJ n c ps w0 (.ptr (n+4) 1 0 0) 0) (n+4) (n+3) (n+5):=by
  constructor<;>simp[bJ]<;>omega
 have hS:∀w,wS (σ++bJ n c ps w0 (.ptr (n+4) 1 0 0) 0) (n+4) (n+3) (n+5) c ps w=σ++bJ n c ps w (.ptr (n+4) 1 0 0) 0:=by
  intro w
  unfold wS s3
  rw[hnl,ay,ay,ay]
  rfl
 have hnode:=yg c ps (by omega) (n+4) (n+3) (n+5) 16 _ h3 root 1 none none w0 (by decide) (by decide) (by decide)
 rw[hS,hS] at hnode
 obtain⟨res,hres⟩:∃res,res=bX ps 16 root 1 none none w0:=⟨_,rfl⟩
 have htF:bT ps root=if res.2=true then(res.1,0) else(w0,9):=by unfold bT;rw[if_neg hlen,if_neg hr0,hres]
 rw[←hres] at hnode
 rw[d2]
 by_cases hb:res.2=true
 ·rw[if_pos hb] at hnode htF
  repeat(first|(refine sB hL hn rfl ?_;simp only[go_sem,seval,gw])|refine sN rfl ?_|refine sC ?_)
  refine sK hP hL hn rfl rfl (hnode) rfl rfl rfl rfl ?_;simp (maxSteps:=2000000) only[go_sem,seval]
  repeat(first|(refine sB hL hn rfl ?_;simp only[go_sem,seval,gw,sw,ge,se,Cd])|refine sN rfl ?_|refine sC ?_)
  rw[←hnl]
  refine good _ _ ?_ ?_ htF<;>rfl
 ·rw[if_neg hb] at hnode htF
  repeat(first|(refine sB hL hn rfl ?_;simp only[go_sem,seval,gw])|refine sN rfl ?_|refine sC ?_)
  refine aa.callp hP (by rw[hn];rfl) (hnode) rfl rfl rfl rfl ?_;simp (maxSteps:=2000000) only[go_sem,seval]
  rw[←hnl]
  refine bad _ (bJ n c ps res.1 (.ptr (n+4) 1 0 0) 0) (.ptr (n+4) 1 0 0) 9 ?_ ?_ rfl rfl (fun l h=>by cases h) (by rw[htF]) (by decide)<;>rfl
theorem uI (c:Nat) (ps:List Pg) (root:Int) (h:(bT ps root).2=0) (σ:List Ob):Ok Try.prog 29 [.agg [pgsD c ps],.int .i64 root] σ (.ret (.tup [.ptr (σ.length+4) 1 0 0,.int .i64 0])) (σ++bJ σ.length c ps (bT ps root).1 (.ptr (σ.length+4) 1 0 0) 0):=
 OkE.ok (qp c ps root σ (fun o O=>o=_∧O=_) (fun _=>⟨rfl,rfl⟩) (fun h'=>absurd h h')) fun o O h=>h
theorem sj (c:Nat) (ps:List Pg) (root:Int) (h:(bT ps root).2≠0) (σ:List Ob):Ok Try.prog 29 [.agg [pgsD c ps],.int .i64 root] σ (.ret (.tup [.nilp,.int .i64 (bT ps root).2])) σ:=by
 refine OkE.ok (OkE.tidy (c:=0) (R:=fun o O=>o=.ret (.tup [.nilp,.int .i64 (bT ps root).2])∧O=σ) (qp c ps root σ _ (fun h'=>absurd h' h) fun _ G=>?_)) fun o O h=>h
 exact Tid.none (.low (by simp[eh,wE,ax])) ⟨rfl,rfl⟩
theorem rA (c:Nat) (ps:List Pg) (root:Int) (σ:List Ob):Ok Try.prog 20 [.agg [pgsD c ps],.int .i64 root] σ (.ret (.int .i64 (bT ps root).2)) σ:=by
 have hl:=gn σ.length c ps
 refine OkE.ok (OkE.tidy (c:=0) (R:=fun o O=>o=.ret (.int .i64 (bT ps root).2)∧O=σ) ?_) fun o O h=>h
 have h0:=uI c ps root
 have h1:=sj c ps root
 obtain⟨e,he⟩:∃e,e=(bT ps root).2:=⟨_,rfl⟩
 obtain⟨P,hPe⟩:∃P,P=pgsD c ps:=⟨_,rfl⟩
 rw[←he] at h0 h1⊢
 rw[←hPe] at h0 h1⊢
 refine OkE.of_body ae Try.func20 rfl (by decide) (by simp[Try.ntmps20]) fun C hP hn hσ hfix hdd=>?_
 rw[show Try.f20.ntmps=14 from rfl] at hn
 have hL:af C.P L:=hP▸ae
 have hm:C.P.follows .mixedOrders=true:=hP▸ao
 by_cases h:e=0
 ·repeat(first|(refine sB hL hn rfl ?_;simp only[go_sem,seval])|refine sN rfl ?_|refine sC ?_)
  refine sK hP hL hn rfl rfl (h0 h _) rfl rfl rfl rfl ?_;simp (maxSteps:=2000000) only[go_sem,seval]
  repeat(first|(refine sB hL hn rfl ?_;simp only[go_sem,seval])|refine sN rfl ?_|refine sC ?_)
  refine⟨_,_,?_,_,(.int .i64 0),_,ai.refl _ _,?_,ag.refl _ _ _,rfl⟩
  rotate_left
  show aF L _ [Go.ResultVar.tmp 4]=_
  simp only[aF,cA,aV,go_sem,seval]
  exact Tid.none (.low ((ax _ _).2 trivial)) ⟨by rw[h],rfl⟩
 ·repeat(first|(refine sB hL hn rfl ?_;simp only[go_sem,seval])|refine sN rfl ?_|refine sC ?_)
  refine sK hP hL hn rfl rfl (h1 h _) rfl rfl rfl rfl ?_;simp (maxSteps:=2000000) only[go_sem,seval]
  repeat(first|(refine sB hL hn rfl ?_;simp only[go_sem,seval])|refine sN rfl ?_|refine sC ?_)
  refine⟨_,_,?_,_,(.int .i64 e),_,ai.refl _ _,?_,ag.refl _ _ _,rfl⟩
  rotate_left
  show aF L _ [Go.ResultVar.tmp 4]=_
  simp only[aF,cA,aV,go_sem,seval]
  exact Tid.none (.low ((ax _ _).2 trivial)) ⟨rfl,rfl⟩
theorem uk (c:Nat) (xs:List It) (key:Int) (hl:xs.length≤1048576) (σ:List Ob):Ok Try.prog 41 [.agg [.vec c 2 (xs.map eT),.nils],.int .u64 key] σ (.ret (.int .i64 (gG xs key))) σ:=
 Ok.lendF (c:=c+1) (vL c (c+1) xs [] key hl []) rfl (fun i x y hx hy=>by
  match i,hx,hy with
  |0,hx,hy=>
   cases hx;cases hy
   refine .agg rfl fun i x y hx hy=>?_
   match i,hx,hy with
   |0,hx,hy=>cases hx;cases hy;exact .low (iE _ c xs)
   |1,hx,hy=>cases hx;cases hy;exact .nil
   |i+2,hx,_=>simp at hx
  |1,hx,hy=>cases hx;cases hy;exact .int
  |i+2,hx,_=>simp at hx) .int
def cc (xs:List It) (key:Int):Int×Bool:=
 if 0<gG xs key∧((xs[gG xs key-1]?).getD (0,0)).1=key then(((gG xs key:Nat):Int)-1,true) else(((gG xs key:Nat):Int),false)
theorem nQ (c:Nat) (xs:List It) (key:Int) (hl:xs.length≤1048576) (σ:List Ob):Ok Try.prog 25 [.vec c 2 (xs.map eT),.int .u64 key] σ (.ret (.tup [.int .i64 (cc xs key).1,.bool (cc xs key).2])) σ:=by
 have hw:=uk c xs key hl
 have hle:=jK xs key
 obtain⟨X,hX⟩:∃X,X=xs.map eT:=⟨_,rfl⟩
 have hXl:X.length=xs.length:=by rw[hX,AN]
 rw[←hX] at hw
 rw[←hX]
 unfold cc
 obtain⟨i,hi⟩:∃i,i=gG xs key:=⟨_,rfl⟩
 rw[←hi] at hw hle⊢
 by_cases h0:0<i
 ·obtain⟨k,rfl⟩:∃k,i=k+1:=⟨i-1,by omega⟩
  have hlt:k<xs.length:=by omega
  have d1:decide (((k+1:Nat):Int)>0)=true:=decide_eq_true (by omega)
  have w1:IntKind.i64.wrap (((k+1:Nat):Int)-1)=(k:Int):=by rw[show((k+1:Nat):Int)-1=(k:Int) by omega];exact wi (by omega) (by omega)
  have e2:((k:Int)<((xs.length:Nat):Int))=True:=eq_true (by omega)
  have e0:(0≤(k:Int))=True:=eq_true (by omega)
  obtain⟨p,hp⟩:∃p,p=xs[k]'hlt:=⟨_,rfl⟩
  obtain⟨p1,p2⟩:=p
  have e3:X[k]?.getD .undef=.agg [.int .u64 p1,.int .u64 p2]:=by rw[hX];simp[hlt,eT,←hp]
  have hg:((xs[k+1-1]?).getD (0,0)).1=p1:=by simp[hlt,←hp]
  rw[hg]
  by_cases hk:p1=key
  ·have d2:(p1==key)=true:=by simp[hk]
   rw[if_pos ⟨h0,hk⟩,show(((k+1:Nat):Int)-1)=(k:Int) by omega]
   refine Ok.of_body ae Try.func25 rfl (by decide) (by simp[Try.ntmps25]) fun C hP hn hσ hfix hdd=>?_
   rw[show Try.f25.ntmps=26 from rfl] at hn
   have hL:af C.P L:=hP▸ae
   have hm:C.P.follows .mixedOrders=true:=hP▸ao
   repeat(first|(refine sB hL hn rfl ?_;simp only[go_sem,seval])|refine sN rfl ?_|refine sC ?_)
   refine sK hP hL hn rfl rfl (hw _) rfl rfl rfl rfl ?_;simp (maxSteps:=2000000) only[go_sem,seval]
   repeat(first|(refine sB hL hn rfl ?_;simp only[go_sem,seval,d1,w1,e0,e2,e3,d2,hXl,and_true])|refine sN rfl ?_|refine sC ?_)
   exact⟨_,_,_,ai.refl _ _,rfl,ag.refl _ _ _,rfl⟩
  ·have d2:(p1==key)=false:=by simp[hk]
   rw[if_neg (fun h=>hk h.2)]
   refine Ok.of_body ae Try.func25 rfl (by decide) (by simp[Try.ntmps25]) fun C hP hn hσ hfix hdd=>?_
   rw[show Try.f25.ntmps=26 from rfl] at hn
   have hL:af C.P L:=hP▸ae
   have hm:C.P.follows .mixedOrders=true:=hP▸ao
   repeat(first|(refine sB hL hn rfl ?_;simp only[go_sem,seval])|refine sN rfl ?_|refine sC ?_)
   refine sK hP hL hn rfl rfl (hw _) rfl rfl rfl rfl ?_;simp (maxSteps:=2000000) only[go_sem,seval]
   repeat(first|(refine sB hL hn rfl ?_;simp only[go_sem,seval,d1,w1,e0,e2,e3,d2,hXl,and_true])|refine sN rfl ?_|refine sC ?_)
   exact⟨_,_,_,ai.refl _ _,rfl,ag.refl _ _ _,rfl⟩
 ·obtain rfl:i=0:=by omega
  rw[if_neg (fun h=>h0 h.1)]
  have d1:decide (((0:Nat):Int)>0)=false:=rfl
  refine Ok.of_body ae Try.func25 rfl (by decide) (by simp[Try.ntmps25]) fun C hP hn hσ hfix hdd=>?_
  rw[show Try.f25.ntmps=26 from rfl] at hn
  have hL:af C.P L:=hP▸ae
  have hm:C.P.follows .mixedOrders=true:=hP▸ao
  repeat(first|(refine sB hL hn rfl ?_;simp only[go_sem,seval])|refine sN rfl ?_|refine sC ?_)
  refine sK hP hL hn rfl rfl (hw _) rfl rfl rfl rfl ?_;simp (maxSteps:=2000000) only[go_sem,seval]
  repeat(first|(refine sB hL hn rfl ?_;simp only[go_sem,seval])|refine sN rfl ?_|refine sC ?_)
  exact⟨_,_,_,ai.refl _ _,rfl,ag.refl _ _ _,rfl⟩
theorem oS (xs:List It) (key:Int) (hl:xs.length≤1048576) (σ:List Ob) (id t:Nat) (h:σ[id]?=some (.arr t 2 (xs.map eT))):Ok Try.prog 25 [.sl id xs.length 0 xs.length,.int .u64 key] σ (.ret (.tup [.int .i64 (cc xs key).1,.bool (cc xs key).2])) σ:=
 Ok.lendF (c:=1) (nQ 1 xs key hl []) rfl (fun i x y hx hy=>by
  match i,hx,hy with
  |0,hx,hy=>cases hx;cases hy;exact Fz.list eT (cD 0) h
  |1,hx,hy=>cases hx;cases hy;exact .int
  |i+2,hx,_=>simp at hx) (ki .int .bool)
theorem ud (ps:List Pg):((ps.map ePg).all fun y=>y.cells.all DV.one)=true:=by
 rw[AS]
 intro y hy
 obtain⟨x,_,rfl⟩:=Ba.1 hy
 rfl
theorem vd (c:Nat) (ps:List Pg) (h0:0<ps.length) (h1:ps.length≤1048576) (σ:List Ob):Ok Try.prog 49 [.vec c 1 (ps.map ePg)] σ (.ret (.sl σ.length ps.length 0 ps.length)) (σ++[.arr 67 1 (ps.map ePg)]):=by
 obtain⟨X,hX⟩:∃X,X=ps.map ePg:=⟨_,rfl⟩
 have hXl:X.length=ps.length:=by rw[hX,AN]
 have aX:=ud ps
 rw[←hX] at aX⊢
 simp only[DV.cells] at aX
 have hcap:X.length*24≤140737488355328:=by omega
 have n0:(X.length=0)=False:=eq_false (by omega)
 obtain⟨x,R,hXR⟩:∃x R,X=x::R:=by
  cases X with
  |nil=>simp at hXl;omega
  |cons x R=>exact⟨x,R,rfl⟩
 rw[hXR] at aX hcap n0 hXl⊢
 rw[A5] at hcap
 refine Ok.of_body ae Try.func49 rfl (by decide) (by simp[Try.ntmps49]) fun C hP hn hσ hfix hdd=>?_
 rw[show Try.f49.ntmps=8 from rfl] at hn
 have hL:af C.P L:=hP▸ae
 have hm:C.P.follows .mixedOrders=true:=hP▸ao
 repeat(first|(refine sB hL hn rfl ?_;simp only[go_sem,seval,aG,aX,hcap,List.size_toArray])|refine sN rfl ?_|refine sC ?_)
 rw[←hXl]
 exact⟨_,_,_,ai.refl _ _,rfl,ag.refl _ _ _,rfl⟩
def di53_1:List DI:=[⟨[0],[],false,[0],some 5,[]⟩,⟨[5],[0],false,[0],some 6,[0]⟩,⟨[6],[0,1],false,[0],some 7,[1]⟩,⟨[7],[0,1,2],false,[0],some 8,[2]⟩,⟨[0],[],false,[0],some 9,[]⟩,⟨[9],[4],false,[0],some 10,[4]⟩,⟨[10],[4,5],false,[0],some 11,[5]⟩,⟨[11],[4,5,6],false,[0],some 12,[6]⟩,⟨[12],rg 4 4,false,[0],some 13,[7]⟩,⟨[13],rg 4 5,false,[0],some 14,[8]⟩,⟨[8,14],rg 0 10,false,[0],some 15,[3,9]⟩,⟨[15],rg 0 11,false,[0],some 16,[10]⟩,⟨[0,16],rg 0 12,false,[0],some 17,[11]⟩,⟨[16,17],rg 0 13,false,[0],some 18,[12,11]⟩,⟨[16,18],rg 0 14,false,[0],some 19,[13,11]⟩,⟨[16,19],rg 0 15,false,[0],some 20,[14,11]⟩,⟨[16,20],rg 0 16,false,[0],some 21,[15,11]⟩,⟨[0,16],rg 0 12,false,[0],some 22,[11]⟩,⟨[16,22],(rg 0 12++[17]),false,[0],some 23,[17,11]⟩,⟨[16,23],(rg 0 12++[17,18]),false,[0],some 24,[18,11]⟩,⟨[16,24],(rg 0 12++[17,18,19]),false,[0],some 25,[19,11]⟩,⟨[16,21,25],rg 0 21,false,[0],some 26,[16,20,11]⟩,⟨[16,26],rg 0 22,false,[0],some 27,[21,11]⟩,⟨[16,27],rg 0 23,false,[0],some 28,[22,11]⟩,⟨[16,28],rg 0 24,false,[0],some 29,[23,11]⟩,⟨[16,29],rg 0 25,false,[0],some 30,[11,24]⟩]
def di53_3:List DI:=[⟨[0],[],false,[0],some 38,[]⟩,⟨[38],[0],false,[0],some 39,[0]⟩,⟨[39],[0,1],false,[0],some 40,[1]⟩,⟨[40],[0,1,2],false,[0],some 41,[2]⟩,⟨[0],[],false,[0],some 42,[]⟩,⟨[42],[4],false,[0],some 43,[4]⟩,⟨[43],[4,5],false,[0],some 44,[5]⟩,⟨[44],[4,5,6],false,[0],some 45,[6]⟩,⟨[45],rg 4 4,false,[0],some 46,[7]⟩,⟨[46],rg 4 5,false,[0],some 47,[8]⟩,⟨[41,47],rg 0 10,false,[0],some 48,[3,9]⟩]
def di53_6:List DI:=[⟨[0],[],false,[0],some 69,[]⟩,⟨[69],[0],false,[0],some 70,[0]⟩,⟨[70],[0,1],false,[0],some 71,[1]⟩,⟨[71],[0,1,2],false,[0],some 72,[2]⟩,⟨[72],rg 0 4,false,[0],some 73,[3]⟩,⟨[0],[],false,[0],some 74,[]⟩,⟨[74],[5],false,[0],some 75,[5]⟩,⟨[75],[5,6],false,[0],some 76,[6]⟩,⟨[76],[5,6,7],false,[0],some 77,[7]⟩,⟨[3],[],false,[0],some 78,[]⟩,⟨[78],[9],false,[0],some 79,[9]⟩,⟨[79],[9,10],false,[0],some 68,[10]⟩,⟨[68],[9,10,11],false,[0],some 80,[11]⟩,⟨[68],[9,10,11],false,[0,1],some 81,[11]⟩,⟨[73,77],rg 0 13,false,[0],some 82,([4,8]++rg 0 13)⟩,⟨[80,82],(rg 0 13++[14]),true,[],none,([14,12,10]++rg 0 13)⟩]
def br (ps:List Pg) (n:Nat):Nat:=n+((ps.drop n).takeWhile fun p=>decide (0<p.2.length)).length
theorem jo{ps:List Pg}{n:Nat}{p:Pg} (h:ps[n]?=some p) (h0:0<p.2.length):br ps (n+1)=br ps n:=by
 unfold br
 obtain⟨hl,e⟩:=AH.1 h
 rw[BW hl,e,List.takeWhile_cons,if_pos (by simpa using h0),A5]
 omega
theorem jq{ps:List Pg}{n:Nat}{p:Pg} (h:ps[n]?=some p) (h0:p.2.length=0):br ps n=n:=by
 unfold br
 obtain⟨hl,e⟩:=AH.1 h
 rw[BW hl,e,List.takeWhile_cons,if_neg (by simp[h0])]
 rfl
theorem ow{ps:List Pg}{n:Nat} (h:ps.length≤n):br ps n=n:=by
 unfold br
 rw[A9 h];rfl
theorem rf (ps:List Pg) (n:Nat) (h:n≤ps.length):br ps n≤ps.length:=by
 unfold br
 have:=(List.takeWhile_sublist (fun p:Pg=>decide (0<p.2.length)) (l:=ps.drop n)).length_le
 rw[BP] at this
 omega
def wrO (p:Nat) (ps:List Pg) (n:Nat):Ob:=.arr 85 2 [.agg [.sl p ps.length 0 ps.length,.int .i64 (n:Int)]]
def wrP (ps:List Pg):Ob:=.arr 67 1 (ps.map ePg)
def wrS (σ:List Ob) (a p:Nat) (ps:List Pg) (n:Nat):List Ob:=s2 σ a p (wrO p ps n) (wrP ps)
theorem jJ{σ:List Ob}{a p:Nat} (h2:Two σ a p) (ps ps':List Pg) (n n':Nat):er (wrS σ a p ps n) (wrS σ a p ps' n'):=by
 have hb:=h2.lb
 refine xX h2 (.inl ⟨_,_,_,rfl,?_⟩) (.inl ⟨_,_,_,rfl,?_⟩)
 ·simp[ax,aH,da,hb]
 ·intro x hx
  obtain⟨y,_,rfl⟩:=Ba.1 hx
  exact aW _ y.1 y.2
def dl (ps:List Pg) (n:Nat) (body:List UInt8):List Pg:=if br ps n=ps.length then ps++[(0,body)] else ps.set (br ps n) (0,body)
theorem yc (nx nk:DV) (body:List UInt8) (e:Int) (σ:List Ob) (a p:Nat) (h2:Two σ a p) (hnx:Low σ.length nx) (hnk:Low σ.length nk) (henc:∀x y l,Ok Try.prog 63 [.agg [nx,nk]] (s2 σ a p x y++l) (.ret (.tup [.vec 0 1 (body.map eB),.int .i64 e])) (s2 σ a p x y++l)) (ps:List Pg) (n:Nat) (hn0:n≤ps.length) (hps:ps.length≤2048)
  (hroom:br ps n<2048):
  Ok Try.prog 53 [.ptr a 1 0 0,.agg [nx,nk]] (wrS σ a p ps n) (.ret (.int .i64 ((br ps n+1:Nat):Int))) (wrS σ a p (dl ps n body) (br ps n)):=by
 have ga:=fun x y l=>vY h2 x y l
 have gb:=fun x y l=>xZ h2 x y l
 have gA:=fun x y z l=>oT h2 x y z l
 have gB:=fun x y z l=>tD h2 x y z l
 have hn9:=fun x y l=>rZ (a:=a) (b:=p) (σ:=σ) rfl x y l
 obtain⟨X,hX⟩:∃X,X=ps.map ePg:=⟨_,rfl⟩
 have hXl:X.length=ps.length:=by rw[hX,AN]
 refine OkE.ok (OkE.tidy (c:=0) (R:=fun o O=>o=.ret (.int .i64 ((br ps n+1:Nat):Int))∧O=wrS σ a p (dl ps n body) (br ps n)) ?_) (fun o O h=>h)
 obtain⟨SL,hSL⟩:∃SL,SL=σ.length:=⟨_,rfl⟩
 have sl:=fun x y=>bq (σ:=σ) (a:=a) (b:=p) x y
 unfold wrS wrO wrP
 rw[←hX]
 refine OkE.of_body ae Try.func53 rfl (by decide) (by simp[Try.ntmps53]) fun C hP hn hσ hfix hdd=>?_
 rw[show Try.f53.ntmps=88 from rfl] at hn
 have hL:af C.P L:=hP▸ae
 have hm:C.P.follows .mixedOrders=true:=hP▸ao
 repeat(first|(refine sB hL hn rfl ?_;simp only[go_sem,seval,sl])|refine sN rfl ?_|refine sC ?_)
 refine SW.lpg (fun k:Nat=>⟨[(0,.ptr a 1 0 0),(3,.ptr σ.length 1 0 0)],s2 σ a p (.arr 85 2 [.agg [.sl p ps.length 0 ps.length,.int .i64 (k:Int)]]) (.arr 67 1 X)++[.arr 95 2 [.agg [nx,nk]]]⟩) (fun k=>ps.length-k) (fun k=>n≤k∧k≤ps.length∧br ps k=br ps n) n ⟨AU _,hn0,rfl⟩ (.of rfl (by simp[aC,lk])) ?_
 rintro k ⟨k1,k2,k3⟩
 repeat(first|(refine sB hL hn rfl ?_;simp only[go_sem,seval,ga,gb,gA,gB,hXl])|refine sN rfl ?_|refine sC ?_)
 obtain⟨M,hM⟩:∃M,M=s2 σ a p (.arr 85 2 [.agg [.sl p ps.length 0 ps.length,.int .i64 (k:Int)]]) (.arr 67 1 X)++[.arr 95 2 [.agg [nx,nk]]]:=⟨_,rfl⟩
 have ma:M[a]?=some (.arr 85 2 [.agg [.sl p ps.length 0 ps.length,.int .i64 (k:Int)]]):=by rw[hM];exact ga _ _ _
 have mb:M[p]?=some (.arr 67 1 X):=by rw[hM];exact gb _ _ _
 rw[←hM]
 by_cases hlt:k<ps.length
 ·obtain⟨q,hq⟩:∃q,q=ps[k]'hlt:=⟨_,rfl⟩
  obtain⟨q1,q2⟩:=q
  have hq':ps[k]?=some (q1,q2):=by rw[hq];exact AI hlt
  have e3:X[k]?=some (.vec q1 1 (q2.map eB)):=by rw[hX];simp[hlt,ePg,←hq]
  have d1:decide ((k:Int)<((ps.length:Nat):Int))=true:=decide_eq_true (by omega)
  have e0:(0≤(k:Int))=True:=eq_true (by omega)
  have e2:((k:Int)<((ps.length:Nat):Int))=True:=eq_true (by omega)
  by_cases hf:0<q2.length
  ·have d2:decide (((q2.length:Nat):Int)>0)=true:=decide_eq_true (by omega)
   refine(?_:SW C _ _ _);first|refine sL hL hm hn di53_1 [M] rfl rfl rfl ?_|refine sM hL hm hn di53_1 [M] rfl rfl rfl ?_
   unfold di53_1
   repeat(rw[ah];simp (maxSteps:=2000000) only[go_sem,seval,ma,mb,hXl,d2,e0,e2,e3,AN])
   try rw[aj]
   try simp only[go_sem,seval]
   have w1:IntKind.i64.wrap ((k:Int)+1)=((k+1:Nat):Int):=wi (by omega) (by omega)
   have mA:∀z,M.set a z=s2 σ a p z (.arr 67 1 X)++[.arr 95 2 [.agg [nx,nk]]]:=fun z=>by rw[hM];exact gA _ _ _ _
   repeat(first|(refine sB hL hn rfl ?_;simp only[go_sem,seval,ma,mA,w1])|refine sN rfl ?_|refine sC ?_)
   exact Lp.nextg (k+1) ⟨by omega,by omega,by rw[jo hq' hf];exact k3⟩ (by omega) (.of rfl (by simp[aC,lk]))
  ·have d2:decide (((q2.length:Nat):Int)>0)=false:=decide_eq_false (by omega)
   have hk:br ps n=k:=by rw[←k3];exact jq hq' (by show q2.length=0;omega)
   refine(?_:SW C _ _ _);first|refine sL hL hm hn di53_1 [M] rfl rfl rfl ?_|refine sM hL hm hn di53_1 [M] rfl rfl rfl ?_
   unfold di53_1
   repeat(rw[ah];simp (maxSteps:=2000000) only[go_sem,seval,ma,mb,hXl,d2,e0,e2,e3,AN])
   try rw[aj]
   try simp only[go_sem,seval]
   repeat(first|(refine sB hL hn rfl ?_;simp only[go_sem,seval])|refine sN rfl ?_|refine sC ?_)
   refine SW.keep [(0,.ptr a 1 0 0),(3,.ptr σ.length 1 0 0)] ⟨rfl,rfl,trivial⟩ ?_
   have d3:(((k:Nat):Int)==((ps.length:Nat):Int))=false:=by simp;omega
   refine(?_:SW C _ _ _);first|refine sL hL hm hn di53_3 [M] rfl rfl rfl ?_|refine sM hL hm hn di53_3 [M] rfl rfl rfl ?_
   unfold di53_3
   repeat(rw[ah];simp (maxSteps:=2000000) only[go_sem,seval,ma,d3])
   try rw[aj]
   try simp only[go_sem,seval]
   repeat(first|(refine sB hL hn rfl ?_;simp only[go_sem,seval])|refine sN rfl ?_|refine sC ?_)
   obtain⟨M',hM'⟩:∃M',M'=s2 σ a p (.arr 85 2 [.agg [.sl p ps.length 0 ps.length,.int .i64 (k:Int)]]) (.arr 67 1 (X.set k (.vec 0 1 (body.map eB))))++[.arr 95 2 [.agg [nx,nk]]]:=⟨_,rfl⟩
   have mp:∀z,M.set p z=s2 σ a p (.arr 85 2 [.agg [.sl p ps.length 0 ps.length,.int .i64 (k:Int)]]) z++[.arr 95 2 [.agg [nx,nk]]]:=fun z=>by rw[hM];exact gB _ _ _ _
   have mn:M[σ.length]?=some (.arr 95 2 [.agg [nx,nk]]):=by rw[hM];exact oU rfl _ _ _
   refine SW.keep [(0,.ptr a 1 0 0),(3,.ptr σ.length 1 0 0)] ⟨rfl,rfl,trivial⟩ ?_
   have hencM:Ok Try.prog 63 [.agg [nx,nk]] M (.ret (.tup [.vec 0 1 (body.map eB),.int .i64 e])) M:=by rw[hM];exact henc _ _ _
   have hencN:Ok Try.prog 63 [.agg [nx,nk]] M' (.ret (.tup [.vec 0 1 (body.map eB),.int .i64 e])) M':=by rw[hM'];exact henc _ _ _
   refine(?_:SW C _ _ _);first|refine sL hL hm hn di53_6 [M,M'] rfl rfl rfl ?_|refine sM hL hm hn di53_6 [M,M'] rfl rfl rfl ?_
   unfold di53_6
   repeat(rw[ah];simp (maxSteps:=2000000) only[go_sem,seval,ma,mn])
   try rw[aj]
   try simp only[go_sem,seval,ma,mb,mn,hXl]
   refine aI.pure hP (fun q hq=>(by obtain rfl:q=0:=(by simpa using hq);exact hencM)) rfl rfl rfl rfl ?_;repeat(simp (maxSteps:=2000000) only[go_sem,seval,mb,mp,hXl,e0,e2,e3,AU,Cd,←hM'];first|rw[ah]|rw[aj])
   try simp only[go_sem,seval]
   have ma':M'[a]?=some (.arr 85 2 [.agg [.sl p ps.length 0 ps.length,.int .i64 (k:Int)]]):=by rw[hM'];exact ga _ _ _
   have w1:IntKind.i64.wrap ((k:Int)+1)=((k+1:Nat):Int):=wi (by omega) (by omega)
   repeat(first|(refine sB hL hn rfl ?_;simp only[go_sem,seval,ma',w1])|refine sN rfl ?_|refine sC ?_)
   refine⟨_,_,?_,_,(.int .i64 ((k+1:Nat):Int)),_,ai.refl _ _,?_,ag.refl _ _ _,rfl⟩
   rotate_left
   show aF L _ [Go.ResultVar.tmp 4]=_
   simp only[aF,cA,aV,go_sem,seval]
   have hpg:dl ps n body=ps.set k (0,body):=by unfold dl;rw[hk,if_neg (by omega)]
   have hset:X.set k (.vec 0 1 (body.map eB))=(dl ps n body).map ePg:=by rw[hpg,hX,List.map_set];rfl
   have hlen:(dl ps n body).length=ps.length:=by rw[hpg,Ci]
   have hG:s2 σ a p (.arr 85 2 [.agg [.sl p ps.length 0 ps.length,.int .i64 (k:Int)]]) (.arr 67 1 (X.set k (.vec 0 1 (body.map eB))))=wrS σ a p (dl ps n body) k:=by unfold wrS wrO wrP;rw[hlen,hset]
   have hS:s2 σ a p (.arr 85 2 [.agg [.sl p ps.length 0 ps.length,.int .i64 (n:Int)]]) (.arr 67 1 X)=wrS σ a p ps n:=by unfold wrS wrO wrP;rw[hX]
   rw[hM',hG,hS]
   exact Tid.ret (jJ h2 _ _ _ _) (.low ((ax _ _).2 trivial)) ⟨by rw[hk],by rw[hk];rfl⟩
 ·obtain rfl:k=ps.length:=by omega
  have hk:br ps n=ps.length:=by rw[←k3];exact ow (AU _)
  have d1:decide (((ps.length:Nat):Int)<((ps.length:Nat):Int))=false:=decide_eq_false (by omega)
  have d3:(((ps.length:Nat):Int)==((ps.length:Nat):Int))=true:=by simp
  have d4:decide (((ps.length:Nat):Int)<2048)=true:=decide_eq_true (by omega)
  refine(?_:SW C _ _ _);first|refine sL hL hm hn di53_1 [M] rfl rfl rfl ?_|refine sM hL hm hn di53_1 [M] rfl rfl rfl ?_
  unfold di53_1
  repeat(rw[ah];simp (maxSteps:=2000000) only[go_sem,seval,ma,d1])
  try rw[aj]
  try simp only[go_sem,seval]
  repeat(first|(refine sB hL hn rfl ?_;simp only[go_sem,seval])|refine sN rfl ?_|refine sC ?_)
  refine SW.keep [(0,.ptr a 1 0 0),(3,.ptr σ.length 1 0 0)] ⟨rfl,rfl,trivial⟩ ?_
  refine(?_:SW C _ _ _);first|refine sL hL hm hn di53_3 [M] rfl rfl rfl ?_|refine sM hL hm hn di53_3 [M] rfl rfl rfl ?_
  unfold di53_3
  repeat(rw[ah];simp (maxSteps:=2000000) only[go_sem,seval,ma,d3])
  try rw[aj]
  try simp only[go_sem,seval]
  repeat(first|(refine sB hL hn rfl ?_;simp only[go_sem,seval,ma,d4])|refine sN rfl ?_|refine sC ?_)
  refine sK hP hL hn rfl rfl (mP _ _) rfl rfl rfl rfl ?_;simp (maxSteps:=2000000) only[go_sem,seval]
  subst hM
  have aX:(X.all fun y=>y.cells.all DV.one)=true:=by rw[hX];exact ud ps
  simp only[DV.cells] at aX
  have hcap:((ps.length+1)*24≤140737488355328)=True:=eq_true (by omega)
  repeat(first|(refine sB hL hn rfl ?_;simp only[go_sem,seval,ga,gb,gA,gB,hXl,aG,hcap,sl,hn9])|refine sN rfl ?_|refine sC ?_)
  refine SW.keep [(0,.ptr a 1 0 0),(3,.ptr σ.length 1 0 0)] ⟨rfl,rfl,trivial⟩ ?_
  obtain⟨Y,hY⟩:∃Y,Y=X++[.nils]:=⟨_,rfl⟩
  have hYl:Y.length=ps.length+1:=by rw[hY,AP,hXl];rfl
  have e3:Y[ps.length]?=some .nils:=by rw[hY,←hXl];simp
  rw[←hY]
  obtain⟨M,hM⟩:∃M,M=s2 σ a p (.arr 85 2 [.agg [.sl p (ps.length+1) 0 (ps.length+1),.int .i64 ((ps.length:Nat):Int)]]) (.arr 67 1 Y)++[.arr 95 2 [.agg [nx,nk]],.arr 67 1 [.nils]]:=⟨_,rfl⟩
  have ma:M[a]?=some (.arr 85 2 [.agg [.sl p (ps.length+1) 0 (ps.length+1),.int .i64 ((ps.length:Nat):Int)]]):=by rw[hM];exact ga _ _ _
  have mb:M[p]?=some (.arr 67 1 Y):=by rw[hM];exact gb _ _ _
  have mp:∀z,M.set p z=s2 σ a p (.arr 85 2 [.agg [.sl p (ps.length+1) 0 (ps.length+1),.int .i64 ((ps.length:Nat):Int)]]) z++[.arr 95 2 [.agg [nx,nk]],.arr 67 1 [.nils]]:=fun z=>by rw[hM];exact gB _ _ _ _
  have mn:M[σ.length]?=some (.arr 95 2 [.agg [nx,nk]]):=by rw[hM];exact oU rfl _ _ _
  rw[←hM]
  obtain⟨M',hM'⟩:∃M',M'=s2 σ a p (.arr 85 2 [.agg [.sl p (ps.length+1) 0 (ps.length+1),.int .i64 ((ps.length:Nat):Int)]]) (.arr 67 1 (Y.set ps.length (.vec 0 1 (body.map eB))))++[.arr 95 2 [.agg [nx,nk]],.arr 67 1 [.nils]]:=⟨_,rfl⟩
  have hencM:Ok Try.prog 63 [.agg [nx,nk]] M (.ret (.tup [.vec 0 1 (body.map eB),.int .i64 e])) M:=by rw[hM];exact henc _ _ _
  have e0:(0≤((ps.length:Nat):Int))=True:=eq_true (by omega)
  have e2:(((ps.length:Nat):Int)<((ps.length+1:Nat):Int))=True:=eq_true (by omega)
  refine(?_:SW C _ _ _);first|refine sL hL hm hn di53_6 [M,M'] rfl rfl rfl ?_|refine sM hL hm hn di53_6 [M,M'] rfl rfl rfl ?_
  unfold di53_6
  repeat(rw[ah];simp (maxSteps:=2000000) only[go_sem,seval,ma,mn])
  try rw[aj]
  try simp only[go_sem,seval,ma,mb,mn,hYl]
  refine aI.pure hP (fun q hq=>(by obtain rfl:q=0:=(by simpa using hq);exact hencM)) rfl rfl rfl rfl ?_;repeat(simp (maxSteps:=2000000) only[go_sem,seval,mb,mp,hYl,e0,e2,e3,AU,Cd,←hM'];first|rw[ah]|rw[aj])
  try simp only[go_sem,seval]
  have ma':M'[a]?=some (.arr 85 2 [.agg [.sl p (ps.length+1) 0 (ps.length+1),.int .i64 ((ps.length:Nat):Int)]]):=by rw[hM'];exact ga _ _ _
  have w1:IntKind.i64.wrap (((ps.length:Nat):Int)+1)=((ps.length+1:Nat):Int):=wi (by omega) (by omega)
  repeat(first|(refine sB hL hn rfl ?_;simp only[go_sem,seval,ma',w1])|refine sN rfl ?_|refine sC ?_)
  refine⟨_,_,?_,_,(.int .i64 ((ps.length+1:Nat):Int)),_,ai.refl _ _,?_,ag.refl _ _ _,rfl⟩
  rotate_left
  show aF L _ [Go.ResultVar.tmp 4]=_
  simp only[aF,cA,aV,go_sem,seval]
  have hpg:dl ps n body=ps++[(0,body)]:=by unfold dl;rw[if_pos hk]
  have hset:Y.set ps.length (.vec 0 1 (body.map eB))=(dl ps n body).map ePg:=by
   rw[hpg,hY,←hXl,Cg _ _ (AU _),B7,B8,hX];rfl
  have hlen:(dl ps n body).length=ps.length+1:=by rw[hpg,AP];rfl
  have hG:s2 σ a p (.arr 85 2 [.agg [.sl p (ps.length+1) 0 (ps.length+1),.int .i64 ((ps.length:Nat):Int)]]) (.arr 67 1 (Y.set ps.length (.vec 0 1 (body.map eB))))=wrS σ a p (dl ps n body) ps.length:=by unfold wrS wrO wrP;rw[hlen,hset]
  have hS:s2 σ a p (.arr 85 2 [.agg [.sl p ps.length 0 ps.length,.int .i64 (n:Int)]]) (.arr 67 1 X)=wrS σ a p ps n:=by unfold wrS wrO wrP;rw[hX]
  rw[hM',hG,hS]
  exact Tid.ret (jJ h2 _ _ _ _) (.low ((ax _ _).2 trivial)) ⟨by rw[hk],by rw[hk];rfl⟩
theorem wt (nx nk:DV) (σ:List Ob) (a p:Nat) (h2:Two σ a p) (hnx:Low σ.length nx) (hnk:Low σ.length nk) (ps:List Pg) (n:Nat) (hn0:n≤ps.length) (hps:ps.length≤2048) (hroom:¬ br ps n<2048):
  Ok Try.prog 53 [.ptr a 1 0 0,.agg [nx,nk]] (wrS σ a p ps n) (.pan (be 51)) (wrS σ a p ps (br ps n)):=by
 have hfl:=rf ps n hn0
 have hfe:br ps n=ps.length:=by omega
 have ga:=fun x y l=>vY h2 x y l
 have gb:=fun x y l=>xZ h2 x y l
 have gA:=fun x y z l=>oT h2 x y z l
 obtain⟨X,hX⟩:∃X,X=ps.map ePg:=⟨_,rfl⟩
 have hXl:X.length=ps.length:=by rw[hX,AN]
 have hpan:=jZ 51
 refine OkE.ok (OkE.tidy (c:=0) (R:=fun o O=>o=.pan (be 51)∧O=wrS σ a p ps (br ps n)) ?_) (fun o O h=>h)
 have sl:=fun x y=>bq (σ:=σ) (a:=a) (b:=p) x y
 unfold wrS wrO wrP
 rw[←hX]
 refine OkE.of_body ae Try.func53 rfl (by decide) (by simp[Try.ntmps53]) fun C hP hn hσ hfix hdd=>?_
 rw[show Try.f53.ntmps=88 from rfl] at hn
 have hL:af C.P L:=hP▸ae
 have hm:C.P.follows .mixedOrders=true:=hP▸ao
 repeat(first|(refine sB hL hn rfl ?_;simp only[go_sem,seval,sl])|refine sN rfl ?_|refine sC ?_)
 refine SW.lpg (fun k:Nat=>⟨[(0,.ptr a 1 0 0),(3,.ptr σ.length 1 0 0)],s2 σ a p (.arr 85 2 [.agg [.sl p ps.length 0 ps.length,.int .i64 (k:Int)]]) (.arr 67 1 X)++[.arr 95 2 [.agg [nx,nk]]]⟩) (fun k=>ps.length-k) (fun k=>n≤k∧k≤ps.length∧br ps k=br ps n) n ⟨AU _,hn0,rfl⟩ (.of rfl (by simp[aC,lk])) ?_
 rintro k ⟨k1,k2,k3⟩
 repeat(first|(refine sB hL hn rfl ?_;simp only[go_sem,seval,ga,gb,gA,hXl])|refine sN rfl ?_|refine sC ?_)
 obtain⟨M,hM⟩:∃M,M=s2 σ a p (.arr 85 2 [.agg [.sl p ps.length 0 ps.length,.int .i64 (k:Int)]]) (.arr 67 1 X)++[.arr 95 2 [.agg [nx,nk]]]:=⟨_,rfl⟩
 have ma:M[a]?=some (.arr 85 2 [.agg [.sl p ps.length 0 ps.length,.int .i64 (k:Int)]]):=by rw[hM];exact ga _ _ _
 have mb:M[p]?=some (.arr 67 1 X):=by rw[hM];exact gb _ _ _
 rw[←hM]
 by_cases hlt:k<ps.length
 ·obtain⟨q,hq⟩:∃q,q=ps[k]'hlt:=⟨_,rfl⟩
  obtain⟨q1,q2⟩:=q
  have hq':ps[k]?=some (q1,q2):=by rw[hq];exact AI hlt
  have e3:X[k]?=some (.vec q1 1 (q2.map eB)):=by rw[hX];simp[hlt,ePg,←hq]
  have d1:decide ((k:Int)<((ps.length:Nat):Int))=true:=decide_eq_true (by omega)
  have e0:(0≤(k:Int))=True:=eq_true (by omega)
  have e2:((k:Int)<((ps.length:Nat):Int))=True:=eq_true (by omega)
  have hf:0<q2.length:=by
   apply Classical.byContradiction
   intro hf
   have:=jq hq' (by show q2.length=0;omega)
   omega
  have d2:decide (((q2.length:Nat):Int)>0)=true:=decide_eq_true (by omega)
  refine(?_:SW C _ _ _);first|refine sL hL hm hn di53_1 [M] rfl rfl rfl ?_|refine sM hL hm hn di53_1 [M] rfl rfl rfl ?_
  unfold di53_1
  repeat(rw[ah];simp (maxSteps:=2000000) only[go_sem,seval,ma,mb,hXl,d2,e0,e2,e3,AN])
  try rw[aj]
  try simp only[go_sem,seval]
  have w1:IntKind.i64.wrap ((k:Int)+1)=((k+1:Nat):Int):=wi (by omega) (by omega)
  have mA:∀z,M.set a z=s2 σ a p z (.arr 67 1 X)++[.arr 95 2 [.agg [nx,nk]]]:=fun z=>by rw[hM];exact gA _ _ _ _
  repeat(first|(refine sB hL hn rfl ?_;simp only[go_sem,seval,ma,mA,w1])|refine sN rfl ?_|refine sC ?_)
  exact Lp.nextg (k+1) ⟨by omega,by omega,by rw[jo hq' hf];exact k3⟩ (by omega) (.of rfl (by simp[aC,lk]))
 ·obtain rfl:k=ps.length:=by omega
  have d1:decide (((ps.length:Nat):Int)<((ps.length:Nat):Int))=false:=decide_eq_false (by omega)
  have d3:(((ps.length:Nat):Int)==((ps.length:Nat):Int))=true:=by simp
  have d4:decide (((ps.length:Nat):Int)<2048)=false:=decide_eq_false (by omega)
  refine(?_:SW C _ _ _);first|refine sL hL hm hn di53_1 [M] rfl rfl rfl ?_|refine sM hL hm hn di53_1 [M] rfl rfl rfl ?_
  unfold di53_1
  repeat(rw[ah];simp (maxSteps:=2000000) only[go_sem,seval,ma,d1])
  try rw[aj]
  try simp only[go_sem,seval]
  repeat(first|(refine sB hL hn rfl ?_;simp only[go_sem,seval])|refine sN rfl ?_|refine sC ?_)
  refine SW.keep [(0,.ptr a 1 0 0),(3,.ptr σ.length 1 0 0)] ⟨rfl,rfl,trivial⟩ ?_
  refine(?_:SW C _ _ _);first|refine sL hL hm hn di53_3 [M] rfl rfl rfl ?_|refine sM hL hm hn di53_3 [M] rfl rfl rfl ?_
  unfold di53_3
  repeat(rw[ah];simp (maxSteps:=2000000) only[go_sem,seval,ma,d3])
  try rw[aj]
  try simp only[go_sem,seval]
  repeat(first|(refine sB hL hn rfl ?_;simp only[go_sem,seval,ma,d4])|refine sN rfl ?_|refine sC ?_)
  refine aa.callp hP (by rw[hn];rfl) (hpan _) rfl rfl rfl rfl ?_;simp (maxSteps:=2000000) only[go_sem,seval]
  have hS:s2 σ a p (.arr 85 2 [.agg [.sl p ps.length 0 ps.length,.int .i64 (n:Int)]]) (.arr 67 1 X)=wrS σ a p ps n:=by unfold wrS wrO wrP;rw[hX]
  have hG:s2 σ a p (.arr 85 2 [.agg [.sl p ps.length 0 ps.length,.int .i64 ((ps.length:Nat):Int)]]) (.arr 67 1 X)=wrS σ a p ps ps.length:=by unfold wrS wrO wrP;rw[hX]
  rw[hS,hM,hG]
  refine⟨_,_,Tid.pan (jJ h2 _ _ _ _) (.low ?_) ⟨rfl,by rw[hfe,hX];rfl⟩,_,ag.refl _ _ _,rfl⟩
  simp[be,dz,ax]
structure Wr where
 ps:List Pg
 n:Nat
def Wr.ok (w:Wr):Prop:=w.n≤w.ps.length∧w.ps.length≤2048∧∀p∈w.ps,p.1=0
def cP (w:Wr) (body:List UInt8):Option (Nat×Wr):=if br w.ps w.n<2048 then some (br w.ps w.n+1,⟨dl w.ps w.n body,br w.ps w.n⟩) else none
theorem jX (ps:List Pg) (n:Nat) (body:List UInt8):(dl ps n body).length=if br ps n=ps.length then ps.length+1 else ps.length:=by
 unfold dl
 split<;>simp
theorem qx{w w':Wr}{body:List UInt8}{k:Nat} (h:w.ok) (hw:cP w body=some (k,w')):w'.ok:=by
 unfold cP at hw
 split at hw<;>cases hw
 have:=rf w.ps w.n h.1
 have h2:=h.2.1
 refine⟨?_,?_,fun p hp=>?_⟩
 ·simp only[jX]
  split<;>omega
 ·simp only[jX]
  split<;>omega
 ·simp only[dl] at hp
  split at hp
  ·rcases BT.1 hp with hp|hp
   ·exact h.2.2 p hp
   ·rw[BX.1 hp]
  ·rcases C9 hp with hp|hp
   ·exact h.2.2 p hp
   ·rw[hp]
def wS2 (σ:List Ob) (a p:Nat) (w:Wr):List Ob:=wrS σ a p w.ps w.n
theorem cO{σ:List Ob}{a p:Nat} (h2:Two σ a p) (w w':Wr):er (wS2 σ a p w) (wS2 σ a p w'):=jJ h2 _ _ _ _
theorem qy{nx nk:DV}{body:List UInt8}{e:Int}{σ:List Ob}{a p:Nat} (h2:Two σ a p) (hnx:Low σ.length nx) (hnk:Low σ.length nk) (henc:∀x y l,Ok Try.prog 63 [.agg [nx,nk]] (s2 σ a p x y++l) (.ret (.tup [.vec 0 1 (body.map eB),.int .i64 e])) (s2 σ a p x y++l)){w w':Wr}{k:Nat} (hw:w.ok) (h:cP w body=some (k,w')):
  Ok Try.prog 53 [.ptr a 1 0 0,.agg [nx,nk]] (wS2 σ a p w) (.ret (.int .i64 (k:Int))) (wS2 σ a p w'):=by
 unfold cP at h
 split at h<;>cases h
 exact yc nx nk body e σ a p h2 hnx hnk henc w.ps w.n hw.1 hw.2.1 (by assumption)
theorem n6{nx nk:DV}{body:List UInt8}{σ:List Ob}{a p:Nat} (h2:Two σ a p) (hnx:Low σ.length nx) (hnk:Low σ.length nk){w:Wr} (hw:w.ok) (h:cP w body=none):
  ∃w',Ok Try.prog 53 [.ptr a 1 0 0,.agg [nx,nk]] (wS2 σ a p w) (.pan (be 51)) (wS2 σ a p w'):=by
 unfold cP at h
 split at h
 ·cases h
 exact⟨⟨w.ps,br w.ps w.n⟩,wt nx nk σ a p h2 hnx hnk w.ps w.n hw.1 hw.2.1 (by assumption)⟩
inductive Grp (m:Nat):Nat→Nat→List (Nat×Nat)→Prop
 |nil (o:Nat):Grp m o 0 []
 |cons{o l:Nat}{gs:List (Nat×Nat)} (n:Nat) (h0:0<l) (hn:n=if l=m+1 then m-1 else min m l) (hr:Grp m (o+n) (l-n) gs):Grp m o l ((o,n)::gs)
theorem oy {α}{l:List α}{i:Nat}{x:α}{r:List α} (h:l.drop i=x::r):l[i]?=some x∧l.drop (i+1)=r∧i<l.length:=by
 have hi:i<l.length:=by
  apply Classical.byContradiction
  intro hi
  rw[A9 (by omega)] at h
  cases h
 rw[BW hi] at h
 cases h
 exact⟨AI hi,rfl,hi⟩
theorem ov (y m id N o0 l0:Nat) (XX:List DV) (gs:List (Nat×Nat)) (hm3:3≤m) (hm4:m≤4) (hl:l0≤1048576) (hN0:o0+l0≤N) (hG:Grp m o0 l0 gs) (S:Nat→List Ob) (j:Nat) (hj:j≤gs.length) (out:Out) (σ':List Ob) (hid:∀i,i≤j→(S i)[id]?=some (.arr 27 2 XX)) (hXX:XX.length=N)
  (hr:∀i o n,i<j→gs[i]?=some (o,n)→cU Try.prog (.yld y) [.sl id N o n] (S i) (.ret (.bool true)) (S (i+1)))
  (he:(j=gs.length∧out=.ret (.tup [])∧σ'=S j)∨(∃o n d,gs[j]?=some (o,n)∧out=.pan d∧cU Try.prog (.yld y) [.sl id N o n] (S j) (.pan d) σ')):
  Ok Try.prog 52 [.sl id N o0 l0,.int .i64 (m:Int),.yld y] (S 0) out σ':=by
 refine Ok.of_body ae Try.func52 rfl (by decide) (by simp[Try.ntmps52]) fun C hP hn hσ hfix hdd=>?_
 rw[show Try.f52.ntmps=30 from rfl] at hn
 have hL:af C.P L:=hP▸ae
 have hm:C.P.follows .mixedOrders=true:=hP▸ao
 refine SW.block ?_
 refine SW.lpg (fun x:Nat×Nat×Nat=>⟨[(0,.sl id N x.2.1 x.2.2),(1,.int .i64 (m:Int)),(2,.yld y)],S x.1⟩) (fun x=>x.2.2) (fun x=>x.1≤j∧x.2.2≤1048576∧x.2.1+x.2.2≤N∧Grp m x.2.1 x.2.2 (gs.drop x.1)) (0,o0,l0) ⟨BD _,hl,hN0,by simpa using hG⟩ (.of rfl ⟨rfl,rfl,rfl,trivial⟩) ?_
 rintro⟨i,o,l⟩ ⟨hi,hyl,hN,hg⟩
 simp only at hi hyl hN hg⊢
 have s0:=hid i hi
 obtain⟨gr,hgr⟩:∃gr,gr=gs.drop i:=⟨_,rfl⟩
 rw[←hgr] at hg
 cases hg with
 |nil=>
  have hig:gs.length≤i:=List.drop_eq_nil_iff.1 hgr.symm
  obtain rfl:i=j:=by omega
  rcases he with⟨h1,rfl,rfl⟩|⟨o',n',d,h1,_⟩
  ·repeat(first|(refine sB hL hn rfl ?_;simp only[go_sem,seval])|refine sN rfl ?_|refine sC ?_)
   exact⟨_,_,_,ai.refl _ _,rfl,ag.refl _ _ _,rfl⟩
  ·rw[BA hig] at h1;cases h1
 | @cons _ _ gr' n h0 hq hr'=>
  obtain⟨g1,g2,g3⟩:=oy hgr.symm
  have e1:decide (((l:Nat):Int)>0)=true:=decide_eq_true (by omega)
  have w1:IntKind.i64.wrap ((m:Int)+1)=((m+1:Nat):Int):=wi (by omega) (by omega)
  have w2:IntKind.i64.wrap ((m:Int)-1)=((m-1:Nat):Int):=wi (by omega) (by omega)
  have m1:mn (m:Int) ((l:Nat):Int)=((min m l:Nat):Int):=by unfold mn;split<;>omega
  have hnl:n≤l:=by rw[hq];split<;>omega
  have hn0:0<n:=by rw[hq];split<;>omega
  have b1:au (some (.int .i64 (n:Int))) l l=some n:=az hnl
  have b2:au none 0 n=some 0:=rfl
  have b3:au none l l=some l:=rfl
  have b4:au (some (.int .i64 (n:Int))) 0 l=some n:=az hnl
  have t1:∀x:Nat,x+0=x:=Bt
  have t2:∀x:Nat,x-0=x:=B6
  by_cases hLe:l=m+1
  ·rw[if_pos hLe] at hq
   have e2:(((l:Nat):Int)==((m+1:Nat):Int))=true:=by rw[hLe];simp
   rw[←hq] at w2
   repeat(first|(refine sB hL hn rfl ?_;simp only[go_sem,seval,e1,w1,w2,m1,e2,aw,s0,hXX,b1,b2,t1,t2])|refine sN rfl ?_|refine sC ?_)
   by_cases hlt:i<j
   ·have s1':=hid (i+1) (by omega)
    refine aa.yield hP (by rw[hn];rfl) (hr i _ _ hlt g1) rfl rfl rfl rfl ?_;refine aa.go hL (by rw[hn];rfl) ?_;simp (maxSteps:=2000000) only[go_sem,seval]
    repeat(first|(refine sB hL hn rfl ?_;simp only[go_sem,seval,aw,s1',hXX,b3,b4])|refine sN rfl ?_|refine sC ?_)
    exact Lp.nextg (i+1,o+n,l-n) ⟨by simp only;omega,by simp only;omega,by simp only;omega,by simp only;rw[g2];exact hr'⟩ (by simp only;omega) (.of rfl ⟨rfl,rfl,rfl,trivial⟩)
   ·obtain rfl:i=j:=by omega
    rcases he with⟨h1,_⟩|⟨o',n',d,h1,rfl,h2⟩
    ·omega
    ·rw[g1] at h1;cases h1
     refine aa.yieldp hP h2 rfl rfl rfl rfl ?_
     exact⟨_,ag.refl _ _ _,rfl⟩
  ·rw[if_neg hLe] at hq
   have e2:(((l:Nat):Int)==((m+1:Nat):Int))=false:=beq_eq_false_iff_ne.2 (by omega)
   rw[←hq] at m1
   repeat(first|(refine sB hL hn rfl ?_;simp only[go_sem,seval,e1,w1,m1,e2,aw,s0,hXX,b1,b2,t1,t2])|refine sN rfl ?_|refine sC ?_)
   by_cases hlt:i<j
   ·have s1':=hid (i+1) (by omega)
    refine aa.yield hP (by rw[hn];rfl) (hr i _ _ hlt g1) rfl rfl rfl rfl ?_;refine aa.go hL (by rw[hn];rfl) ?_;simp (maxSteps:=2000000) only[go_sem,seval]
    repeat(first|(refine sB hL hn rfl ?_;simp only[go_sem,seval,aw,s1',hXX,b3,b4])|refine sN rfl ?_|refine sC ?_)
    exact Lp.nextg (i+1,o+n,l-n) ⟨by simp only;omega,by simp only;omega,by simp only;omega,by simp only;rw[g2];exact hr'⟩ (by simp only;omega) (.of rfl ⟨rfl,rfl,rfl,trivial⟩)
   ·obtain rfl:i=j:=by omega
    rcases he with⟨h1,_⟩|⟨o',n',d,h1,rfl,h2⟩
    ·omega
    ·rw[g1] at h1;cases h1
     refine aa.yieldp hP h2 rfl rfl rfl rfl ?_
     exact⟨_,ag.refl _ _ _,rfl⟩
theorem ou (y m id N o0 l0:Nat) (XX:List DV) (gs:List (Nat×Nat)) (hm3:3≤m) (hm4:m≤4) (hl:l0≤1048576) (hN0:o0+l0≤N) (hG:Grp m o0 l0 gs) (S:Nat→List Ob) (j:Nat) (hj:j≤gs.length) (out:Out) (σ':List Ob) (hid:∀i,i≤j→(S i)[id]?=some (.arr 91 2 XX)) (hXX:XX.length=N)
  (hr:∀i o n,i<j→gs[i]?=some (o,n)→cU Try.prog (.yld y) [.sl id N o n] (S i) (.ret (.bool true)) (S (i+1)))
  (he:(j=gs.length∧out=.ret (.tup [])∧σ'=S j)∨(∃o n d,gs[j]?=some (o,n)∧out=.pan d∧cU Try.prog (.yld y) [.sl id N o n] (S j) (.pan d) σ')):
  Ok Try.prog 59 [.sl id N o0 l0,.int .i64 (m:Int),.yld y] (S 0) out σ':=by
 refine Ok.of_body ae Try.func59 rfl (by decide) (by simp[Try.ntmps59]) fun C hP hn hσ hfix hdd=>?_
 rw[show Try.f59.ntmps=30 from rfl] at hn
 have hL:af C.P L:=hP▸ae
 have hm:C.P.follows .mixedOrders=true:=hP▸ao
 refine SW.block ?_
 refine SW.lpg (fun x:Nat×Nat×Nat=>⟨[(0,.sl id N x.2.1 x.2.2),(1,.int .i64 (m:Int)),(2,.yld y)],S x.1⟩) (fun x=>x.2.2) (fun x=>x.1≤j∧x.2.2≤1048576∧x.2.1+x.2.2≤N∧Grp m x.2.1 x.2.2 (gs.drop x.1)) (0,o0,l0) ⟨BD _,hl,hN0,by simpa using hG⟩ (.of rfl ⟨rfl,rfl,rfl,trivial⟩) ?_
 rintro⟨i,o,l⟩ ⟨hi,hyl,hN,hg⟩
 simp only at hi hyl hN hg⊢
 have s0:=hid i hi
 obtain⟨gr,hgr⟩:∃gr,gr=gs.drop i:=⟨_,rfl⟩
 rw[←hgr] at hg
 cases hg with
 |nil=>
  have hig:gs.length≤i:=List.drop_eq_nil_iff.1 hgr.symm
  obtain rfl:i=j:=by omega
  rcases he with⟨h1,rfl,rfl⟩|⟨o',n',d,h1,_⟩
  ·repeat(first|(refine sB hL hn rfl ?_;simp only[go_sem,seval])|refine sN rfl ?_|refine sC ?_)
   exact⟨_,_,_,ai.refl _ _,rfl,ag.refl _ _ _,rfl⟩
  ·rw[BA hig] at h1;cases h1
 | @cons _ _ gr' n h0 hq hr'=>
  obtain⟨g1,g2,g3⟩:=oy hgr.symm
  have e1:decide (((l:Nat):Int)>0)=true:=decide_eq_true (by omega)
  have w1:IntKind.i64.wrap ((m:Int)+1)=((m+1:Nat):Int):=wi (by omega) (by omega)
  have w2:IntKind.i64.wrap ((m:Int)-1)=((m-1:Nat):Int):=wi (by omega) (by omega)
  have m1:mn (m:Int) ((l:Nat):Int)=((min m l:Nat):Int):=by unfold mn;split<;>omega
  have hnl:n≤l:=by rw[hq];split<;>omega
  have hn0:0<n:=by rw[hq];split<;>omega
  have b1:au (some (.int .i64 (n:Int))) l l=some n:=az hnl
  have b2:au none 0 n=some 0:=rfl
  have b3:au none l l=some l:=rfl
  have b4:au (some (.int .i64 (n:Int))) 0 l=some n:=az hnl
  have t1:∀x:Nat,x+0=x:=Bt
  have t2:∀x:Nat,x-0=x:=B6
  by_cases hLe:l=m+1
  ·rw[if_pos hLe] at hq
   have e2:(((l:Nat):Int)==((m+1:Nat):Int))=true:=by rw[hLe];simp
   rw[←hq] at w2
   repeat(first|(refine sB hL hn rfl ?_;simp only[go_sem,seval,e1,w1,w2,m1,e2,aw,s0,hXX,b1,b2,t1,t2])|refine sN rfl ?_|refine sC ?_)
   by_cases hlt:i<j
   ·have s1':=hid (i+1) (by omega)
    refine aa.yield hP (by rw[hn];rfl) (hr i _ _ hlt g1) rfl rfl rfl rfl ?_;refine aa.go hL (by rw[hn];rfl) ?_;simp (maxSteps:=2000000) only[go_sem,seval]
    repeat(first|(refine sB hL hn rfl ?_;simp only[go_sem,seval,aw,s1',hXX,b3,b4])|refine sN rfl ?_|refine sC ?_)
    exact Lp.nextg (i+1,o+n,l-n) ⟨by simp only;omega,by simp only;omega,by simp only;omega,by simp only;rw[g2];exact hr'⟩ (by simp only;omega) (.of rfl ⟨rfl,rfl,rfl,trivial⟩)
   ·obtain rfl:i=j:=by omega
    rcases he with⟨h1,_⟩|⟨o',n',d,h1,rfl,h2⟩
    ·omega
    ·rw[g1] at h1;cases h1
     refine aa.yieldp hP h2 rfl rfl rfl rfl ?_
     exact⟨_,ag.refl _ _ _,rfl⟩
  ·rw[if_neg hLe] at hq
   have e2:(((l:Nat):Int)==((m+1:Nat):Int))=false:=beq_eq_false_iff_ne.2 (by omega)
   rw[←hq] at m1
   repeat(first|(refine sB hL hn rfl ?_;simp only[go_sem,seval,e1,w1,m1,e2,aw,s0,hXX,b1,b2,t1,t2])|refine sN rfl ?_|refine sC ?_)
   by_cases hlt:i<j
   ·have s1':=hid (i+1) (by omega)
    refine aa.yield hP (by rw[hn];rfl) (hr i _ _ hlt g1) rfl rfl rfl rfl ?_;refine aa.go hL (by rw[hn];rfl) ?_;simp (maxSteps:=2000000) only[go_sem,seval]
    repeat(first|(refine sB hL hn rfl ?_;simp only[go_sem,seval,aw,s1',hXX,b3,b4])|refine sN rfl ?_|refine sC ?_)
    exact Lp.nextg (i+1,o+n,l-n) ⟨by simp only;omega,by simp only;omega,by simp only;omega,by simp only;rw[g2];exact hr'⟩ (by simp only;omega) (.of rfl ⟨rfl,rfl,rfl,trivial⟩)
   ·obtain rfl:i=j:=by omega
    rcases he with⟨h1,_⟩|⟨o',n',d,h1,rfl,h2⟩
    ·omega
    ·rw[g1] at h1;cases h1
     refine aa.yieldp hP h2 rfl rfl rfl rfl ?_
     exact⟨_,ag.refl _ _ _,rfl⟩
def di38_3:List DI:=[⟨[4],[],false,[0,1,2],some 8,[]⟩,⟨[2],[],false,[0],some 9,[]⟩,⟨[5],[],false,[0],some 10,[]⟩,⟨[10],[2],false,[0],some 11,[2]⟩,⟨[9,11],[1,2,3],true,[],some 12,[1,3]⟩,⟨[5],[],false,[0,1],some 13,[]⟩,⟨[13],[5],false,[0,1],some 14,[5]⟩,⟨[14],[5,6],false,[0,1],some 15,[6]⟩,⟨[15],[5,6,7],false,[0,1],some 16,[7]⟩,⟨[12,16],rg 1 8,false,[1],some 17,[4,8]⟩,⟨[17],rg 1 9,true,[],some 18,[9]⟩,⟨[8,18],rg 0 11,true,[],some 19,[0,10,4]⟩,⟨[4,19],rg 0 12,true,[],none,([11,11]++rg 0 12)⟩]
abbrev aE:=Int×Int
def ePt (x:aE):DV:=.agg [.int .i64 x.1,.int .u64 x.2]
def gW (D:Nat) (l:List aE):DV:=match l with
 | []=>.nils
 |_::_=>.sl (D+3) l.length 0 l.length
def ptO (l:List aE):List Ob:=match l with
 | []=> []
 | [x]=> [.arr 91 2 [ePt x],.arr 91 2 [ePt x]]
 |x::y::_=> [.arr 91 2 [ePt x],.arr 91 2 [ePt x,ePt y],.arr 91 2 [ePt y]]
def flO (a m:Nat) (s:DV) (l:List aE) (x:Ob):List Ob:=
 [.arr 82 1 [.ptr a 1 0 0],.arr 41 1 [s],.arr 86 1 [gW (m+3) l],.oth .defd [],x]++ptO l
theorem uX:∃(A R E asg bo:Code),Try.f38.body=some (A.seq ((R.seq (.block 0 (.rangeFunc (.tmp 6) #[7] asg bo))).seq (E.seq .ret)))∧
  (∀C:Ctx,C.P=Try.prog→C.n=21→∀(a id N l0:Nat) (ob:List Ob),SW C A ⟨[(0,.ptr a 1 0 0),(1,.sl id N 0 l0)],ob⟩ (cX C .normal ⟨[(2,.ptr ob.length 1 0 0),(3,.ptr (ob.length+1) 1 0 0),(4,.ptr (ob.length+2) 1 0 0)],ob++[.arr 82 1 [.ptr a 1 0 0],.arr 41 1 [.sl id N 0 l0],.arr 86 1 [.nils]]⟩))∧
  (∀C:Ctx,C.P=Try.prog→C.n=21→∀(m:Nat) (ob:List Ob),SW C R ⟨[(2,.ptr m 1 0 0),(3,.ptr (m+1) 1 0 0),(4,.ptr (m+2) 1 0 0)],ob⟩ (cX C .normal ⟨[(2,.ptr m 1 0 0),(4,.ptr (m+2) 1 0 0),(6,.fn 51 [.ptr (m+1) 1 0 0])],ob⟩))∧
  (∀C:Ctx,C.P=Try.prog→C.n=21→∀(m:Nat) (d:DV) (ob:List Ob),SW C asg ⟨[(2,.ptr m 1 0 0),(4,.ptr (m+2) 1 0 0)]++[(7,d)],ob⟩ (cX C .normal ⟨[(2,.ptr m 1 0 0),(4,.ptr (m+2) 1 0 0)]++[(5,d)],ob⟩))∧
  (∀C:Ctx,C.P=Try.prog→C.n=21→∀(B B':List Ob) (m a id N o n:Nat) (XX:List DV) (s:DV) (it:It) (l:List aE) (k:Nat) (x:Ob),B.length=m→B'.length=m→l.length≤1→B[id]?=some (.arr 27 2 XX)→B'[id]?=some (.arr 27 2 XX)→XX.length=N→XX[o]?=some (eT it)→0<n→
   Ok Try.prog 53 [.ptr a 1 0 0,.agg [.sl id N o n,.nils]] (B++flO a m s l x) (.ret (.int .i64 (k:Int))) (B'++flO a m s l x)→
   SW C bo ⟨[(2,.ptr m 1 0 0),(4,.ptr (m+2) 1 0 0)]++[(5,.sl id N o n)],B++flO a m s l x⟩ (cX C .normal ⟨[],B'++flO a m s (l++[((k:Int),it.1)]) x⟩))∧
  (∀C:Ctx,C.P=Try.prog→C.n=21→∀(B B':List Ob) (m a id N o n:Nat) (XX:List DV) (s:DV) (it:It) (l:List aE) (x:Ob),B.length=m→B'.length=m→l.length≤1→B[id]?=some (.arr 27 2 XX)→B'[id]?=some (.arr 27 2 XX)→XX.length=N→XX[o]?=some (eT it)→0<n→
   Ok Try.prog 53 [.ptr a 1 0 0,.agg [.sl id N o n,.nils]] (B++flO a m s l x) (.pan (be 51)) (B'++flO a m s l x)→
   SWP C bo ⟨[(2,.ptr m 1 0 0),(4,.ptr (m+2) 1 0 0)]++[(5,.sl id N o n)],B++flO a m s l x⟩ (td (be 51) (B'++flO a m s l x)))∧
  (∀C:Ctx,C.P=Try.prog→C.n=21→∀(B:List Ob) (m a:Nat) (s:DV) (l:List aE) (x:Ob),B.length=m→l.length≤2→
   SW C E ⟨[(4,.ptr (m+2) 1 0 0)],B++flO a m s l x⟩ (cX C .normal ⟨[(4,.ptr (m+2) 1 0 0)],B++flO a m s l x⟩)):=by
 refine⟨_,_,_,_,_,rfl,?_,?_,?_,?_,?_,?_⟩
 all_goals
  intro C hP hn
  have hL:af C.P L:=hP▸ae
  have hm:C.P.follows .mixedOrders=true:=hP▸ao
 ·intro a id N l0 ob
  repeat(first|(refine sB hL hn rfl ?_;simp only[go_sem,seval])|refine sN rfl ?_|refine sC ?_)
  exact⟨rfl,.of (by simp) ⟨rfl,by simp[lk],by simp[lk],trivial⟩⟩
 ·intro m ob
  repeat(first|(refine sB hL hn rfl ?_;simp only[go_sem,seval])|refine sN rfl ?_|refine sC ?_)
  exact⟨rfl,.of rfl ⟨rfl,rfl,rfl,trivial⟩⟩
 ·intro m d ob
  repeat(first|(refine sB hL hn rfl ?_;simp only[go_sem,seval])|refine sN rfl ?_|refine sC ?_)
  exact⟨rfl,.of rfl ⟨rfl,rfl,rfl,trivial⟩⟩
 ·intro B B' m a id N o n XX s it l k x hB hB' hl hI hI' hXX hit hn0 hpg
  have g0:∀(l:List Ob),(B++l)[m]?=l[0]?:=fun l=>by subst hB;exact aL _ _
  have g1:∀(l:List Ob) (i:Nat),(B++l)[m+i]?=l[i]?:=fun l i=>by subst hB;exact ak _ _ _
  have g2:∀(l:List Ob),(B'++l)[m]?=l[0]?:=fun l=>by subst hB';exact aL _ _
  have g3:∀(l:List Ob) (i:Nat),(B'++l)[m+i]?=l[i]?:=fun l i=>by subst hB';exact ak _ _ _
  have s3:∀(l:List Ob) (i:Nat) (o:Ob),(B'++l).set (m+i) o=B'++l.set i o:=fun l i o=>by subst hB';exact ay _ _ _ _
  have hb1:bf L 95 [(0,.sl id N o n)]=some (.agg [.sl id N o n,.nils]):=rfl
  have i1:∀l:List Ob,(B++l)[id]?=some (.arr 27 2 XX):=fun l=>by rw[AJ (AH.1 hI).1];exact hI
  have i2:∀l:List Ob,(B'++l)[id]?=some (.arr 27 2 XX):=fun l=>by rw[AJ (AH.1 hI').1];exact hI'
  have t9:∀x:Nat,x+0=x:=Bt
  have hb2:∀x y,bf L 91 [(0,.int .i64 x),(1,.int .u64 y)]=some (.agg [.int .i64 x,.int .u64 y]):=fun x y=>rfl
  obtain⟨it1,it2⟩:=it
  simp only[eT] at hit⊢
  have lB:∀(l:List Ob),(B'++l).length=m+l.length:=fun l=>by rw[AP,hB']
  have e0:((0:Int)<(n:Int))=True:=eq_true (by omega)
  have t0:Ce 0=0:=rfl
  match l,hl with
  | [],_=>
   simp only[flO,ptO,gW,AK,Be,Bq,A5,Bj] at hpg⊢
   obtain⟨M,hM⟩:∃M,M=B++[.arr 82 1 [.ptr a 1 0 0],.arr 41 1 [s],.arr 86 1 [.nils],.oth .defd [],x]:=⟨_,rfl⟩
   have m1:M[m]?=some (.arr 82 1 [.ptr a 1 0 0]):=by rw[hM,g0];rfl
   have m2:M[m+2]?=some (.arr 86 1 [.nils]):=by rw[hM,g1];rfl
   have m3:M[id]?=some (.arr 27 2 XX):=by rw[hM];exact i1 _
   rw[←hM] at hpg⊢
   repeat(first|(refine sB hL hn rfl ?_;simp only[go_sem,seval])|refine sN rfl ?_|refine sC ?_)
   refine(?_:SW C _ _ _);refine sM hL hm hn di38_3 [M,B'++[.arr 82 1 [.ptr a 1 0 0],.arr 41 1 [s],.arr 86 1 [.nils],.oth .defd [],x],B'++[.arr 82 1 [.ptr a 1 0 0],.arr 41 1 [s],.arr 86 1 [.nils],.oth .defd [],x,.arr 91 2 [ePt ((k:Int),it1)]],B'++[.arr 82 1 [.ptr a 1 0 0],.arr 41 1 [s],.arr 86 1 [.nils],.oth .defd [],x,.arr 91 2 [ePt ((k:Int),it1)],.arr 91 2 [ePt ((k:Int),it1)]],B'++[.arr 82 1 [.ptr a 1 0 0],.arr 41 1 [s],.arr 86 1 [.sl (m+3+3) 1 0 1],.oth .defd [],x,.arr 91 2 [ePt ((k:Int),it1)],.arr 91 2 [ePt ((k:Int),it1)]]] rfl rfl rfl ?_
   unfold di38_3
   repeat(rw[ah];simp (maxSteps:=2000000) only[go_sem,seval,m1,m2,hb1,g3,t9])
   try rw[aj]
   try simp only[go_sem,seval,m1,m2,m3,hb1,g2,g3,i2,hXX,hit,t9,e0,t0]
   refine aI.effx hP (hpg) rfl rfl rfl rfl ?_;simp (maxSteps:=2000000) only[go_sem,seval,aj,ah,m3,g3,s3,hb2,aG,lB,e0,t0,ePt,i2,hXX,hit,t9]
   repeat(rw[ah];simp (maxSteps:=2000000) only[go_sem,seval,m1,m2,m3,g2,g3,s3,hb2,aG,lB,e0,t0,ePt,A8,i2,hXX,hit,t9])
   try rw[aj]
   try simp only[go_sem,seval,m1,m2,m3,g2,g3,s3,hb2,aG,lB,e0,t0,ePt,A8,i2,hXX,hit,t9]
   exact⟨rfl,rfl,.of rfl trivial⟩
  | [(y1,y2)],_=>
   simp only[flO,ptO,gW,Be,Bq,A5,Bj] at hpg⊢
   obtain⟨M,hM⟩:∃M,M=B++[.arr 82 1 [.ptr a 1 0 0],.arr 41 1 [s],.arr 86 1 [.sl (m+3+3) 1 0 1],.oth .defd [],x,.arr 91 2 [ePt (y1,y2)],.arr 91 2 [ePt (y1,y2)]]:=⟨_,rfl⟩
   have m1:M[m]?=some (.arr 82 1 [.ptr a 1 0 0]):=by rw[hM,g0];rfl
   have m2:M[m+2]?=some (.arr 86 1 [.sl (m+3+3) 1 0 1]):=by rw[hM,g1];rfl
   have m3:M[id]?=some (.arr 27 2 XX):=by rw[hM];exact i1 _
   rw[←hM] at hpg⊢
   repeat(first|(refine sB hL hn rfl ?_;simp only[go_sem,seval])|refine sN rfl ?_|refine sC ?_)
   refine(?_:SW C _ _ _);refine sM hL hm hn di38_3 [M,B'++[.arr 82 1 [.ptr a 1 0 0],.arr 41 1 [s],.arr 86 1 [.sl (m+3+3) 1 0 1],.oth .defd [],x,.arr 91 2 [ePt (y1,y2)],.arr 91 2 [ePt (y1,y2)]],B'++[.arr 82 1 [.ptr a 1 0 0],.arr 41 1 [s],.arr 86 1 [.sl (m+3+3) 1 0 1],.oth .defd [],x,.arr 91 2 [ePt (y1,y2)],.arr 91 2 [ePt (y1,y2)],.arr 91 2 [ePt ((k:Int),it1)]],B'++[.arr 82 1 [.ptr a 1 0 0],.arr 41 1 [s],.arr 86 1 [.sl (m+3+3) 1 0 1],.oth .defd [],x,.arr 91 2 [ePt (y1,y2)],.arr 91 2 [ePt (y1,y2),ePt ((k:Int),it1)],.arr 91 2 [ePt ((k:Int),it1)]],B'++[.arr 82 1 [.ptr a 1 0 0],.arr 41 1 [s],.arr 86 1 [.sl (m+3+3) 2 0 2],.oth .defd [],x,.arr 91 2 [ePt (y1,y2)],.arr 91 2 [ePt (y1,y2),ePt ((k:Int),it1)],.arr 91 2 [ePt ((k:Int),it1)]]] rfl rfl rfl ?_
   unfold di38_3
   repeat(rw[ah];simp (maxSteps:=2000000) only[go_sem,seval,m1,m2,hb1,g3,t9])
   try rw[aj]
   try simp only[go_sem,seval,m1,m2,m3,hb1,g2,g3,i2,hXX,hit,t9,e0,t0]
   refine aI.effx hP (hpg) rfl rfl rfl rfl ?_;simp (maxSteps:=2000000) only[go_sem,seval,aj,ah,m3,g3,s3,hb2,aG,lB,e0,t0,ePt,i2,hXX,hit,t9]
   repeat(rw[ah];simp (maxSteps:=2000000) only[go_sem,seval,m1,m2,m3,g2,g3,s3,hb2,aG,lB,e0,t0,ePt,A8,i2,hXX,hit,t9])
   try rw[aj]
   try simp only[go_sem,seval,m1,m2,m3,g2,g3,s3,hb2,aG,lB,e0,t0,ePt,A8,i2,hXX,hit,t9]
   exact⟨rfl,rfl,.of rfl trivial⟩
 ·intro B B' m a id N o n XX s it l x hB hB' hl hI hI' hXX hit hn0 hpg
  have g0:∀(l:List Ob),(B++l)[m]?=l[0]?:=fun l=>by subst hB;exact aL _ _
  have g1:∀(l:List Ob) (i:Nat),(B++l)[m+i]?=l[i]?:=fun l i=>by subst hB;exact ak _ _ _
  have g2:∀(l:List Ob),(B'++l)[m]?=l[0]?:=fun l=>by subst hB';exact aL _ _
  have g3:∀(l:List Ob) (i:Nat),(B'++l)[m+i]?=l[i]?:=fun l i=>by subst hB';exact ak _ _ _
  have s3:∀(l:List Ob) (i:Nat) (o:Ob),(B'++l).set (m+i) o=B'++l.set i o:=fun l i o=>by subst hB';exact ay _ _ _ _
  have hb1:bf L 95 [(0,.sl id N o n)]=some (.agg [.sl id N o n,.nils]):=rfl
  have i1:∀l:List Ob,(B++l)[id]?=some (.arr 27 2 XX):=fun l=>by rw[AJ (AH.1 hI).1];exact hI
  have i2:∀l:List Ob,(B'++l)[id]?=some (.arr 27 2 XX):=fun l=>by rw[AJ (AH.1 hI').1];exact hI'
  have t9:∀x:Nat,x+0=x:=Bt
  have hb2:∀x y,bf L 91 [(0,.int .i64 x),(1,.int .u64 y)]=some (.agg [.int .i64 x,.int .u64 y]):=fun x y=>rfl
  obtain⟨it1,it2⟩:=it
  simp only[eT] at hit⊢
  have lB:∀(l:List Ob),(B'++l).length=m+l.length:=fun l=>by rw[AP,hB']
  have e0:((0:Int)<(n:Int))=True:=eq_true (by omega)
  have t0:Ce 0=0:=rfl
  match l,hl with
  | [],_=>
   simp only[flO,ptO,gW,AK,Be,Bq] at hpg⊢
   obtain⟨M,hM⟩:∃M,M=B++[.arr 82 1 [.ptr a 1 0 0],.arr 41 1 [s],.arr 86 1 [.nils],.oth .defd [],x]:=⟨_,rfl⟩
   have m1:M[m]?=some (.arr 82 1 [.ptr a 1 0 0]):=by rw[hM,g0];rfl
   have m2:M[m+2]?=some (.arr 86 1 [.nils]):=by rw[hM,g1];rfl
   have m3:M[id]?=some (.arr 27 2 XX):=by rw[hM];exact i1 _
   rw[←hM] at hpg⊢
   obtain⟨k,_⟩:∃k:Nat,k=0:=⟨_,rfl⟩
   refine SWP.block ?_
   refine SWP.draw hL hm hn di38_3 [M,B'++[.arr 82 1 [.ptr a 1 0 0],.arr 41 1 [s],.arr 86 1 [.nils],.oth .defd [],x],B'++[.arr 82 1 [.ptr a 1 0 0],.arr 41 1 [s],.arr 86 1 [.nils],.oth .defd [],x,.arr 91 2 [ePt ((k:Int),it1)]],B'++[.arr 82 1 [.ptr a 1 0 0],.arr 41 1 [s],.arr 86 1 [.nils],.oth .defd [],x,.arr 91 2 [ePt ((k:Int),it1)],.arr 91 2 [ePt ((k:Int),it1)]],B'++[.arr 82 1 [.ptr a 1 0 0],.arr 41 1 [s],.arr 86 1 [.sl (m+3+3) 1 0 1],.oth .defd [],x,.arr 91 2 [ePt ((k:Int),it1)],.arr 91 2 [ePt ((k:Int),it1)]]] rfl rfl rfl ?_
   unfold di38_3
   repeat(rw[ah];simp (maxSteps:=2000000) only[go_sem,seval,m1,m2,hb1,g3,t9])
   try rw[aj]
   try simp only[go_sem,seval,m1,m2,m3,hb1,g2,g3,i2,hXX,hit,t9,e0,t0]
   refine aI.panm (.int .i64 (k:Int)) hP hpg rfl rfl rfl rfl ⟨rfl,rfl⟩ ?_
   rw[lC]
   simp only[upo,up]
   repeat(rw[ah];simp (maxSteps:=2000000) only[go_sem,seval,m3,g3,s3,hb2,aG,lB,e0,t0,ePt,i2,hXX,hit,t9])
   try rw[aj]
   try simp only[go_sem,seval]
   exact⟨rfl,.inl rfl⟩
  | [(y1,y2)],_=>
   simp only[flO,ptO,gW,Be,Bq,A5,Bj] at hpg⊢
   obtain⟨M,hM⟩:∃M,M=B++[.arr 82 1 [.ptr a 1 0 0],.arr 41 1 [s],.arr 86 1 [.sl (m+3+3) 1 0 1],.oth .defd [],x,.arr 91 2 [ePt (y1,y2)],.arr 91 2 [ePt (y1,y2)]]:=⟨_,rfl⟩
   have m1:M[m]?=some (.arr 82 1 [.ptr a 1 0 0]):=by rw[hM,g0];rfl
   have m2:M[m+2]?=some (.arr 86 1 [.sl (m+3+3) 1 0 1]):=by rw[hM,g1];rfl
   have m3:M[id]?=some (.arr 27 2 XX):=by rw[hM];exact i1 _
   rw[←hM] at hpg⊢
   obtain⟨k,_⟩:∃k:Nat,k=0:=⟨_,rfl⟩
   refine SWP.block ?_
   refine SWP.draw hL hm hn di38_3 [M,B'++[.arr 82 1 [.ptr a 1 0 0],.arr 41 1 [s],.arr 86 1 [.sl (m+3+3) 1 0 1],.oth .defd [],x,.arr 91 2 [ePt (y1,y2)],.arr 91 2 [ePt (y1,y2)]],B'++[.arr 82 1 [.ptr a 1 0 0],.arr 41 1 [s],.arr 86 1 [.sl (m+3+3) 1 0 1],.oth .defd [],x,.arr 91 2 [ePt (y1,y2)],.arr 91 2 [ePt (y1,y2)],.arr 91 2 [ePt ((k:Int),it1)]],B'++[.arr 82 1 [.ptr a 1 0 0],.arr 41 1 [s],.arr 86 1 [.sl (m+3+3) 1 0 1],.oth .defd [],x,.arr 91 2 [ePt (y1,y2)],.arr 91 2 [ePt (y1,y2),ePt ((k:Int),it1)],.arr 91 2 [ePt ((k:Int),it1)]],B'++[.arr 82 1 [.ptr a 1 0 0],.arr 41 1 [s],.arr 86 1 [.sl (m+3+3) 2 0 2],.oth .defd [],x,.arr 91 2 [ePt (y1,y2)],.arr 91 2 [ePt (y1,y2),ePt ((k:Int),it1)],.arr 91 2 [ePt ((k:Int),it1)]]] rfl rfl rfl ?_
   unfold di38_3
   repeat(rw[ah];simp (maxSteps:=2000000) only[go_sem,seval,m1,m2,hb1,g3,t9])
   try rw[aj]
   try simp only[go_sem,seval,m1,m2,m3,hb1,g2,g3,i2,hXX,hit,t9,e0,t0]
   refine aI.panm (.int .i64 (k:Int)) hP hpg rfl rfl rfl rfl ⟨rfl,rfl⟩ ?_
   rw[lC]
   simp only[upo,up]
   repeat(rw[ah];simp (maxSteps:=2000000) only[go_sem,seval,m3,g3,s3,hb2,aG,lB,e0,t0,ePt,i2,hXX,hit,t9])
   try rw[aj]
   try simp only[go_sem,seval]
   exact⟨rfl,.inl rfl⟩
 ·intro B m a s l x hB hl
  have g1:∀(l:List Ob) (i:Nat),(B++l)[m+i]?=l[i]?:=fun l i=>by subst hB;exact ak _ _ _
  have s1:∀(l:List Ob) (i:Nat) (o:Ob),(B++l).set (m+i) o=B++l.set i o:=fun l i o=>by subst hB;exact ay _ _ _ _
  simp only[flO,Bq,Be]
  obtain⟨T,hT⟩:∃T,T=ptO l:=⟨_,rfl⟩
  rw[←hT]
  match l,hl with
  | [],_=>
   simp only[gW]
   repeat(first|(refine sB hL hn rfl ?_;simp only[go_sem,seval,g1,s1])|refine sN rfl ?_|refine sC ?_)
   exact⟨rfl,.of rfl ⟨rfl,trivial⟩⟩
  | [y],_=>
   simp only[gW,A5,Bj]
   repeat(first|(refine sB hL hn rfl ?_;simp only[go_sem,seval,g1,s1])|refine sN rfl ?_|refine sC ?_)
   exact⟨rfl,.of rfl ⟨rfl,trivial⟩⟩
  | [y,z],_=>
   simp only[gW,A5,Bj]
   repeat(first|(refine sB hL hn rfl ?_;simp only[go_sem,seval,g1,s1])|refine sN rfl ?_|refine sC ?_)
   exact⟨rfl,.of rfl ⟨rfl,trivial⟩⟩
end Go.VL
