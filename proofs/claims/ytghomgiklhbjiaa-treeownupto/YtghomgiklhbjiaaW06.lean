/- Proved: TreeOwn: whatever tree, root and item come in (together of bulk at most 1048576), the call returns true and they read as they did; no other condition. This text is part 6 of 18. -/
import Derived.Test.YtghomgiklhbjiaaW05
import Derived.Maps.RangeRun
import Derived.Lib.Overlaps
set_option linter.unusedSimpArgs false
set_option linter.unusedVariables false
set_option maxRecDepth 100000
open List renaming all_cons → Cv,all_nil → Do,append_assoc → AR,append_nil → AK,cons_append → Bq,drop_zero → Ch,getD_eq_getElem?_getD → AZ,getElem?_append_left → AJ,getElem?_append_right → AT,getElem?_cons_zero → AY,getElem?_drop → Bk,getElem?_eq_getElem → AI,getElem?_eq_none → BA,getElem?_eq_some_iff → AH,getElem?_map → AQ,getElem?_of_mem → Cc,getElem?_replicate → Ck,getElem?_set → B2,getElem?_take_of_lt → BM,getElem?_toArray → Bn,getElem_mem → BS,length_append → AP,length_cons → A5,length_eq_zero_iff → B1,length_map → AN,length_singleton → Ca,length_take → Bi,map_cons → Bf,map_nil → BQ,map_take → Dy,mem_append → BT,mem_map → Ba,mem_of_getElem? → AM,mem_of_mem_drop → By,mem_of_mem_take → Bz,mem_replicate → BK,mem_singleton → BX,range → Bs,replicate → AO,set_append_left → Bo,set_append_right → Cg,set_cons_zero → Dj,take_append_getElem → BN,take_length → Co,take_of_length_le → AV,take_zero → CF
open Nat renaming add_mul → Bx,add_zero → Bt,eq_zero_or_pos → B4,le_mul_of_pos_right → CJ,le_of_eq → DF,le_refl → AU,le_trans → Bl,lt_or_ge → Bp,lt_trichotomy → Dl,min_eq_left → BE,mod_eq_of_lt → CK,mul_comm → C7,mul_le_mul_right → A7,pow_succ → DH,reduceBEq → CH,reduceLT → Bv,sub_self → B7,sub_zero → B6,succ_mul → BY,zero_add → Bc,zero_le → BD,zero_mul → CT
open Option renaming getD_some → A8,map_some → AW,none → DC,some → AX
open Int renaming eq_ofNat_of_zero_le → Cj,reduceLE → CZ,reduceLT → Cq,toNat_natCast → Bg
open Array renaming empty_append → B3,ext' → BJ,getD_eq_getD_getElem? → A0,getElem?_append_left → BO,getElem?_append_right → DE,getElem?_eq_getElem → BG,getElem?_eq_some_iff → Bm,getElem?_toList → Cf,length_toList → B9,replicate → BI,size_append → C2,size_map → Dm,size_range → Dt
open Bool renaming and_true → Dc
namespace Go.VL
open Go Go.Proofs
open Nat (reduceAdd reduceEqDiff reduceSub reduceMul reduceLeDiff)
theorem aa.opdo{C:Ctx}{ops:Array Oper}{rest:List Oper}{o:Oper}{st:St}{K:XE→St→Prop}{d:DV}{ob':List Ob} (hg:gd ops st.env o=some true) (hd:cm C.n [o]=true) (hop:bK C.P o st (.ret d) ob')
  (h:aa C ops rest ⟨upo st.env o.dst d,ob'⟩ K):aa C ops (o::rest) st K:=by
 rintro a w ⟨F,μ,hr⟩
 refine wpListIn_step fun K' hK=>?_
 rw[if_pos (aK hr hg)]
 exact hop C.rd a w F μ K' _ hr.hr (bb hr) fun v w' F' μ' haf hrep=>hK _ _ (h _ _ ⟨F',μ',cB (C:=C) (dd:=C.dd) hr haf (kP hd).1 hrep⟩)
theorem aa.yield{C:Ctx}{P:Program}{ops:Array Oper}{rest:List Oper}{o:Oper}{st:St}{K:XE→St→Prop}{g:Operand}{xs:Array Operand}{ts:Array TypeId}{id:Nat}{args:List DV}{d:DV}{σ':List Ob} (hP:C.P=P) (hd:cm C.n [o]=true)
  (hc:cU P (.yld id) args st.ob (.ret d) σ') (hg:gd ops st.env o=some true) (ho:o.op=.call {callee:=.value g,args:=xs,argTypes:=ts}) (hf:ev st.env g=.yld id) (ha:xs.toList.map (ev st.env)=args)
  (h:aa C ops rest ⟨upo st.env o.dst d,σ'⟩ K):aa C ops (o::rest) st K:=
 aa.opdo hg hd (by rw[hP];exact hc o st g xs ts ho hf ha rfl) h
theorem aa.one{C:Ctx}{L:Lay} (hL:af C.P L){ops:Array Oper}{rest:List Oper}{o:Oper}{st:St}{K:XE→St→Prop} (hd:cm C.n [o]=true)
  (h:match gd ops st.env o with
   |some true=>(match sop L st o.op with
    |some (d,ob')=>aa C ops rest ⟨upo st.env o.dst d,ob'⟩ K
    |none=>False)
   |some false=>aa C ops rest ⟨upo st.env o.dst .skip,st.ob⟩ K
   |none=>False):aa C ops (o::rest) st K:=by
 split at h
 ·rename_i hg
  split at h
  ·rename_i d ob' hs
   exact aa.op hg (kP hd).1 (ar.of_sop (o:=o) hL hs) h
  ·exact h.elim
 ·rename_i hg
  exact aa.pass hg (kP hd).1 h
 ·exact h.elim
def cX (C:Ctx) (e:XE) (st':St):XE→St→Prop:=fun e' s=>e'=e∧ai C s st'
theorem aJ.of_sw{C:Ctx}{c:Code}{st st':St}{e:XE}{dd:List DD} (he:∀d,e≠ .panic d) (h:SW (C.at dd) c st (cX (C.at dd) e st')):aJ C c st dd e st' dd:=by
 intro a w hr
 refine wpIn_mono (h a w hr) fun ex a w hq=>?_
 cases ex with
 |normal=>obtain⟨s,⟨rfl,hg⟩,hr⟩:=hq;exact⟨rfl,hg a w hr⟩
 |exit i=>obtain⟨s,⟨rfl,hg⟩,hr⟩:=hq;exact⟨rfl,hg a w hr⟩
 |ret=>obtain⟨s,⟨rfl,hg⟩,hr⟩:=hq;exact⟨rfl,hg a w hr⟩
 |panic ch=>obtain⟨s,d,v,F,μ,⟨e1,_⟩,_⟩:=hq;exact absurd e1.symm (he d)
 |goto l=>exact hq.elim
 |outgrown=>exact hq.elim
theorem aJ.part{C:Ctx}{P:Program}{n:Nat} (hP:C.P=P) (hn:C.n=n){c:Code}{st st':St}{e:XE}{dd:List DD} (he:∀d,e≠ .panic d) (h:∀D:Ctx,D.P=P→D.n=n→SW D c st (cX D e st')):aJ C c st dd e st' dd:=aJ.of_sw he (h (C.at dd) hP hn)
theorem aJ.range{C:Ctx} (hrd:C.rd=none){st st':St}{dd:List DD}{g:Operand}{ps:Array Tmp}{asg bo:Code}{f:FuncId}{caps:List DV}{fid:Nat}{ts:List DV} (hg:ev st.env g=.fn f caps)
  (hts:ts.length=C.n) (hti:∀i,i<C.n→ts[i]?=some (lk st.env i)){out:Out}{σ2:List Ob}
  (hok:Ok C.P f ([.yld (st.ob.length+1)]++caps) ((st.ob++[Ob.oth .defd []])++[Ob.oth (.loop .ready none fid ps.toList asg bo st.ob.length) ts]) out σ2){e:XE}
  (hend:(∃d stt q f1 p1 a1 b1 d1 e1,out=.ret d∧σ2[st.ob.length+1]?=some (.oth (.loop stt q f1 p1 a1 b1 d1) e1)∧stt≠ .busy∧mV e=some q∧st'=⟨st.env,σ2.set (st.ob.length+1) (.oth (.loop .exhausted q f1 p1 a1 b1 d1) e1)⟩)∨
   (∃d,out=.pan d∧e=.panic d∧st'=⟨st.env,σ2⟩)):aJ C (.rangeFunc g ps asg bo) st dd e st' (.col st.ob.length::dd):=by
 intro a w hr
 have hfe:C.fe=Fence.wide:=by
  show{Fence.wide with round:=C.rd}=Fence.wide
  rw[hrd];rfl
 rw[hfe]
 obtain⟨F,μ,hr⟩:=hr
 have hv:=bb hr g
 rw[hg] at hv
 have hcap:∃vs:List Value,a.eval g=.func (.func f) #[] ⟨vs⟩∧bF w F μ st.ob caps vs:=by
  generalize a.eval g=v at hv
  cases hv with
  |fn hl hh=>exact⟨_,rfl,hl,hh⟩
 obtain⟨cvs,hge,hcr⟩:=hcap
 refine wpIn_rangeFunc fun fn _=>?_
 have hh:HR w F μ st.ob:=hr.hr
 obtain⟨u1,u2,u3⟩:=hh.pushAny (.deferred (some [])) (.oth .defd []) fun hst h1 h2=>⟨fun i hi=>by simp[OT.refs] at hi,[],⟨_,_,h1,h2,fun _=>rfl⟩,rfl,fun i d v hd _=>by simp at hd⟩
 obtain⟨w1,hw1⟩:∃w1,w1=w.alloc (.deferred (some [])):=⟨_,rfl⟩
 obtain⟨μ1,hμ1⟩:∃μ1,μ1=bd μ st.ob.length w.heap.size:=⟨_,rfl⟩
 rw[←hw1,←hμ1] at u1 u2 u3
 have hs1:w1.heap.size=w.heap.size+1:=by rw[hw1];simp
 have hd1:μ1 st.ob.length=some w.heap.size:=by rw[hμ1];simp[bd]
 obtain⟨v1,v2,v3⟩:=u1.pushAny (.loop {state:=.ready,pending:=none,fn,tmps:=a.tmps,params:=ps,assign:=asg,body:=bo,defers:=w.heap.size}) (.oth (.loop .ready none fid ps.toList asg bo st.ob.length) ts) fun hst h1 h2=>by
  refine⟨fun i hi=>?_,a.tmps.toList,⟨_,w.heap.size,fn,h1,?_,h2⟩,?_,fun i d v hd hv=>?_⟩
  ·simp only[OT.refs,BX] at hi
   subst hi
   refine⟨.defd,[],?_⟩
   rw[aD,if_neg (by simp),aD,if_pos rfl]
  ·have:bd μ1 (st.ob++[Ob.oth .defd []]).length w1.heap.size st.ob.length=μ1 st.ob.length:=by
    simp only[bd]
    rw[if_neg (by simp)]
   rw[this];exact hd1
  ·have:=hr.size
   rw[hts]
   simpa using this.symm
  ·have hi:i<C.n:=by
    have:=(AH.1 hd).1
    rwa [hts] at this
   rw[hti i hi] at hd
   cases hd
   have h0:=((hr.env i).step u2).step hst
   have:a.tmps.getD i undef=v:=by
    rw[A0,←Cf,hv]
    rfl
   rw[this] at h0
   exact h0
 obtain⟨w2,hw2⟩:∃w2,w2=w1.alloc (.loop {state:=.ready,pending:=none,fn,tmps:=a.tmps,params:=ps,assign:=asg,body:=bo,defers:=w.heap.size}):=⟨_,rfl⟩
 obtain⟨μ2,hμ2⟩:∃μ2,μ2=bd μ1 (st.ob++[Ob.oth .defd []]).length w1.heap.size:=⟨_,rfl⟩
 rw[←hw2,←hμ2] at v1 v2 v3
 have hl2:μ2 (st.ob.length+1)=some (w.heap.size+1):=by rw[hμ2];simp[bd,hs1]
 have hd2:μ2 st.ob.length=some w.heap.size:=by
  rw[hμ2]
  simp only[bd]
  rw[if_neg (by simp)];exact hd1
 have hob2:((st.ob++[Ob.oth .defd []])++[Ob.oth (.loop .ready none fid ps.toList asg bo st.ob.length) ts])[st.ob.length+1]?=some (Ob.oth (.loop .ready none fid ps.toList asg bo st.ob.length) ts):=by
  rw[aD,if_pos (by simp)]
 have hobd:((st.ob++[Ob.oth .defd []])++[Ob.oth (.loop .ready none fid ps.toList asg bo st.ob.length) ts])[st.ob.length]?=some (Ob.oth .defd []):=by
  rw[aD,if_neg (by simp),aD,if_pos rfl]
 refine⟨w.heap.size+1,[{target:=.collected w.heap.size,args:= #[]}],w2,{target:=.fn (.func f) ⟨cvs⟩,args:= #[.func (.yield (w.heap.size+1)) #[] #[]]},w2,f, #[.func (.yield (w.heap.size+1)) #[] #[]]++⟨cvs⟩,w2,?_,?_,fun _ _=>trivial,?_,fun e=>(by cases e),?_⟩
 ·rw[hw2,hw1];exact run_enterLoop_outer _ _ _ _ _
 ·simp only[resolve,hge]
  simp[go_sem]
 ·simp only[invoke]
  exact hok.enters _ _
 ·refine(callsIn_wide (n:=0)).2 ?_
  have hargs:bF w2 F μ2 ((st.ob++[Ob.oth .defd []])++[Ob.oth (.loop .ready none fid ps.toList asg bo st.ob.length) ts]) ([.yld (st.ob.length+1)]++caps) ([.func (.yield (w.heap.size+1)) #[] #[]]++cvs):=by
   refine bF.append ⟨rfl,fun i d v hd hv=>?_⟩ ((hcr.step u2).step v2)
   rcases i with _|i<;>simp at hd hv
   subst hd;subst hv
   exact .yld hl2 ⟨_,_,hob2,rfl⟩
  have hc:=hok.calls w2 F μ2 _ v1 hargs
  rw[show(#[.func (.yield (w.heap.size+1)) #[] #[]]++⟨cvs⟩:Array Value)=⟨[.func (.yield (w.heap.size+1)) #[] #[]]++cvs⟩ by apply BJ;simp]
  refine hc.mono fun ee w3 he=>?_
  obtain⟨F3,μ3,v,haf,hout⟩:=he
  have hl3:μ3 (st.ob.length+1)=some (w.heap.size+1):=(haf.step.othsame _ _ _ hob2).trans hl2
  have hrel3:Rel0 (C.at (.col st.ob.length::dd)) F3 μ3 ⟨st.env,σ2⟩ {a with defers:=[{target:=.collected w.heap.size,args:= #[]}]++a.defers} w3:=by
   have st3:=(u2.trans v2).trans haf.step
   refine⟨haf.hr,fun t=>(hr.env t).step st3,hr.step.trans st3,hr.fr.trans ((u3.trans v3).trans haf.fr),fun c b hb=>(haf.col c b hb).elim (hr.col c b) (fun q=>.inr (Bl (hr.fr.trans (u3.trans v3)).size q)),hr.size,?_⟩
   refine⟨_,a.defers,rfl,?_,bS.step st3 hr.defers⟩
   obtain⟨o',ho',t',ds',rfl,hk'⟩:=haf.step.ext _ _ hobd
   obtain rfl:=OT.kind_defd hk'
   exact⟨w.heap.size,ds',(haf.step.othsame _ _ _ hobd).trans hd2,ho',rfl⟩
  rcases hend with⟨d,stt,q,f1,p1,a1,b1,d1,e1,rfl,ho,hb,hj,rfl⟩|⟨d,rfl,rfl,rfl⟩
  ·obtain⟨rfl,hrep⟩:=hout
   obtain⟨r1,dd1,fn1,vs1,n1,n2,n3,n4⟩:=dE haf.hr ho
   rw[hl3] at n1
   obtain rfl:=AX.inj n1
   obtain⟨t1,t2,t3⟩:=dA (fn:=fn1) (st':=.exhausted) (q':=q) haf.hr ho hl3 n2 n4
   have hrel4:Rel (C.at (.col st.ob.length::dd)) ⟨st.env,σ2.set (st.ob.length+1) (.oth (.loop .exhausted q f1 p1 a1 b1 d1) e1)⟩ {a with defers:=[{target:=.collected w.heap.size,args:= #[]}]++a.defers} _:=
    ⟨F3,μ3,t1,fun t=>(hrel3.env t).step t2,hrel3.step.trans t2,hrel3.fr.trans t3,hrel3.col,hrel3.size,bS.step t2 hrel3.defers⟩
   refine⟨q,_,run_endLoop n3 hb,?_⟩
   cases e with
   |normal=>cases hj;exact⟨rfl,hrel4⟩
   |ret=>cases hj;exact wpIn_ret ⟨rfl,hrel4⟩
   |exit i=>cases hj;exact wpIn_exit ⟨rfl,hrel4⟩
   |panic d=>cases hj
  ·obtain⟨rfl,hrep⟩:=hout
   exact⟨d,v,F3,μ3,rfl,rfl,hrel3,hrep⟩
theorem we{P:Program}{n:Nat}{σ:List Ob}{id:Nat}{args ds:List DV}{st0:LoopState}{q0:Option Code}{fid:FuncId}{ps:List Tmp}{asg bo:Code}{did:Nat}{p:List (Nat×DV)} (ho:σ[id]?=some (.oth (.loop st0 q0 fid ps asg bo did) ds)) (hlen:ds.length=n)
  (hp:rX n ps args (bL 0 ds)=some p){st1:St}{dd1:List DD} (hasg:∀C:Ctx,C.P=P→C.n=n→aJ C asg ⟨p,σ⟩ [] .normal st1 dd1){q1:Option Code}{f1:FuncId}{p1:List Tmp}{a1 b1:Code}{d1:Nat}{e1:List DV}
  (ho1:st1.ob[id]?=some (.oth (.loop .ready q1 f1 p1 a1 b1 d1) e1)){e:XE}{st2:St}{dd2:List DD} (hbo:∀C:Ctx,C.P=P→C.n=n→aJ C bo ⟨st1.env,st1.ob.set id (.oth (.loop .busy q1 f1 p1 a1 b1 d1) e1)⟩ dd1 e st2 dd2)
  {st2':LoopState}{q2:Option Code}{f2:FuncId}{p2:List Tmp}{a2 b2:Code}{d2:Nat}{e2:List DV} (ho2:st2.ob[id]?=some (.oth (.loop st2' q2 f2 p2 a2 b2 d2) e2)){j:Option Code} (hj:mV e=some j):
  cU P (.yld id) args σ (.ret (.bool j.isNone)) (st2.ob.set id (.oth (.loop (if j.isNone then .ready else .done) j f2 p2 a2 b2 d2) e2)):=by
 intro o st gop xs ts hop hg hargs hob ro a w F μ K' Q hh he hk
 rw[hob] at hh he hk
 have hv:=he gop
 rw[hg] at hv
 obtain⟨r,d,fn',vs,k1,k2,k3,k4⟩:=dE hh ho
 have hge:a.eval gop=.func (.yield r) #[] #[]:=by
  generalize a.eval gop=v at hv
  cases hv with
  |yld h _=>rw[k1] at h;cases h;rfl
 have hrm:bF w F μ σ args (xs.toList.map a.eval):=by
  subst hargs
  refine⟨by simp,fun i d v hd hv=>?_⟩
  rw[AQ] at hd hv
  cases hx:xs.toList[i]? with
  |none=>simp[hx] at hd
  |some x=>
   simp only[hx,AW,AX.injEq] at hd hv
   subst hd;subst hv
   exact he x
 have hvs:vs.length=n:=by rw[←k4.1];exact hlen
 obtain⟨l1,l2,l3⟩:=lH (w:=w) (F:=F) (μ:=μ) (σ:=σ) ps args (bL 0 ds) p (xs.toList.map a.eval) ⟨vs⟩ hp hrm (by simpa using hvs) (fun t=>by
  rw[db,if_pos (BD t),B6]
  rcases Bp t ds.length with ht|ht
  ·rw[AI ht,A8]
   have ht':t<vs.length:=by rw[←k4.1];exact ht
   have:(⟨vs⟩:Array Value).getD t undef=vs[t]:=by
    rw[A0]
    simp[ht']
   rw[this]
   exact k4.2 t _ _ (AI ht) (AI ht')
  ·rw[BA ht]
   exact .undef)
 have hsz:(xs.map a.eval).size=ps.length:=by simpa using l1
 have hmap:xs.map a.eval=⟨xs.toList.map a.eval⟩:=by apply BJ;simp
 have hrunop:(execOp a.eval o).run P w=.ok (.round r fn' ((ps.zip (xs.toList.map a.eval)).foldl (fun tmps (t,a)=>tmps.setIfInBounds t a) ⟨vs⟩) asg bo) w:=by
  unfold execOp
  rw[hop]
  dsimp only[resolve]
  rw[hge]
  simp only[Deferred.ofValue,Sem.run_bind,Sem.run_pure,Result.andThen_ok,invoke,B3]
  have:=run_yield (P:=P) (args:=xs.map a.eval) k3 hsz
  rw[hmap] at this⊢
  rw[this,mY]
 refine⟨fun _ _=>trivial,?_⟩
 show o.uponIn _ 0 P a K' Q ((o.semAt ro a.eval).run P w)
 rw[Oper.semAt_eq _ _ _ (by intro c hc;rw[hop] at hc;cases hc),hrunop,Oper.uponIn_round]
 refine⟨fun e=>(by cases e),?_⟩
 refine roundIn_of_wpIn (F:={Fence.wide with round:=ro}) trivial ?_
 let C:Ctx:=⟨P,n,some r,[],w,F,μ,σ,hh.out⟩
 have hrel:Rel (C.at []) ⟨p,σ⟩ {tmps:=(ps.zip (xs.toList.map a.eval)).foldl (fun tmps (t,a)=>tmps.setIfInBounds t a) ⟨vs⟩,defers:=[]} w:=
  ⟨F,μ,hh,l3,Step.refl ..,Fr.refl ..,fun _ _ h=>.inl h,l2,rfl⟩
 refine wpIn_mono (hasg C rfl rfl _ w hrel) fun ex a1' w1 q=>?_
 cases ex with
 |exit i=>cases q.1
 |ret=>cases q.1
 |panic ch=>obtain⟨_,_,_,_,h1,_⟩:=q;cases h1
 |goto l=>exact q.elim
 |outgrown=>exact q.elim
 |normal=>
  obtain⟨_,F1,μ1,hq⟩:=q
  obtain⟨r1,dx1,fn1,vs1,n1,n2,n3,n4⟩:=dE hq.hr ho1
  have hr1':r1=r:=by
   have:=hq.step.othsame id _ _ ho
   rw[n1] at this
   rw[show C.μ0=μ from rfl,k1] at this
   exact AX.inj this
  subst hr1'
  obtain⟨t1,t2,t3⟩:=dA (fn:=fn1) (st':=.busy) (q':=q1) hq.hr ho1 n1 n2 n4
  refine⟨_,run_beginRound n3 rfl,?_⟩
  have hrel2:Rel (C.at dd1) ⟨st1.env,st1.ob.set id (.oth (.loop .busy q1 f1 p1 a1 b1 d1) e1)⟩ a1' _:=
   ⟨F1,μ1,t1,fun t=>(hq.env t).step t2,hq.step.trans t2,hq.fr.trans t3,hq.col,hq.size,bS.step t2 hq.defers⟩
  refine wpIn_mono (hbo C rfl rfl _ _ hrel2) fun ex a2' w2 q=>?_
  have fin:∀{F2:Nat→Nat→Prop}{μ2:Nat→Option Nat}{a2':Act}{w2:World},Rel0 (C.at dd2) F2 μ2 st2 a2' w2→
    ∃v w',(Instr.endRound r1 j).run P w2=.ok v w'∧K' (a.put o.dst v) w':=by
   intro F2 μ2 a2' w2 hq2
   obtain⟨r2,dx2,fn2,vs2,m1,m2,m3,m4⟩:=dE hq2.hr ho2
   have hr2':r2=r1:=by
    have:=hq2.step.othsame id _ _ ho
    rw[m1] at this
    rw[show C.μ0=μ from rfl,k1] at this
    exact AX.inj this
   subst hr2'
   obtain⟨u1,u2,u3⟩:=dA (fn:=fn2) (st':=if j.isNone then .ready else .done) (q':=j) hq2.hr ho2 m1 m2 m4
   exact⟨_,_,run_endRound j m3,hk _ _ F2 μ2 ⟨u1,hq2.step.trans u2,hq2.fr.trans u3,hq2.col⟩ .bool⟩
  cases ex with
  |normal=>obtain⟨rfl,F2,μ2,hq2⟩:=q;cases hj;exact fin hq2
  |ret=>obtain⟨rfl,F2,μ2,hq2⟩:=q;cases hj;exact fin hq2
  |exit i=>obtain⟨rfl,F2,μ2,hq2⟩:=q;cases hj;exact fin hq2
  |panic ch=>obtain⟨d,v,F2,μ2,rfl,_⟩:=q;cases hj
  |goto l=>exact q.elim
  |outgrown=>exact q.elim
def pN (L:Lay) (rs:List ResultVar) (env:List (Nat×DV)) (out:Out) (σ':List Ob):List DD→Md→List Ob→Prop
 | [],.ret,σ=>σ'=σ∧∃d,aF L ⟨env,σ⟩ rs=some d∧out=.ret d
 | [],.pan d,σ=>out=.pan d∧σ'=σ
 |.col D::r,md,σ=>σ[D]?=some (.oth .defd [])∧pN L rs env out σ' r md (σ.set D (.oth .defd [.bool true]))
 |_,_,_=>False
def LvS (C:Ctx) (dd:List DD) (E:List (Nat×DV)) (σ:List Ob) (a:Act) (w:World) (u:FrameMode) (md:Md):Prop:=
 ∃F μ,Rel0 (C.at dd) F μ ⟨E,σ⟩ a w∧fX w F μ σ u md∧∀d,md≠ .rcv d
theorem om{L:Lay}{C:Ctx} (hL:af C.P L){fn:Func}{env:List (Nat×DV)}{out:Out}{σ':List Ob}:∀(dd:List DD) (md:Md) (σ:List Ob),pN L fn.results.toList env out σ' dd md σ→
  ∀(a:Act) (w:World) (u:FrameMode),LvS C dd env σ a w u md→LeavesInM Fence.wide 0 C.P fn a.tmps (di out σ' C.w0 C.F0 C.μ0 C.σ0) a.defers u w
 | [],md,σ,h=>by
  rintro a w u ⟨F,μ,hr,hmd,hne⟩
  have hd':a.defers=[]:=hr.defers
  rw[hd']
  cases md with
  |ret=>
   obtain rfl:u=.returning:=hmd
   obtain⟨rfl,d,hd,rfl⟩:=h
   obtain⟨v,r1,r2⟩:=bZ (C:=C.at []) hL hr (fn:=fn) hd
   exact⟨v,r1,F,μ,v,⟨hr.hr,hr.step,hr.fr,hr.col⟩,rfl,r2⟩
  |pan d=>
   obtain⟨v,rfl,hrep⟩:=hmd
   obtain⟨rfl,rfl⟩:=h
   exact⟨F,μ,v,⟨hr.hr,hr.step,hr.fr,hr.col⟩,rfl,hrep⟩
  |rcv d=>exact absurd rfl (hne d)
 |.fn f caps::r,md,σ,h=>by cases md<;>exact h.elim
 |.col D::r,md,σ,h=>by
  rintro a w u ⟨F,μ,hr,hmd,hne⟩
  have h':σ[D]?=some (.oth .defd [])∧pN L fn.results.toList env out σ' r md (σ.set D (.oth .defd [.bool true])):=by cases md<;>exact h
  obtain⟨ho,h'⟩:=h'
  obtain⟨d,ds,e1,⟨b,es,g1,g2,g3⟩,e3⟩:=hr.defers
  obtain⟨_,vs,hvs,hlen,_⟩:=hr.hr.obj D _ ho
  obtain⟨b',y,q1,q2,q3⟩:=hvs
  rw[g1] at q1;cases q1
  have hv0:vs=[]:=by
   cases vs with
   |nil=>rfl
   |cons v r=>simp at hlen
  have hy:=q3 hv0
  subst hy
  obtain⟨t1,t2,t3⟩:=hr.hr.turn (id:=D) (b:=b) (t:=.defd) (t':=.defd) (ds:=[]) (ds':=[.bool true]) (.deferred none) ho g1 rfl (fun hst hb=>⟨fun i hi=>by simp[OT.refs] at hi,[.bool true],⟨b,none,g1,hb,fun e=>by cases e⟩,rfl,fun i d v hd hv=>by
   rcases i with _|i<;>simp at hd hv
   subst hd;subst hv;exact .bool⟩)
  have hu:u≠ .run:=by
   cases md with
   |ret=>rw[show u=.returning from hmd];simp
   |pan d=>obtain⟨v,e,_⟩:=hmd;rw[e];simp
   |rcv d=>exact absurd rfl (hne d)
  subst g3
  rw[e1]
  refine⟨hu,.inl ⟨b,_,rfl,run_takeDeferred q2,om hL r md _ h' {a with defers:=ds} _ u ⟨F,μ,⟨t1,fun t=>(hr.env t).step t2,hr.step.trans t2,hr.fr.trans t3,hr.col,hr.size,bS.step t2 e3⟩,hmd.step t2,hne⟩⟩⟩
theorem mI{P:Program}{L:Lay} (hL:af P L){f:Nat}{fn:Func}{c:Code} (hf:P.funcs[f]?=some fn) (hb:fn.body=some c) (hname:(fn.name== "runtime.NumGoroutine")=false){args:List DV} (hlen:args.length≤fn.ntmps){σ σ':List Ob}{out:Out}{e:XE}{st1:St}{dd1:List DD}{md:Md}
  (hD:∀C:Ctx,C.P=P→C.n=fn.ntmps→C.rd=none→C.σ0=σ→gF σ→aJ C c ⟨bL 0 args,σ⟩ [] e st1 dd1) (he:xw e=some md) (hlv:pN L fn.results.toList st1.env out σ' dd1 md st1.ob):Ok P f args σ out σ':=by
 refine⟨fun vs w=>?_,fun w F μ vs hr hv=>?_⟩
 ·have hn':¬ fn.name= "runtime.NumGoroutine" :=by simpa using hname
  simp[callFunc,program,Sem.run,hf,hn',hb]
 ·let C:Ctx:=⟨P,fn.ntmps,none,[],w,F,μ,σ,hr.out⟩
  have hwp:=hD C rfl rfl rfl rfl hr.fixed _ w ⟨F,μ,fK hr hv hlen⟩
  refine callsIn_wide.1 (callsIn_of_wp_marks hf hb trivial (n:=0) (wpIn_mono hwp fun ex a w' hq=>?_))
  have lv:∀u,LvS C dd1 st1.env st1.ob a w' u md→LeavesInM Fence.wide 0 P fn a.tmps (di out σ' w F μ σ) a.defers u w':=
   fun u h=>om (C:=C) hL dd1 md st1.ob hlv a w' u h
  cases ex with
  |normal=>obtain⟨rfl,F',μ',hq⟩:=hq;cases he;exact lv .returning ⟨F',μ',hq,rfl,fun d h=>by cases h⟩
  |ret=>obtain⟨rfl,F',μ',hq⟩:=hq;cases he;exact lv .returning ⟨F',μ',hq,rfl,fun d h=>by cases h⟩
  |exit i=>obtain⟨rfl,_⟩:=hq;cases he
  |panic ch=>
   obtain⟨d,v,F',μ',rfl,rfl,h1,h2⟩:=hq
   cases he
   exact lv _ ⟨F',μ',h1,⟨v,rfl,h2⟩,fun d h=>by cases h⟩
  |goto l=>exact hq.elim
  |outgrown=>exact hq.elim
inductive Cl (c:Nat) (K:Nat→Prop):DV→Prop
 |int {k n}:Cl c K (.int k n)
 |bool {b}:Cl c K (.bool b)
 |str {s}:Cl c K (.str s)
 |vec {c' k xs} (h:c'≠c) (hx:∀x∈xs,Cl c K x):Cl c K (.vec c' k xs)
 |agg{cs:List DV} (h:∀x∈cs,Cl c K x):Cl c K (.agg cs)
 |tup{cs:List DV} (h:∀x∈cs,Cl c K x):Cl c K (.tup cs)
 |ptr {id g j o} (h:¬ K id):Cl c K (.ptr id g j o)
 |vptr {c'}{cs:List DV} (h:c'≠c) (hx:∀x∈cs,Cl c K x):Cl c K (.vptr c' cs)
 |sl {id g off len} (h:¬ K id):Cl c K (.sl id g off len)
 |nils:Cl c K .nils
 |nilp:Cl c K .nilp
 |fn {f}{cs:List DV} (h:∀x∈cs,Cl c K x):Cl c K (.fn f cs)
 |nilf:Cl c K .nilf
 |iface {t x} (h:Cl c K x):Cl c K (.iface t x)
 |nili:Cl c K .nili
 |emp:Cl c K .emp
 |undef:Cl c K .undef
 |skip:Cl c K .skip
theorem Cl.cells{c:Nat}{K:Nat→Prop}{x:DV} (h:Cl c K x){i:Nat}{d:DV} (hd:x.cells[i]?=some d):Cl c K d:=by
 have one:∀{y:DV},Cl c K y→[y][i]?=some d→Cl c K d:=by
  intro y hy e
  cases i with
  |zero=>simp only[AY,AX.injEq] at e;rw[←e];exact hy
  |succ i=>simp at e
 cases h with
 |agg h=>exact h d (AM hd)
 |int=>exact one .int hd
 |bool=>exact one .bool hd
 |str=>exact one .str hd
 |vec h hx=>exact one (.vec h hx) hd
 |tup h=>exact one (.tup h) hd
 |ptr h=>exact one (.ptr h) hd
 |vptr h hx=>exact one (.vptr h hx) hd
 |sl h=>exact one (.sl h) hd
 |nils=>exact one .nils hd
 |nilp=>exact one .nilp hd
 |fn h=>exact one (.fn h) hd
 |nilf=>exact one .nilf hd
 |iface h=>exact one (.iface h) hd
 |nili=>exact one .nili hd
 |emp=>exact one .emp hd
 |undef=>exact one .undef hd
 |skip=>exact one .skip hd
theorem Rep.back{w:World}{F F3:Nat→Nat→Prop}{μ μ3:Nat→Option Nat}{σ σ3:List Ob}{c:Nat}{K:Nat→Prop} (hF:∀c' b,c'≠c→F c' b→F3 c' b)
  (hσ:∀(id t k:Nat) (xs:List DV),¬ K id→σ[id]?=some (.arr t k xs)→σ3[id]?=some (.arr t k xs)∧μ3 id=μ id){d:DV}{v:Value} (h:Rep w F μ σ d v):Cl c K d→Rep w F3 μ3 σ3 d v:=by
 induction h with
 |int=>intro _;exact .int
 |bool=>intro _;exact .bool
 |str=>intro _;exact .str
 |vec u hc hm ha hk hr ih=>
  intro hl
  cases hl with
  |vec h hx=>
   refine .vec u hc hm (fun h0=>?_) hk (fun j i x d hj hi=>ih j i x d hj hi ((hx x (AM hj)).cells hi))
   obtain⟨a,e,hFa,hcell⟩:=ha h0
   exact⟨a,e,hF _ _ h hFa,hcell⟩
 |agg hl h ih=>intro hc;cases hc with|agg h'=>exact .agg hl fun i d v hd hv=>ih i d v hd hv (h' d (AM hd))
 |tup hl h ih=>intro hc;cases hc with|tup h'=>exact .tup hl fun i d v hd hv=>ih i d v hd hv (h' d (AM hd))
 |ptr h=>
  intro hc
  cases hc with
  |ptr hk=>
   obtain⟨t,k,xs,ho,hg,hb⟩:=h
   obtain⟨e1,e2⟩:=hσ _ _ _ _ hk ho
   exact .ptr ⟨t,k,xs,e1,hg,by rw[e2];exact hb⟩
 |vptr u hFa hu hr ih=>
  intro hc
  cases hc with
  |vptr h hx=>exact .vptr u (hF _ _ h hFa) hu fun i d hd=>ih i d hd (hx d (AM hd))
 |sl h=>
  intro hc
  cases hc with
  |sl hk=>
   obtain⟨t,k,xs,ho,h1,h2,h3,h4,hb⟩:=h
   obtain⟨e1,e2⟩:=hσ _ _ _ _ hk ho
   exact .sl ⟨t,k,xs,e1,h1,h2,h3,h4,by rw[e2];exact hb⟩
 |slx h=>intro hc;cases hc
 |nils=>intro _;exact .nils
 |nilp=>intro _;exact .nilp
 |fn hl h ih=>intro hc;cases hc with|fn h'=>exact .fn hl fun i d v hd hv=>ih i d v hd hv (h' d (AM hd))
 |nilf=>intro _;exact .nilf
 |iface h ih=>intro hc;cases hc with|iface h'=>exact .iface (ih h')
 |nili=>intro _;exact .nili
 |mp _ _=>intro hc;cases hc
 |it _ _=>intro hc;cases hc
 |yld _ _=>intro hc;cases hc
 |emp=>intro _;exact .emp
 |undef=>intro _;exact .undef
 |skip=>intro _;exact .skip
section
inductive Fz (O:List Ob) (c:Nat):DV→DV→Prop
 |low {d} (h:Low 0 d):Fz O c d d
 |nil {k}:Fz O c .nils (.vec c k [])
 |emp {k}:Fz O c .emp (.vec c k [])
 |agg{xs ys:List DV} (hl:xs.length=ys.length) (h:∀(i:Nat) (x y:DV),xs[i]?=some x→ys[i]?=some y→Fz O c x y):Fz O c (.agg xs) (.agg ys)
 |tup{xs ys:List DV} (hl:xs.length=ys.length) (h:∀(i:Nat) (x y:DV),xs[i]?=some x→ys[i]?=some y→Fz O c x y):Fz O c (.tup xs) (.tup ys)
 |sl{id off l t k:Nat}{xs ys:List DV} (ho:O[id]?=some (.arr t k xs)) (hl:ys.length=l)
  (hk:∀(j:Nat) (x y:DV),j<l→xs[off+j]?=some x→ys[j]?=some y→x.cells.length=y.cells.length)
  (h:∀(j i:Nat) (x y d D:DV),j<l→xs[off+j]?=some x→ys[j]?=some y→x.cells[i]?=some d→y.cells[i]?=some D→Fz O c d D):Fz O c (.sl id xs.length off l) (.vec c k ys)
section
variable{w:World}{F F':Nat→Nat→Prop}{μ μ':Nat→Option Nat}{O σ0:List Ob}{c:Nat}
theorem Rep.low1 (hF:∀c b,F c b→F' c b){σ σ':List Ob}{d:DV}{v:Value} (h:Rep w F μ σ d v):Low 0 d→Rep w F' μ' σ' d v:=by
 induction h with
 |int=>intro _;exact .int
 |bool=>intro _;exact .bool
 |str=>intro _;exact .str
 |vec u hc hm ha hk hr ih=>
  intro hl
  exact .vec u hc hm (fun h0=>by obtain⟨a,f1,f2,f3⟩:=ha h0;exact⟨a,f1,hF _ _ f2,f3⟩) hk fun j i x d hx hd=>ih j i x d hx hd (cI ((iD _ _ _).1 hl x (AM hx)) hd)
 |agg hl h ih=>intro h0;exact .agg hl fun i d v hd hv=>ih i d v hd hv ((aH _).1 h0 d (AM hd))
 |tup hl h ih=>intro h0;exact .tup hl fun i d v hd hv=>ih i d v hd hv ((eh _).1 h0 d (AM hd))
 |ptr h=>intro h0;exact absurd ((fm _ _ _ _).1 h0) (by omega)
 |vptr u hF' hu hr ih=>intro h0;exact .vptr u (hF _ _ hF') hu fun i d hd=>ih i d hd ((mR _ _).1 h0 d (AM hd))
 |sl h=>intro h0;exact absurd ((da _ _ _ _).1 h0) (by omega)
 |slx h=>intro h0;exact absurd ((pf _ _ _ _ _).1 h0) (by omega)
 |nils=>intro _;exact .nils
 |nilp=>intro _;exact .nilp
 |fn hl h ih=>intro h0;exact .fn hl fun i d v hd hv=>ih i d v hd hv ((pj _ _).1 h0 d (AM hd))
 |nilf=>intro _;exact .nilf
 |iface h ih=>intro h0;exact .iface (ih ((dz _ _).1 h0))
 |nili=>intro _;exact .nili
 |mp h ho=>intro h0;exact absurd ((pi _).1 h0) (by omega)
 |it h ho=>intro h0;exact absurd ((sQ _).1 h0) (by omega)
 |yld h ho=>intro h0;exact absurd ((pe _).1 h0) (by omega)
 |emp=>intro _;exact .emp
 |undef=>intro _;exact .undef
 |skip=>intro _;exact .skip
theorem Fz.rep (hr:HR w F μ O) (hF:∀c b,F c b→F' c b) (hμ:∀id b,μ id=some b→F' c b){d D:DV} (h:Fz O c d D):∀v,Rep w F μ O d v→Rep w F' μ' σ0 D v:=by
 induction h with
 |low h=>intro v hv;exact hv.low1 hF h
 |nil=>
  intro v hv
  cases hv
  exact .vec (A:=none) (cap:=0) (fun _ _=>undef) (by simp) (by simp) (fun h=>by simp at h) (fun x hx=>by simp at hx) (fun j i x d hx=>by simp at hx)
 |emp=>
  intro v hv
  cases hv
  exact .vec (cap:=0) (fun _ _=>undef) (by simp) (by simp) (fun h=>by simp at h) (fun x hx=>by simp at hx) (fun j i x d hx=>by simp at hx)
 | @agg xs ys hl h ih=>
  intro v hv
  cases hv with
  |agg hl' hh=>
   refine .agg (hl.symm.trans hl') fun i d v hd hv=>?_
   have hi:=(AH.1 hd).1
   have hx:xs[i]?=some (xs[i]'(by omega)):=AI _
   exact ih i _ _ hx hd v (hh i _ _ hx hv)
 | @tup xs ys hl h ih=>
  intro v hv
  cases hv with
  |tup hl' hh=>
   refine .tup (hl.symm.trans hl') fun i d v hd hv=>?_
   have hi:=(AH.1 hd).1
   have hx:xs[i]?=some (xs[i]'(by omega)):=AI _
   exact ih i _ _ hx hd v (hh i _ _ hx hv)
 | @sl id off l t k xs ys ho hlen hk h ih=>
  intro v hv
  cases hv with
  | @sl _ _ _ _ A cap hs=>
   obtain⟨t2,k2,xs2,ho2,q1,q2,q3,q4,q5⟩:=hs
   rw[ho] at ho2
   cases ho2
   obtain⟨hk1,hor⟩:=hr.obj _ _ ho
   rcases q5 rfl with⟨g0,rfl,rfl,hmu⟩|⟨b,cur,fr,hmu,hh,hsz,hAs,hA⟩
   ·have:l=0:=by omega
    subst this
    have hy:ys=[]:=B1.1 hlen
    subst hy
    exact .vec (A:=none) (cap:=0) (fun _ _=>undef) (by simp) (by simp) (fun h=>by simp at h) (fun x hx=>by simp at hx) (fun j i x d hx=>by simp at hx)
   ·rcases hor with⟨rfl,hmu'⟩|⟨b',cur',fr',hmu',hh',hfr',hcells⟩
    ·rw[hmu] at hmu';cases hmu'
    rw[hmu] at hmu';cases hmu'
    rw[hh] at hh';cases hh'
    have:=Rep.vec (w:=w) (F:=F') (μ:=μ') (σ:=σ0) (c:=c) (k:=k) (xs:=ys) (A:=A) (cap:=cap) (fun j i=>(cur[(off+j)*k+i]?).getD undef) (by omega) q4 (fun h0=>by
     refine⟨_,hA (.inl (by omega)),hμ _ _ hmu,fun j i hj hi=>?_⟩
     have hxx:xs[off+j]?=some (xs[off+j]'(by omega)):=AI _
     have hxk:=hk1 _ (AM hxx)
     obtain⟨vv,g1,g2⟩:=hcells (off+j) i _ _ hxx (AI (show i<_ by rw[hxk];exact hi))
     rw[g1]
     rw[cj]
     unfold World.cell?
     rw[hh]
     dsimp only
     rw[show off*k+(j*k+i)=(off+j)*k+i by rw[Bx];omega,g1]
     rfl) (fun y hy=>by
     obtain⟨j,hj⟩:=Cc hy
     have hjl:=(AH.1 hj).1
     have hxx:xs[off+j]?=some (xs[off+j]'(by omega)):=AI _
     rw[←hk j _ _ (by omega) hxx hj]
     exact hk1 _ (AM hxx)) (fun j i y D hy hD=>by
     have hjl:=(AH.1 hy).1
     have hil:=(AH.1 hD).1
     have hxx:xs[off+j]?=some (xs[off+j]'(by omega)):=AI _
     have hlc:=hk j _ _ (by omega) hxx hy
     have hd:(xs[off+j]'(by omega)).cells[i]?=some ((xs[off+j]'(by omega)).cells[i]'(by omega)):=AI _
     obtain⟨vv,g1,g2⟩:=hcells (off+j) i _ _ hxx hd
     rw[g1]
     exact ih j i _ _ _ _ (by omega) hxx hy hd hD vv g2)
    rwa [hlen] at this
end
structure OkE (P:Program) (f:FuncId) (args:List DV) (σ:List Ob) (Q:Out→List Ob→Prop):Prop where
 enters:∀(vs:Array Value) (w:World),(callFunc f vs).run P w=.ok (.enter f vs) w
 calls:∀(w:World) (F:Nat→Nat→Prop) (μ:Nat→Option Nat) (vs:List Value),HR w F μ σ→bF w F μ σ args vs→Calls P f ⟨vs⟩ w fun e w'=>∃o σ',Q o σ'∧di o σ' w F μ σ e w'
theorem Ok.toE{P:Program}{f:FuncId}{args:List DV}{σ σ':List Ob}{o:Out}{Q:Out→List Ob→Prop} (h:Ok P f args σ o σ') (hq:Q o σ'):OkE P f args σ Q:=
 ⟨h.enters,fun w F μ vs hr hv=>(h.calls w F μ vs hr hv).mono fun e w' he=>⟨o,σ',hq,he⟩⟩
theorem OkE.mono{P:Program}{f:FuncId}{args:List DV}{σ:List Ob}{Q Q':Out→List Ob→Prop} (h:OkE P f args σ Q) (hq:∀o σ',Q o σ'→Q' o σ'):OkE P f args σ Q':=
 ⟨h.enters,fun w F μ vs hr hv=>(h.calls w F μ vs hr hv).mono fun e w' he=>by obtain⟨o,σ',h1,h2⟩:=he;exact⟨o,σ',hq _ _ h1,h2⟩⟩
theorem OkE.ok{P:Program}{f:FuncId}{args:List DV}{σ σ':List Ob}{o:Out}{Q:Out→List Ob→Prop} (h:OkE P f args σ Q) (hq:∀o2 σ2,Q o2 σ2→o2=o∧σ2=σ'):Ok P f args σ o σ':=
 ⟨h.enters,fun w F μ vs hr hv=>(h.calls w F μ vs hr hv).mono fun e w' he=>by obtain⟨o2,σ2,h1,h2⟩:=he;obtain⟨rfl,rfl⟩:=hq _ _ h1;exact h2⟩
theorem OkE.thaw{P:Program}{f:FuncId}{args:List DV}{c:Nat}{R:DV→Prop} (h:OkE P f args [] fun o O=>∃d D,o=.ret d∧Fz O c d D∧R D) (ha:∀x∈args,Low 0 x) (σ:List Ob):
  OkE P f args σ fun o σ'=>σ'=σ∧∃D,o=.ret D∧R D:=by
 refine⟨h.enters,fun w F μ vs hr hv=>?_⟩
 have hv0:bF w F (fun _=>none) [] args vs:=⟨hv.1,fun i d v hd hv'=>(hv.2 i d v hd hv').low0 (ha d (AM hd))⟩
 refine(h.calls w F _ vs hr.empty hv0).mono fun e w' he=>?_
 obtain⟨o,O,⟨d,D,rfl,hz,hR⟩,F1,μ1,v,haf,rfl,hrep⟩:=he
 have hk:∀b,b<w.heap.size→w'.heap[b]?=w.heap[b]?:=fun b hb=>haf.fr.keep b hb fun _ e=>by cases e
 have hnew:∀id b,μ1 id=some b→w.heap.size≤b:=fun id b e=>by
  rcases haf.fr.new id b e with e|e
  ·cases e
  ·exact e
 obtain⟨k1,k2⟩:=hr.keepAll (F':=fun c' b=>F1 c' b∨(c'=c∧∃id,μ1 id=some b)) hk (fun c b h=>.inl (haf.step.col c b h)) (fun c' b h=>by
  rcases h with h|⟨_,id,h⟩
  ·rcases haf.col c' b h with h2|h2
   ·exact .inl h2
   ·exact .inr ⟨h2,(haf.hr.col c' b h).1⟩
  ·exact .inr ⟨hnew id b h,haf.hr.lt id b h⟩) haf.fr.size
 refine⟨.ret D,σ,⟨rfl,D,rfl,hR⟩,_,μ,v,⟨k1,k2,⟨haf.fr.os,haf.fr.tape,haf.fr.output,haf.fr.size,fun b hb _=>hk b hb,fun id b e=>.inl e,haf.fr.drawn⟩,fun c' b h=>?_⟩,rfl,?_⟩
 ·rcases h with h|⟨_,id,h⟩
  ·exact haf.col c' b h
  ·exact .inr (hnew id b h)
 ·exact hz.rep haf.hr (fun c b h=>.inl h) (fun id b e=>.inr ⟨rfl,id,e⟩) v hrep
theorem Ok.thaw{P:Program}{f:FuncId}{args:List DV}{c:Nat}{d D:DV}{O:List Ob} (h:Ok P f args [] (.ret d) O) (hz:Fz O c d D) (ha:∀x∈args,Low 0 x) (σ:List Ob):Ok P f args σ (.ret D) σ:=
 (OkE.thaw (R:=fun x=>x=D) (h.toE ⟨d,D,rfl,hz,rfl⟩) ha σ).ok fun o σ' ⟨e,D',e1,e2⟩=>by subst e2;exact⟨e1,e⟩
theorem OkE.of_body{P:Program}{L:Lay} (hL:af P L){f:FuncId}{fn:Func}{c:Code}{args:List DV}{σ:List Ob}{Q:Out→List Ob→Prop} (hf:P.funcs[f]?=some fn) (hb:fn.body=some c)
  (hname:(fn.name== "runtime.NumGoroutine")=false) (hlen:args.length≤fn.ntmps)
  (h:∀C:Ctx,C.P=P→C.n=fn.ntmps→C.σ0=σ→gF σ→C.dd=[]→SW C c ⟨bL 0 args,σ⟩ fun e st=>∃out σ',Q out σ'∧lE C L fn.results.toList out σ' e st):OkE P f args σ Q:=by
 refine⟨fun vs w=>?_,fun w F μ vs hr hv=>?_⟩
 ·have hn:¬ fn.name= "runtime.NumGoroutine" :=by simpa using hname
  simp[callFunc,program,Sem.run,hf,hn,hb]
 ·let C:Ctx:=⟨P,fn.ntmps,none,[],w,F,μ,σ,hr.out⟩
  refine calls_of_wp hf hb (wp_mono ((wpIn_wide (n:=0)).1 (h C rfl rfl rfl hr.fixed rfl _ w ⟨F,μ,hr,fun t=>?_,Step.refl ..,Fr.refl ..,fun _ _ h=>.inl h,?_,rfl⟩)) fun e a w' hq=>?_)
  ·show Rep w F μ σ (lk (bL 0 args) t) _
   rw[db,if_pos (BD t),B6]
   rcases Bp t args.length with ht|ht
   ·rw[AI ht,A8]
    have ht':t<vs.length:=by rw[←hv.1];exact ht
    have:((⟨vs⟩:Array Value)++BI (fn.ntmps-(⟨vs⟩:Array Value).size) undef).getD t undef=vs[t]:=by
     rw[A0,BO (by simpa using ht')]
     simp[ht']
    rw[this]
    exact hv.2 t _ _ (AI ht) (AI ht')
   ·rw[BA ht]
    exact .undef
  ·show((⟨vs⟩:Array Value)++BI (fn.ntmps-(⟨vs⟩:Array Value).size) undef).size=fn.ntmps
   have:=hv.1
   simp;omega
  ·have wk:∀{F' μ' st},Rel0 C F' μ' st a w'→Rel0 C F' μ' ⟨[],st.ob⟩ a w':=fun h=>⟨h.hr,fun _=>.undef,h.step,h.fr,h.col,h.size,h.defers⟩
   have fin:∀st,(∃out σ',Q out σ'∧∃st' d d',ai C st st'∧aF L st' fn.results.toList=some d∧ag C d st'.ob d' σ'∧out=.ret d')→Rel C st a w'→
     a.defers=[]∧∃v,(results fn a.tmps).run P w'=.ok v w'∧∃o σ',Q o σ'∧di o σ' w F μ σ (.returned v) w':=by
    rintro st ⟨out,σ',hQ,st',d,d',g1,g3,g4,rfl⟩ hrel
    obtain⟨F',μ',h'⟩:=g1 a w' hrel
    obtain⟨v,r1,r2⟩:=bZ (C:=C) hL h' g3
    obtain⟨F'',μ'',h'',r3⟩:=g4 a w' v F' μ' (wk h') r2
    exact⟨h'.defers,v,r1,_,_,hQ,F'',μ'',v,⟨h''.hr,h''.step,h''.fr,h''.col⟩,rfl,r3⟩
   cases e with
   |normal=>obtain⟨st,hk,hrel⟩:=hq;exact fin st hk hrel
   |ret=>obtain⟨st,hk,hrel⟩:=hq;exact fin st hk hrel
   |exit i=>obtain⟨st,⟨_,_,_,hk⟩,_⟩:=hq;exact hk.elim
   |goto l=>exact hq.elim
   |panic ch=>
    obtain⟨st,d,v,F',μ',⟨out,σ',hQ,d',g4,rfl⟩,rfl,h',r2⟩:=hq
    obtain⟨F'',μ'',h'',r3⟩:=g4 a w' v F' μ' (wk h') r2
    exact⟨h'.defers,_,_,hQ,F'',μ'',v,⟨h''.hr,h''.step,h''.fr,h''.col⟩,rfl,r3⟩
   |outgrown=>exact hq.elim
end
theorem aa.eqNil{C:Ctx}{L:Lay} (hL:af C.P L){ops:Array Oper}{rest:List Oper}{o:Oper}{env:List (Nat×DV)}{ob:List Ob}{K:XE→St→Prop}{x y:Operand}{t t' c k:Nat}{xs:List DV}
  (hd:cm C.n [o]=true) (hg:gd ops env o=some true) (ho:o.op=.binOp .eql t x y t') (ht:∃ti e,L t=some ti∧ti.d=.slice e) (hx:ev env x=.vec c k xs) (hy:ev env y=.nils)
  (h:∀b,(0<xs.length→b=false)→aa C ops rest ⟨upo env o.dst (.bool b),ob⟩ K):aa C ops (o::rest) ⟨env,ob⟩ K:=by
 replace hd:∀t,o.dst=some t→t<C.n:=fun t ht=>by
  simp only[cm,Cv,ht,Do,Dc,decide_eq_true_eq] at hd
  exact hd
 rintro a w ⟨F,μ,hr⟩
 refine wpListIn_step fun K' hK=>?_
 rw[if_pos (aK hr hg)]
 have hv:=bb hr x
 have hv2:=bb hr y
 rw[hx] at hv
 rw[hy] at hv2
 obtain⟨A,cap,hev,hA⟩:∃A cap,a.eval x=.slice A xs.length cap∧(0<xs.length→A.isNone=false):=by
  generalize a.eval x=v at hv
  cases hv with
  |vec u hc hm ha hk hr=>exact⟨_,_,rfl,fun h0=>by obtain⟨a,rfl,_⟩:=ha h0;rfl⟩
 have hev2:a.eval y=.slice none 0 0:=by
  generalize a.eval y=v at hv2
  cases hv2 with
  |nils=>rfl
 obtain⟨ti,e,ht,hte⟩:=ht
 obtain⟨desc,hu,hds⟩:=(hL _ _ ht).und
 rw[hte] at hds
 cases hds
 have he:(Op.equal t (.slice A xs.length cap) (.slice none 0 0)).run C.P w=.ok A.isNone w:=by
  have key:∀n,(Op.equalIn (n+1) t (.slice A xs.length cap) (.slice none 0 0)).run C.P w=.ok A.isNone w:=fun n=>by
   simp only[Op.equalIn,Sem.run_bind,run_underlying hu,Result.andThen_ok]
   cases A<;>rfl
  exact key 9999
 have hgd:(eqGuard .eql t x y (.slice A xs.length cap) (.slice none 0 0)).run C.P w=.ok () w:=rfl
 have hrun:(do eqGuard .eql t x y (a.eval x) (a.eval y);binOp .eql t (a.eval x) (a.eval y):Sem Value).run C.P w=.ok (.bool A.isNone) w:=by
  rw[hev,hev2,Sem.run_bind,hgd,Result.andThen_ok]
  simp[binOp,he]
 have hex:(execOp a.eval o).run C.P w=.ok (.value (.bool A.isNone)) w:=by
  simp only[execOp,ho]
  rw[Sem.run_bind,hrun]
  rfl
 refine bR (.inr fun c hc=>by rw[ho] at hc;cases hc) ?_
 unfold Oper.wp
 rw[hex]
 exact hK _ _ (h A.isNone (fun h0=>hA h0) _ _ ⟨F,μ,hr.hr,cg (C:=C) (st:=⟨env,ob⟩) hr.size hr.env o.dst hd .bool,hr.step,hr.fr,hr.col,by rw[bG];exact hr.size,by rw[a8];exact hr.defers⟩)
theorem ai.newNilIn (m i e ke:Nat){C:Ctx}{env:List (Nat×DV)}{ob:List Ob}{t k:Nat}{cs:List DV} (ho:ob[m]?=some (.arr t k [.agg cs])) (hc:cs[i]?=some .nils):
  ai C ⟨env,ob⟩ ⟨env,ob.set m (.arr t k [.agg (cs.set i (.sl ob.length 0 0 0))])++[.arr e ke []]⟩:=by
 rintro a w ⟨F,μ,h⟩
 obtain⟨h1,h2⟩:=h.hr.pushNil e ke
 have hml:=(AH.1 ho).1
 have hil:=(AH.1 hc).1
 have ho':(ob++[Ob.arr e ke []])[m]?=some (.arr t k [.agg cs]):=by rw[AJ hml];exact ho
 obtain⟨hk,hor⟩:=h1.obj _ _ ho'
 rcases hor with⟨he,_⟩|⟨b,cur,fr,hb,hh,hfr,hcells⟩
 ·cases he
 have hnew:∀v,Rep w F μ (ob++[.arr e ke []]) .nils v→Rep w F μ (ob++[.arr e ke []]) (.sl ob.length 0 0 0) v:=by
  intro v hv
  cases hv
  exact .sl ⟨e,ke,[],by simp,by omega,by simp,by omega,by simp[maxLen],fun _=>.inl ⟨rfl,rfl,rfl,h.hr.out _ (AU _)⟩⟩
 have hkc:=hk (.agg cs) (by simp)
 simp only[DV.cells] at hkc
 obtain⟨p1,p2,p3⟩:=h1.write (ys:=[.agg (cs.set i (.sl ob.length 0 0 0))]) (cur':=cur) ho' hb hh hfr rfl (AU _) (fun y hy=>by
  rw[BX.1 hy]
  simpa[DV.cells] using hkc) (fun j q y d hy hd=>by
  match j,hy with
  |0,hy=>
   simp only[AY,AX.injEq] at hy
   subst hy
   simp only[DV.cells] at hd
   rw[B2] at hd
   split at hd
   ·rename_i e1
    subst e1
    cases hd
    obtain⟨v,g1,g2⟩:=hcells 0 i (.agg cs) .nils rfl hc
    exact⟨v,g1,hnew v g2⟩
   ·exact hcells 0 q (.agg cs) d rfl hd
  |j+1,hy=>simp at hy)
 rw[ku hh,Bo _ _ hml] at p1 p2
 exact⟨F,μ,p1,fun t=>((h.env t).step h2).step p2,(h.step.trans h2).trans p2,h.fr,h.col,h.size,(h.defers.step h2).step p2⟩
theorem ai.giveAt (c s n:Nat){C:Ctx}{env:List (Nat×DV)}{σ X:List Ob}{t k:Nat}{xs:List DV} (l:List (Nat×DV)) (hσ:C.σ0=σ) (hf:gF σ) (hX:X[n]?=some (.arr t k xs)) (hl:aC env ((s,.sl (σ.length+n) xs.length 0 xs.length)::l)) (he:iI (σ.length+n) l)
  (ho:c8 (σ.length+n) X) (hx:∀x∈xs,bj (σ.length+n) x) (hdd:C.dd=[]:=by assumption):ai C ⟨env,σ++X⟩ ⟨(s,.vec c k xs)::l,σ++X.set n .dead⟩:=by
 refine ai.trans (ai.weak (Weak.of_agree rfl hl)) ?_
 have hg:(σ++X)[σ.length+n]?=some (.arr t k xs):=by rw[AT (by omega),show σ.length+n-σ.length=n by omega];exact hX
 refine ai.trans (ai.kill (id:=σ.length+n) (t:=t) (k:=k) (xs:=xs) c hg (by rw[hσ];omega) hx (by rw[hdd];trivial)) ?_
 have e1:fzE (σ.length+n) xs.length (ff c k xs) ((s,.sl (σ.length+n) xs.length 0 xs.length)::l)=(s,.vec c k xs)::l:=by
  have:=jt he xs.length (ff c k xs)
  unfold fzE at this⊢
  rw[Bf,this]
  simp[fz,ff]
 have e2:(σ++X).map (dW (σ.length+n) xs.length (ff c k xs))=σ++X:=o9 (fun N r=>hf _ (by omega) N r) ho _ _
 rw[e1,e2,Cg _ _ (by omega),show σ.length+n-σ.length=n by omega]
 exact ai.refl _ _
theorem Ok.less{P:Program}{f:FuncId}{args args':List DV}{σ σ':List Ob}{o:Out} (h:Ok P f args σ o σ') (hl:args.length=args'.length) (ha:∀(w:World) (F:Nat→Nat→Prop) (μ:Nat→Option Nat) (i:Nat) (d d':DV) (v:Value),args[i]?=some d→args'[i]?=some d'→Rep w F μ σ d' v→Rep w F μ σ d v):Ok P f args' σ o σ':=
 ⟨h.enters,fun w F μ vs hr hv=>h.calls w F μ vs hr ⟨hl.trans hv.1,fun i d v hd hv'=>by
  have hi:=(AH.1 hd).1
  exact ha w F μ i d _ v hd (AI (by omega)) (hv.2 i _ v (AI (by omega)) hv')⟩⟩
section
def DV.unx:DV→DV
 |.slx id g off len _=>.sl id g off len
 |d=>d
section
variable{P:Program}{L:Lay}{w:World}{F:Nat→Nat→Prop}{μ:Nat→Option Nat}{σ:List Ob}
theorem iA{d:DV}{v:Value} (h:Rep w F μ σ d v):Rep w F μ σ d.unx v:=by
 cases h with
 |slx h=>exact .sl h
 |int=>exact .int
 |bool=>exact .bool
 |str=>exact .str
 |vec u hc hm ha hk hr=>exact .vec u hc hm ha hk hr
 |agg hl h=>exact .agg hl h
 |tup hl h=>exact .tup hl h
 |ptr h=>exact .ptr h
 |vptr u hF hu hr=>exact .vptr u hF hu hr
 |sl h=>exact .sl h
 |nils=>exact .nils
 |nilp=>exact .nilp
 |fn hl h=>exact .fn hl h
 |nilf=>exact .nilf
 |iface h=>exact .iface h
 |nili=>exact .nili
 |mp h ho=>exact .mp h ho
 |it h ho=>exact .it h ho
 |yld h ho=>exact .yld h ho
 |emp=>exact .emp
 |undef=>exact .undef
 |skip=>exact .skip
theorem SW.expose{C:Ctx}{c:Code}{env:List (Nat×DV)}{ob:List Ob}{K:XE→St→Prop} (s:Nat){id g off len:Nat} (hs:lk env s=.sl id g off len)
  (h:∀cap,len≤cap→cap≤maxLen→SW C c ⟨up env s (.slx id g off len cap),ob⟩ K):SW C c ⟨env,ob⟩ K:=by
 rintro a w ⟨F,μ,hr⟩
 have hv:=hr.env s
 dsimp only at hv
 rw[hs] at hv
 generalize hq:a.tmps.getD s undef=v at hv
 cases hv with
 | @sl _ _ _ _ A cap hok=>
  have hok':=hok
  obtain⟨t,k,xs,h1,h2,h3,h4,h5,h6⟩:=hok'
  refine h cap h4 h5 a w ⟨F,μ,hr.hr,fun t=>?_,hr.step,hr.fr,hr.col,hr.size,hr.defers⟩
  rw[iT]
  by_cases e:s=t
  ·subst e;rw[if_pos rfl,hq];exact .slx hok
  ·rw[if_neg e];exact hr.env t
theorem ai.unx{C:Ctx}{env:List (Nat×DV)}{ob:List Ob} (s:Nat){id g off len cap:Nat} (hs:lk env s=.slx id g off len cap):ai C ⟨env,ob⟩ ⟨up env s (.sl id g off len),ob⟩:=by
 rintro a w ⟨F,μ,hr⟩
 refine⟨F,μ,hr.hr,fun t=>?_,hr.step,hr.fr,hr.col,hr.size,hr.defers⟩
 rw[iT]
 by_cases e:s=t
 ·subst e
  rw[if_pos rfl]
  have:=iA (hr.env s)
  dsimp only at this
  rw[hs] at this
  exact this
 ·rw[if_neg e];exact hr.env t
def iO:Nat→DV
 |1=>.undef
 |k=>.agg (AO k .undef)
theorem gO (k:Nat):(iO k).cells.length=k∧∀(i:Nat) (d:DV),(iO k).cells[i]?=some d→d=.undef:=by
 unfold iO
 split
 ·refine⟨rfl,fun i d h=>?_⟩
  cases i with
  |zero=>simp at h;exact h.symm
  |succ i=>simp at h
 ·refine⟨by simp[DV.cells],fun i d h=>?_⟩
  simp only[DV.cells,Ck] at h
  split at h
  ·cases h;rfl
  ·cases h
def re1 (id g n:Nat):DV→DV
 |.sl i g' off len=>if i=id∧g'=g then .sl id n off len else .sl i g' off len
 |.slx i g' off len cap=>if i=id∧g'=g then .slx id n off len cap else .slx i g' off len cap
 |d=>d
def reE (id g n:Nat) (e:List (Nat×DV)):List (Nat×DV):=e.map fun p=>(p.1,re1 id g n p.2)
theorem sU (id g n:Nat) (e:List (Nat×DV)) (t:Nat):lk (reE id g n e) t=re1 id g n (lk e t):=by
 induction e with
 |nil=>simp[reE,lk,re1]
 |cons p e ih=>
  obtain⟨s,d⟩:=p
  simp only[reE,Bf,lk] at ih⊢
  by_cases h:s=t
  ·rw[if_pos h,if_pos h]
  ·rw[if_neg h,if_neg h];exact ih
theorem ai.growx{C:Ctx}{env:List (Nat×DV)}{ob:List Ob} (s n:Nat){id off len cap t k:Nat}{xs:List DV} (hs:lk env s=.slx id xs.length off len cap) (ho:ob[id]?=some (.arr t k xs)) (hn:xs.length≤n) (hc:n≤off+cap) (h0:0<xs.length):
  ai C ⟨env,ob⟩ ⟨reE id xs.length n env,ob.set id (.arr t k (xs++AO (n-xs.length) (iO k)))⟩:=by
 rintro a w ⟨F,μ,h⟩
 have hv:=h.env s
 dsimp only at hv
 rw[hs] at hv
 generalize a.tmps.getD s undef=v at hv
 cases hv with
 | @slx _ _ _ _ A _ hok=>
  obtain⟨t2,k2,xs2,ho2,g1,g2,g3,g4,g5⟩:=hok
  rw[ho] at ho2
  cases ho2
  rcases g5 rfl with⟨q1,_⟩|⟨b,cur,fr,q1,q2,q3,q5,q4⟩
  ·omega
  obtain⟨hk,hor⟩:=h.hr.obj _ _ ho
  rcases hor with⟨he,_⟩|⟨b',cur',fr',hb,hh,hfr,hcells⟩
  ·rw[he] at h0;simp at h0
  rw[q1] at hb;cases hb
  rw[q2] at hh;cases hh
  have hidl:=(AH.1 ho).1
  obtain⟨p1,p2,p3⟩:=h.hr.write (ys:=xs++AO (n-xs.length) (iO k)) (cur':=cur) ho q1 q2 hfr rfl (by simp) (fun y hy=>by
   rcases BT.1 hy with hy|hy
   ·exact hk y hy
   ·rw[(BK.1 hy).2];exact(gO k).1) (fun j i y d hy hd=>by
   rcases Bp j xs.length with hj|hj
   ·rw[AJ hj] at hy
    exact hcells j i y d hy hd
   ·rw[AT hj,Ck] at hy
    split at hy
    ·rename_i hjn
     cases hy
     have hi:i<k:=by rw[←(gO k).1];exact(AH.1 hd).1
     obtain rfl:=(gO k).2 i d hd
     have:j*k+k≤(off+cap)*k:=by rw[←BY];exact A7 _ (by omega)
     exact⟨cur[j*k+i]'(by omega),BG _,.undef⟩
    ·cases hy)
  rw[ku q2] at p1 p2
  refine⟨F,μ,p1,fun q=>?_,h.step.trans p2,h.fr,h.col,h.size,h.defers.step p2⟩
  rw[sU]
  have hq:=h.env q
  dsimp only at hq⊢
  have ok:∀{o l:Nat}{A:Option Addr}{cp:Nat},dX w μ ob id xs.length o l A cp→dX w μ (ob.set id (.arr t k (xs++AO (n-xs.length) (iO k)))) id n o l A cp:=by
   rintro o l A cp ⟨t3,k3,xs3,ho3,f1,f2,f3,f4,f5⟩
   rw[ho] at ho3
   cases ho3
   refine⟨t,k,_,by rw[aU hidl,if_pos rfl],by omega,by simp;omega,f3,f4,fun _=>?_⟩
   rcases f5 rfl with⟨r1,_⟩|⟨b3,cur3,fr3,r1,r2,r3⟩
   ·omega
   ·exact .inr ⟨b3,cur3,fr3,r1,r2,r3⟩
  generalize lk env q=d at hq⊢
  generalize a.tmps.getD q undef=v at hq⊢
  by_cases hd:re1 id xs.length n d=d
  ·rw[hd];exact hq.step p2
  ·cases hq with
   | @sl i g' o l A cp hok=>
    simp only[re1] at hd⊢
    split at hd
    ·rename_i e
     obtain⟨rfl,rfl⟩:=e
     rw[if_pos ⟨rfl,rfl⟩];exact .sl (ok hok)
    ·exact absurd rfl hd
   | @slx i g' o l A cp hok=>
    simp only[re1] at hd⊢
    split at hd
    ·rename_i e
     obtain⟨rfl,rfl⟩:=e
     rw[if_pos ⟨rfl,rfl⟩];exact .slx (ok hok)
    ·exact absurd rfl hd
   |_=>exact absurd rfl hd
theorem ky{dlo dhi:Option DV}{vlo vhi:Option Value} (hlo:kp w F μ σ dlo vlo) (hhi:kp w F μ σ dhi vhi){len cap M l h:Nat} (hlM:len≤M) (hc:M≤cap) (h1:au dhi len M=some h) (h2:au dlo 0 h=some l) (b:Bool):
  (Instr.sliceBounds b len cap vlo vhi none).run P w=.ok (l,h,cap) w∧l≤h∧h≤M:=by
 have hh:h≤M∧((match vhi with|some v=>Instr.sliceBound v cap (if b then .sliceAcap else .sliceAlen)|none=>pure len:Sem Nat)).run P w=.ok h w:=by
  rcases hhi with⟨rfl,rfl⟩|⟨d',v',rfl,rfl,hr⟩
  ·simp only[au,AX.injEq] at h1
   subst h1
   exact⟨hlM,rfl⟩
  ·have:=bt (P:=P) hr h1 hc (if b then .sliceAcap else .sliceAlen)
   exact⟨this.2,this.1⟩
 have hl:l≤h∧((match vlo with|some v=>Instr.sliceBound v h .sliceB|none=>pure 0:Sem Nat)).run P w=.ok l w:=by
  rcases hlo with⟨rfl,rfl⟩|⟨d',v',rfl,rfl,hr⟩
  ·simp only[au,AX.injEq] at h2
   subst h2
   exact⟨BD _,rfl⟩
  ·have:=bt (P:=P) hr h2 (AU h) .sliceB
   exact⟨this.2,this.1⟩
 refine⟨?_,hl.1,hh.1⟩
 have e1:=hh.2
 have e2:=hl.2
 unfold Instr.sliceBounds
 cases vhi<;>cases vlo<;>simp_all [Sem.run_bind]
def fH (L:Lay) (σ:List Ob) (t:Nat) (d:DV) (lo hi:Option DV):Option DV:=
 match L t with
 |some {d:=.slice e,..}=>match L e with
  |some te=>match d with
   |.slx id g off len cap=>match σ[id]? with
    |some (.arr _t0 k xs)=>if te.k=k∧g=xs.length∧g≤off+cap∧(0<len∨off=0) then(match au hi len (g-off) with
     |some h=>match au lo 0 h with
      |some l=>some (.slx id g (off+l) (h-l) (cap-l))
      |none=>none
     |none=>none) else none
    |_=>none
   |_=>none
  |none=>none
 |_=>none
theorem uw (hL:af P L){t:Nat}{d d':DV}{v:Value}{dlo dhi:Option DV}{vlo vhi:Option Value} (h:fH L σ t d dlo dhi=some d') (hv:Rep w F μ σ d v) (hlo:kp w F μ σ dlo vlo) (hhi:kp w F μ σ dhi vhi):
  ∃v',(Instr.sliceAt t v vlo vhi none).run P w=.ok v' w∧Rep w F μ σ d' v':=by
 unfold fH at h
 split at h<;>try cases h
 rename_i k0 by0 e z ht
 obtain⟨desc,hu,rfl⟩:=(hL _ _ ht).und
 split at h<;>try cases h
 rename_i te hte
 have hsz:=(hL _ _ hte).size w
 split at h<;>try cases h
 rename_i id g off len cap
 split at h<;>try cases h
 rename_i t0 k xs ho
 by_cases hk:te.k=k∧g=xs.length∧g≤off+cap∧(0<len∨off=0)
 ·rw[if_pos hk] at h
  obtain⟨hk,hg,hgc,hpos⟩:=hk
  split at h<;>try cases h
  rename_i hi h1
  split at h<;>try cases h
  rename_i l h2
  cases hv with
  | @slx _ _ _ _ A _ hs=>
   obtain⟨t2,k2,xs2,ho2,g1,g2,g3,g4,g5⟩:=hs
   rw[ho] at ho2
   cases ho2
   obtain⟨b1,b2,b3⟩:=ky (P:=P) hlo hhi (len:=len) (cap:=cap) (M:=g-off) (by omega) (by omega) h1 h2 true
   have r1:(Instr.sliceAt t (.slice A len cap) vlo vhi none).run P w=.ok (.slice (if cap=l then A else A.map (·.add (l*te.k))) (hi-l) (cap-l)) w:=by
    simp only[Instr.sliceAt,Sem.run_bind,run_underlying hu,Result.andThen_ok,Instr.slice,b1,hsz,Sem.run_pure]
   have e1:off+l+(cap-l)=off+cap:=by omega
   have e2:off+l+(hi-l)≤g:=by omega
   have e3:hi-l≤cap-l:=by omega
   have e4:cap-l≤maxLen:=by omega
   refine⟨_,r1,.slx ⟨t0,k,xs,ho,e2,g2,e3,e4,fun hg=>?_⟩⟩
   rcases g5 hg with⟨q1,rfl,q3,q4⟩|⟨b,cur,fr,q1,q2,q3,q5,q4⟩
   ·refine .inl ⟨q1,?_,by omega,q4⟩
    split<;>rfl
   ·refine .inr ⟨b,cur,fr,q1,q2,by rw[e1];exact q3,by split<;>simp[q5],fun hp=>?_⟩
    have hA:=q4 hpos
    subst hA
    by_cases hcl:cap=l
    ·rw[if_pos hcl]
     have:l=0:=by
      clear q2 q3 q4 q5 hpos g5
      rcases hp with hp|hp<;>omega
     subst this
     simp
    ·rw[if_neg hcl,hk]
     simp only[AW,cj,Bx]
 ·rw[if_neg hk] at h;cases h
def fY (L:Lay) (st:St) (op:Op):Option (DV×List Ob):=
 match op with
 |.slice t x lo hi none=>(fH L st.ob t (ev st.env x) (lo.map (ev st.env)) (hi.map (ev st.env))).map fun d=>(d,st.ob)
 |.call {callee:=.builtin .len,args,argTypes}=>match argTypes.toList,args.toList.map (ev st.env) with
  | [t],[.slx _ _ _ len _]=>(match L t with
   |some {d:=.slice _,..}=>some (.int .i64 len,st.ob)
   |_=>none)
  |_,_=>none
 |.call {callee:=.builtin .cap,args,argTypes}=>match argTypes.toList,args.toList.map (ev st.env) with
  | [t],[.slx _ _ _ _ cap]=>(match L t with
   |some {d:=.slice _,..}=>some (.int .i64 cap,st.ob)
   |_=>none)
  |_,_=>none
 |.call {callee:=.builtin .copy,args,argTypes}=>match argTypes.toList,args.toList.map (ev st.env) with
  |t::_,[d1,d2]=>nc L st.ob t d1.unx d2.unx
  |_,_=>none
 |.call {callee:=.builtin .clear,args,argTypes}=>match argTypes.toList,args.toList.map (ev st.env) with
  |t::_,[d1]=>ju L st.ob t d1.unx
  |_,_=>none
 |_=>none
theorem ar.of_xsop (hL:af P L){o:Oper}{st:St}{d:DV}{ob':List Ob} (h:fY L st o.op=some (d,ob')):ar P o st d ob':=by
 unfold fY at h
 split at h
 ·rename_i t x lo hi hop
  cases hq:fH L st.ob t (ev st.env x) (lo.map (ev st.env)) (hi.map (ev st.env)) with
  |none=>rw[hq] at h;cases h
  |some d'=>
   rw[hq] at h
   cases h
   refine ar.pure fun a w F μ hr he=>?_
   obtain⟨v,r1,r2⟩:=uw (P:=P) hL hq (he x) (jU he lo) (jU he hi)
   exact⟨v,by simp[execOp,hop,r1],r2⟩
 ·rename_i args ts hop
  split at h<;>try cases h
  rename_i t i g off len cap hts hds
  split at h<;>try cases h
  rename_i q0 k0 b0 e z0 ht
  obtain⟨desc,hu,rfl⟩:=(hL _ _ ht).und
  refine ar.pure fun a w F μ hr he=>?_
  have hargs:args.map a.eval=⟨args.toList.map a.eval⟩:=by apply BJ;simp
  have hts0:ts= #[t]:=by apply BJ;simpa using hts
  subst hts0
  rcases hxs:args.toList with _|⟨x1,_|⟨x2,r⟩⟩<;>rw[hxs] at hds<;>simp at hds
  have h1:=he x1
  rw[hds] at h1
  generalize hv:a.eval x1=v at h1
  cases h1 with
  |slx hs=>
   refine⟨.int .i64 len,?_,.int⟩
   simp only[execOp,hop,resolve,Sem.run_bind,Sem.run_pure,Result.andThen_ok,invoke,hargs,hxs,Bf,BQ,builtin,hv,Builtin.len_,Bn,AY,run_underlying hu,goInt]
 ·rename_i args ts hop
  split at h<;>try cases h
  rename_i t i g off len cap hts hds
  split at h<;>try cases h
  rename_i q0 k0 b0 e z0 ht
  obtain⟨desc,hu,rfl⟩:=(hL _ _ ht).und
  refine ar.pure fun a w F μ hr he=>?_
  have hargs:args.map a.eval=⟨args.toList.map a.eval⟩:=by apply BJ;simp
  have hts0:ts= #[t]:=by apply BJ;simpa using hts
  subst hts0
  rcases hxs:args.toList with _|⟨x1,_|⟨x2,r⟩⟩<;>rw[hxs] at hds<;>simp at hds
  have h1:=he x1
  rw[hds] at h1
  generalize hv:a.eval x1=v at h1
  cases h1 with
  |slx hs=>
   refine⟨.int .i64 cap,?_,.int⟩
   simp only[execOp,hop,resolve,Sem.run_bind,Sem.run_pure,Result.andThen_ok,invoke,hargs,hxs,Bf,BQ,builtin,hv,Builtin.cap_,Bn,AY,run_underlying hu,goInt]
 ·rename_i args ts hop
  split at h<;>try cases h
  rename_i t r d1 d2 hts hds
  refine ar.mem fun a w F μ hr he=>?_
  have hargs:args.map a.eval=⟨args.toList.map a.eval⟩:=by apply BJ;simp
  rcases hxs:args.toList with _|⟨x1,_|⟨x2,_|⟨x3,r⟩⟩⟩<;>rw[hxs] at hds<;>simp at hds
  obtain⟨rfl,rfl⟩:=hds
  have hts0:ts[0]?=some t:=by
   have:ts.toList[0]?=some t:=by rw[hts];rfl
   simpa using this
  obtain⟨v,w',r1,r2,r3,r4,r5⟩:=nS (P:=P) hL hr h (iA (he x1)) (iA (he x2)) ts hts0 o.type
  refine⟨Builtin.copy_ ts o.type #[a.eval x1,a.eval x2],⟨v,w',μ,r1,r2,r3,r4,r5⟩,fun v w' h1=>?_⟩
  simp only[execOp,hop,resolve,Sem.run_bind,Sem.run_pure,Result.andThen_ok,invoke,hargs,hxs,Bf,BQ,builtin,h1]
 ·rename_i args ts hop
  split at h<;>try cases h
  rename_i t r d1 hts hds
  refine ar.mem fun a w F μ hr he=>?_
  have hargs:args.map a.eval=⟨args.toList.map a.eval⟩:=by apply BJ;simp
  rcases hxs:args.toList with _|⟨x1,_|⟨x2,r⟩⟩<;>rw[hxs] at hds<;>simp at hds
  subst hds
  have hts0:ts[0]?=some t:=by
   have:ts.toList[0]?=some t:=by rw[hts];rfl
   simpa using this
  obtain⟨v,w',r1,r2,r3,r4,r5⟩:=ml (P:=P) hL hr h (iA (he x1)) ts hts0 o.type
  refine⟨Builtin.clear_ ts o.type #[a.eval x1],⟨v,w',μ,r1,r2,r3,r4,r5⟩,fun v w' h1=>?_⟩
  simp only[execOp,hop,resolve,Sem.run_bind,Sem.run_pure,Result.andThen_ok,invoke,hargs,hxs,Bf,BQ,builtin,h1]
 ·cases h
end
end
section
section
variable{P:Program}{L:Lay}{w:World}{F:Nat→Nat→Prop}{μ:Nat→Option Nat}{σ:List Ob}
theorem kS (hr:HR w F μ σ){id e k bytes i cap:Nat}{xs ys:List DV}{A:Option Addr}{news:Array Value}{z:Value}
  (ho:σ[id]?=some (.arr e k xs)) (hs:dX w μ σ id xs.length 0 i A cap) (hn:News w F μ σ k ys news) (hy0:0<ys.length) (hb0:0<bytes) (hb:(i+ys.length)*bytes≤140737488355328)
  (hzs:z.cells.size=k) (hone:∀y∈xs,∀c∈y.cells,c.one=true) (X:Sem (Array Value)) (hX:∀w':World,w'.heap=w.heap→X.run P w'=.ok news w') (R:Nat→Sem Unit) (hR:∀(n:Nat) (w':World),(R n).run P w'=.ok () w'):
  (i+ys.length≤cap→i+ys.length≤xs.length→∃A' w',(cK P e k ys.length i cap A z X R).run P w=.ok (.slice A' (i+ys.length) cap) w'∧
   HR w' F μ (σ.set id (.arr e k (xs.take i++ys++xs.drop (i+ys.length))))∧Step w F μ σ w' F μ (σ.set id (.arr e k (xs.take i++ys++xs.drop (i+ys.length))))∧Fr w μ w' μ∧
   dX w' μ (σ.set id (.arr e k (xs.take i++ys++xs.drop (i+ys.length)))) id xs.length 0 (i+ys.length) A' cap)∧
  (xs.length<i+ys.length→∃A' cap' w' μ',(cK P e k ys.length i cap A z X R).run P w=.ok (.slice A' (i+ys.length) cap') w'∧
   HR w' F μ' (σ.set id (.arr e k (xs.take i++ys)))∧Step w F μ σ w' F μ' (σ.set id (.arr e k (xs.take i++ys)))∧Fr w μ w' μ'∧
   dX w' μ' (σ.set id (.arr e k (xs.take i++ys))) id (i+ys.length) 0 (i+ys.length) A' cap')∧
  (cap<i+ys.length→∃A' cap' w' μ',(cK P e k ys.length i cap A z X R).run P w=.ok (.slice A' (i+ys.length) cap') w'∧
   HR w' F μ' (σ++[.arr e k (xs.take i++ys)])∧Step w F μ σ w' F μ' (σ++[.arr e k (xs.take i++ys)])∧Fr w μ w' μ'∧
   dX w' μ' (σ++[.arr e k (xs.take i++ys)]) σ.length (i+ys.length) 0 (i+ys.length) A' cap'):=by
 have hidl:=(AH.1 ho).1
 have hs':=hs
 obtain⟨hxk,hor⟩:=hr.obj _ _ ho
 obtain⟨t1,k1,xs1,ho1,hi0,_,hic,hm,hq⟩:=hs
 rw[ho] at ho1
 cases ho1
 have hi:i≤xs.length:=by omega
 have htl:(xs.take i).length=i:=by simp;omega
 have h47:i+ys.length≤140737488355328:=Bl (CJ _ hb0) hb
 have htk:∀y∈xs.take i,y.cells.length=k:=fun y hy=>hxk y (Bz hy)
 have hall:=jQ htk hn.len
 have inPlace:i+ys.length≤cap→∃b cur fr,μ id=some b∧w.heap[b]?=some (.cells cur e fr)∧A=some ⟨b,0,none⟩∧kr fr cur.size k∧cap*k≤cur.size∧
   (∀(j i:Nat) (x d:DV),xs[j]?=some x→x.cells[i]?=some d→∃v,cur[j*k+i]?=some v∧Rep w F μ σ d v)∧
   (cK P e k ys.length i cap A z X R).run P w=.ok (.slice A (i+ys.length) cap) (cN w b (.cells (gH cur (i*k+0) news.toList) e fr)):=by
  intro hcap
  rcases hq rfl with⟨_,_,hc0,_⟩|⟨b,cur,fr,hmu,hh,hsz,hAs,hA⟩
  ·omega
  have hA':=hA (.inr rfl)
  rcases hor with⟨_,hmu'⟩|⟨b',cur',fr',hmu',hh',hfr',hcells⟩
  ·rw[hmu] at hmu';cases hmu'
  rw[hmu] at hmu'
  cases hmu'
  rw[hh] at hh'
  cases hh'
  simp only[Bc,CT] at hsz hA'
  have hfit:i*k+0+news.toList.length≤cur.size:=by
   refine Bl ?_ hsz
   simp only[Bt,B9,hn.size,←Bx]
   exact A7 _ hcap
  refine⟨b,cur,fr,hmu,hh,hA',hfr',hsz,hcells,?_⟩
  subst hA'
  unfold cK
  rw[if_pos hcap]
  have:=c0 (P:=P) news.toList 0 w cur (p:=i*k) hh hfr' hfit (fun v hv=>hn.one v hv)
  simp only[Sem.run_bind,hX w rfl,Result.andThen_ok,cj,Bc,this,Sem.run_pure]
 obtain⟨old,hold1,hold2,hold3⟩:∃old,(∀w':World,w'.heap=w.heap→(Builtin.firstCells k i (.slice A i cap)).run P w'=.ok old w')∧old.size=i*k∧
   ∀(j q:Nat) (y d:DV),(xs.take i)[j]?=some y→y.cells[q]?=some d→∃v,old[j*k+q]?=some v∧Rep w F μ σ d v:=by
  have hsrc:bV σ k (.sl id xs.length 0 i)=some (xs.take i):=by simp[bV,ho]
  obtain⟨A2,cap2,news2,e2,hn2,hf2⟩:=dp (P:=P) hr hsrc (.sl hs') (fun y hy=>hone y (Bz hy))
  rw[htl] at e2 hf2
  cases e2
  exact⟨news2,hf2,by rw[hn2.size,htl],hn2.rep⟩
 have fresh:cap<i+ys.length→∃N,i+ys.length≤N∧N≤maxLen∧(cK P e k ys.length i cap A z X R).run P w=.ok (.slice (some ⟨w.heap.size,0,none⟩) (i+ys.length) N) (w.drew.alloc (.cells (old++news++Builtin.zeroCells z.cells (N-(i+ys.length))) e)):=by
  intro hcap
  have hgc:=grownCap_ge w (i+ys.length) cap e
  have hgm:=grownCap_le_maxLen w (i+ys.length) cap e (by simp only[maxLen];omega)
  generalize hN:grownCap w (i+ys.length) cap e=N at hgc hgm
  refine⟨N,hgc,hgm,?_⟩
  unfold cK
  rw[if_neg (by omega)]
  have hch:(choose (.appendCap (i+ys.length) cap e)).run P w=.ok N w.drew:=by
   rw[←hN]
   rfl
  simp only[Sem.run_bind,hch,Result.andThen_ok,hR,hold1 w.drew rfl,hX w.drew rfl]
  rfl
 have hcat:∀(rest:Array Value) (j q:Nat) (y d:DV),(xs.take i++ys)[j]?=some y→y.cells[q]?=some d→∃v,(old++news++rest)[j*k+q]?=some v∧Rep w F μ σ d v:=by
  intro rest j q y d hy hd
  have hyk:=hall y (AM hy)
  have hqk:q<k:=by rw[←hyk];exact(AH.1 hd).1
  rcases Bp j i with hj|hj
  ·have:j*k+k≤i*k:=by rw[←BY];exact A7 _ hj
   rw[Array.append_assoc,BO (by omega)]
   rw[AJ (by omega)] at hy
   exact hold3 j q y d hy hd
  ·rw[AT (by omega),htl] at hy
   have hjl:=(AH.1 hy).1
   have e1:j*k=i*k+(j-i)*k:=by rw[←Bx];congr 1;omega
   have e2:(j-i)*k+k≤ys.length*k:=by rw[←BY];exact A7 _ hjl
   rw[BO (by simp[hold2,hn.size];omega),DE (by omega)]
   obtain⟨v,h1,h2⟩:=hn.rep (j-i) q y d hy hd
   exact⟨v,by rw[show j*k+q-old.size=(j-i)*k+q by omega];exact h1,h2⟩
 have hput:∀(cur:Array Value),i*k+0+news.toList.length≤cur.size→(∀(j i:Nat) (x d:DV),xs[j]?=some x→x.cells[i]?=some d→∃v,cur[j*k+i]?=some v∧Rep w F μ σ d v)→
   ∀(us:List DV),(∀y∈us,y∈xs)→(∀j y,us[j]?=some y→xs[i+ys.length+j]?=some y)→∀(j q:Nat) (y d:DV),(xs.take i++ys++us)[j]?=some y→y.cells[q]?=some d→∃v,(gH cur (i*k+0) news.toList)[j*k+q]?=some v∧Rep w F μ σ d v:=by
  intro cur hfit hcells us hus1 hus j q y d hy hd
  have hqk:q<k:=by
   have:y.cells.length=k:=by
    rcases BT.1 (AM hy) with h|h
    ·exact hall y h
    ·exact hxk y (hus1 y h)
   rw[←this];exact(AH.1 hd).1
  rw[gR _ _ _ _ hfit]
  simp only[Bt,B9,hn.size]
  rcases Bp j i with hj|hj
  ·have:j*k+k≤i*k:=by rw[←BY];exact A7 _ hj
   rw[if_neg (by omega)]
   rw[AR,AJ (by omega),BM hj] at hy
   exact hcells j q y d hy hd
  ·rcases Bp j (i+ys.length) with hj2|hj2
   ·have e1:j*k=i*k+(j-i)*k:=by rw[←Bx];congr 1;omega
    have e2:(j-i)*k+k≤ys.length*k:=by rw[←BY];exact A7 _ (by omega)
    rw[if_pos (by omega)]
    rw[AR,AT (by omega),htl,AJ (by omega)] at hy
    obtain⟨v,h1,h2⟩:=hn.rep (j-i) q y d hy hd
    exact⟨v,by rw[show j*k+q-i*k=(j-i)*k+q by omega];simpa using h1,h2⟩
   ·have e1:(i+ys.length)*k≤j*k:=A7 _ hj2
    rw[Bx] at e1
    rw[if_neg (by omega)]
    rw[AT (by simp;omega)] at hy
    have:=hus _ _ hy
    simp only[AP,htl] at this
    rw[show i+ys.length+(j-(i+ys.length))=j by omega] at this
    exact hcells j q y d this hd
 have hfit:∀{cur:Array Value},i+ys.length≤cap→cap*k≤cur.size→i*k+0+news.toList.length≤cur.size:=by
  intro cur hcap hsz
  refine Bl ?_ hsz
  simp only[Bt,B9,hn.size,←Bx]
  exact A7 _ hcap
 refine⟨fun hcap hle=>?_,fun hlt=>?_,fun hcap=>?_⟩
 ·obtain⟨b,cur,fr,hmu,hh,hA',hfr',hsz,hcells,hrun⟩:=inPlace hcap
  have hlen:(xs.take i++ys++xs.drop (i+ys.length)).length=xs.length:=by simp;omega
  obtain⟨p1,p2,p3⟩:=hr.write (ys:=xs.take i++ys++xs.drop (i+ys.length)) (cur':=gH cur (i*k+0) news.toList) ho hmu hh hfr' (cH _ _ _) (by omega) (fun y hy=>by
   rcases BT.1 hy with h|h
   ·exact hall y h
   ·exact hxk y (By h)) (hput cur (hfit hcap hsz) hcells _ (fun y hy=>By hy) (fun j y hy=>by rw[Bk] at hy;exact hy))
  refine⟨A,_,hrun,p1,p2,p3,e,k,_,by rw[aU hidl,if_pos rfl],by omega,by omega,hcap,hm,fun _=>.inr ⟨b,_,fr,hmu,by rw[bz (Bm.1 hh).1,if_pos rfl],by rw[cH];simpa using hsz,by rw[hA'];rfl,fun _=>by rw[hA'];simp⟩⟩
 ·by_cases hcap:i+ys.length≤cap
  ·obtain⟨b,cur,fr,hmu,hh,hA',hfr',hsz,hcells,hrun⟩:=inPlace hcap
   have hp:=hput cur (hfit hcap hsz) hcells [] (fun y hy=>by simp at hy) (fun j y hy=>by simp at hy)
   rw[AK] at hp
   obtain⟨p1,p2,p3⟩:=hr.write (ys:=xs.take i++ys) (cur':=gH cur (i*k+0) news.toList) ho hmu hh hfr' (cH _ _ _) (by simp;omega) hall hp
   refine⟨A,cap,_,μ,hrun,p1,p2,p3,e,k,_,by rw[aU hidl,if_pos rfl],by omega,by simp;omega,hcap,hm,fun _=>.inr ⟨b,_,fr,hmu,by rw[bz (Bm.1 hh).1,if_pos rfl],by rw[cH];simpa using hsz,by rw[hA'];rfl,fun _=>by rw[hA'];simp⟩⟩
  ·obtain⟨N,hN1,hN2,hrun⟩:=fresh (by omega)
   obtain⟨p1,p2,p3⟩:=hr.move (ys:=xs.take i++ys) (cur:=old++news++Builtin.zeroCells z.cells (N-(i+ys.length))) ho (by simp;omega) hall (hcat _)
   refine⟨_,N,_,_,hrun,p1,p2,p3,e,k,_,by rw[aU hidl,if_pos rfl],by omega,by simp;omega,hN1,hN2,fun _=>.inr ⟨w.heap.size,_,(0,0),by simp[fl],by rw[aS];exact if_pos rfl,DF ?_,rfl,fun _=>by simp⟩⟩
   simp only[C2,hold2,hn.size,Builtin.zeroCells,Dm,Dt,hzs,Bc]
   rw[←Bx,←Bx]
   congr 1;omega
 ·obtain⟨N,hN1,hN2,hrun⟩:=fresh hcap
  obtain⟨p1,p2,p3⟩:=hr.drew1.push (t:=e) (k:=k) (xs:=xs.take i++ys) (cur:=old++news++Builtin.zeroCells z.cells (N-(i+ys.length))) (.zero _) hall (fun j q y d hy hd=>by
   obtain⟨v,h1,h2⟩:=hcat (Builtin.zeroCells z.cells (N-(i+ys.length))) j q y d hy hd
   exact⟨v,h1,h2.step eM⟩)
  refine⟨_,N,_,_,hrun,p1,eM.trans p2,mX.trans p3,e,k,_,by rw[aD,if_pos rfl],by omega,by simp;omega,hN1,hN2,fun _=>.inr ⟨w.heap.size,_,(0,0),by simp[bd],by rw[aS];exact if_pos rfl,DF ?_,rfl,fun _=>by simp⟩⟩
  simp only[C2,hold2,hn.size,Builtin.zeroCells,Dm,Dt,hzs,Bc]
  rw[←Bx,←Bx]
  congr 1;omega
theorem s8 (hL:af P L){o:Oper}{st:St}{xs:Array Operand}{ts:Array TypeId}{t t' e:Nat}{te:TI}{x1 x2:Operand}{ys:List DV}{d:DV}{ob':List Ob}
  (ho:o.op=.call {callee:=.builtin .append,args:=xs,argTypes:=ts}) (hx:xs.toList=[x1,x2]) (hts:ts.toList=[t,t']){q0:Bool}{k0 b0:Nat}{z0:DV} (ht:L t=some ⟨q0,k0,b0,.slice e,z0⟩) (hte:L e=some te) (hb0:0<te.bytes) (hz1:te.zero.cells.all DV.one=true)
  (hys:jf L st.ob te t' (ev st.env x2)=some ys) (hone:∀y∈ys,∀c∈y.cells,c.one=true)
  (h:∀(w:World) (F:Nat→Nat→Prop) (μ:Nat→Option Nat) (v1:Value) (news:Array Value) (z:Value) (X:Sem (Array Value)) (R:Nat→Sem Unit),HR w F μ st.ob→Rep w F μ st.ob (ev st.env x1) v1→News w F μ st.ob te.k ys news→z.cells.size=te.k→
   (∀w':World,w'.heap=w.heap→X.run P w'=.ok news w')→(∀(n:Nat) (w':World),(R n).run P w'=.ok () w')→
   ∃A i cap v w' μ',v1=.slice A i cap∧(i+ys.length)*te.bytes≤140737488355328∧(cK P e te.k ys.length i cap A z X R).run P w=.ok v w'∧HR w' F μ' ob'∧Step w F μ st.ob w' F μ' ob'∧Fr w μ w' μ'∧Rep w' F μ' ob' d v):ar P o st d ob':=by
 refine ar.mem fun a w F μ hr he=>?_
 have hargs:xs.map a.eval=⟨xs.toList.map a.eval⟩:=by apply BJ;simp
 have:ts= #[t,t']:=by apply BJ;simpa using hts
 subst this
 obtain⟨news,z,X,R,hn,hzs,hX,hR,hrun⟩:=ko hL hr ht rfl hte hb0 hz1 hys (he x2) hone o.type
 obtain⟨A,i,cap,v,w',μ',e1,e2,e3,e4,e5,e6,e7⟩:=h w F μ _ news z X R hr (he x1) hn hzs hX hR
 refine⟨Builtin.append_ #[t,t'] o.type #[a.eval x1,a.eval x2],⟨v,w',μ',by rw[e1,hrun A i cap e2];exact e3,e4,e5,e6,e7⟩,fun v w' h1=>?_⟩
 simp only[execOp,ho,resolve,Sem.run_bind,Sem.run_pure,Result.andThen_ok,invoke,hargs,hx,Bf,BQ,builtin,h1]
section
variable{o:Oper}{st:St}{xa:Array Operand}{ts:Array TypeId}{t t' e id i:Nat}{te:TI}{x1 x2:Operand}{xs ys:List DV}
 (hL:af P L) (ho:o.op=.call {callee:=.builtin .append,args:=xa,argTypes:=ts}) (hx:xa.toList=[x1,x2]) (hts:ts.toList=[t,t']){q0:Bool}{k0 b0:Nat}{z0:DV} (ht:L t=some ⟨q0,k0,b0,.slice e,z0⟩) (hte:L e=some te) (hb0:0<te.bytes) (hz1:te.zero.cells.all DV.one=true)
 (hys:jf L st.ob te t' (ev st.env x2)=some ys) (hone:∀y∈ys,∀c∈y.cells,c.one=true) (hone2:∀y∈xs,∀c∈y.cells,c.one=true) (hob:st.ob[id]?=some (.arr e te.k xs)) (hy0:0<ys.length) (hb:(i+ys.length)*te.bytes≤140737488355328)
include hL ho hx hts ht hte hb0 hz1 hys hone hone2 hob hy0 hb
theorem ar.appIn{cap:Nat} (h1:ev st.env x1=.slx id xs.length 0 i cap) (hc:xs.length≤cap) (hle:i+ys.length≤xs.length):
  ar P o st (.slx id xs.length 0 (i+ys.length) cap) (st.ob.set id (.arr e te.k (xs.take i++ys++xs.drop (i+ys.length)))):=
 s8 hL ho hx hts ht hte hb0 hz1 hys hone fun w F μ v1 news z X R hr hv hn hzs hX hR=>by
  rw[h1] at hv
  cases hv with
  | @slx _ _ _ _ A _ hs=>
   obtain⟨A',w',r1,r2,r3,r4,r5⟩:=(kS (P:=P) hr hob hs hn hy0 hb0 hb hzs hone2 X hX R hR).1 (by omega) hle
   exact⟨A,i,cap,_,w',μ,rfl,hb,r1,r2,r3,r4,.slx r5⟩
theorem ar.appLong (h1:ev st.env x1=.sl id xs.length 0 i∨∃cap,ev st.env x1=.slx id xs.length 0 i cap) (hlt:xs.length<i+ys.length):
  ar P o st (.sl id (i+ys.length) 0 (i+ys.length)) (st.ob.set id (.arr e te.k (xs.take i++ys))):=
 s8 hL ho hx hts ht hte hb0 hz1 hys hone fun w F μ v1 news z X R hr hv hn hzs hX hR=>by
  obtain⟨A,cap,rfl,hs⟩:∃A cap,v1=.slice A i cap∧dX w μ st.ob id xs.length 0 i A cap:=by
   rcases h1 with h1|⟨cp,h1⟩<;>rw[h1] at hv<;>cases hv
   ·exact⟨_,_,rfl,by assumption⟩
   ·exact⟨_,_,rfl,by assumption⟩
  obtain⟨A',cap',w',μ',r1,r2,r3,r4,r5⟩:=(kS (P:=P) hr hob hs hn hy0 hb0 hb hzs hone2 X hX R hR).2.1 hlt
  exact⟨A,i,cap,_,w',μ',rfl,hb,r1,r2,r3,r4,.sl r5⟩
theorem ar.appNew{cap:Nat} (h1:ev st.env x1=.slx id xs.length 0 i cap) (hlt:cap<i+ys.length):
  ar P o st (.sl st.ob.length (i+ys.length) 0 (i+ys.length)) (st.ob++[.arr e te.k (xs.take i++ys)]):=
 s8 hL ho hx hts ht hte hb0 hz1 hys hone fun w F μ v1 news z X R hr hv hn hzs hX hR=>by
  rw[h1] at hv
  cases hv with
  | @slx _ _ _ _ A _ hs=>
   obtain⟨A',cap',w',μ',r1,r2,r3,r4,r5⟩:=(kS (P:=P) hr hob hs hn hy0 hb0 hb hzs hone2 X hX R hR).2.2 hlt
   exact⟨A,i,cap,_,w',μ',rfl,hb,r1,r2,r3,r4,.sl r5⟩
end
end
end
theorem ag.move{C:Ctx}{σ:List Ob}{t k id off len:Nat}{xs ys:List DV} (hσ:C.σ0=σ) (hf:gF σ) (ho:σ[id]?=some (.arr t k xs)) (hlt:xs.length<ys.length) (hy:∀y∈ys,Low σ.length y) (hdd:C.dd=[]:=by assumption):
  ag C (.sl σ.length ys.length off len) (σ++[.arr t k ys]) (.sl id ys.length off len) (σ.set id (.arr t k ys)):=by
 intro a w v F μ h hv
 have hidl:=(AH.1 ho).1
 have hne:id≠σ.length:=by omega
 obtain⟨m,hm⟩:∃m,m=σ.length:=⟨_,rfl⟩
 have hget:∀i,(σ++[Ob.arr t k ys])[i]?=if i=m then some (.arr t k ys) else σ[i]?:=fun i=>by rw[aD,hm]
 have hobm:(σ++[Ob.arr t k ys])[m]?=some (.arr t k ys):=by rw[hget,if_pos rfl]
 have hobid:(σ++[Ob.arr t k ys])[id]?=some (.arr t k xs):=by rw[hget,if_neg (by omega)];exact ho
 obtain⟨μa,hμa⟩:∃μa:Nat→Option Nat,μa=fun i=>if i=id then μ m else μ i:=⟨_,rfl⟩
 obtain⟨μ',hμ'⟩:∃μ':Nat→Option Nat,μ'=fun i=>if i=id then μ m else if i=m then DC else μ i:=⟨_,rfl⟩
 have ma:∀i,i≠id→μa i=μ i:=fun i hi=>by rw[hμa];exact if_neg hi
 have m1:μ' id=μ m:=by rw[hμ'];exact if_pos rfl
 have m2:μ' m=DC:=by rw[hμ'];dsimp only;rw[if_neg (by omega),if_pos rfl]
 have m3:∀i,i≠id→i≠m→μ' i=μ i:=fun i h1 h2=>by rw[hμ'];dsimp only;rw[if_neg h1,if_neg h2]
 have st1:Step w F μ (σ++[Ob.arr t k ys]) w F μa ((σ++[Ob.arr t k ys]).set id (.arr t k ys)):=by
  have hl:id<(σ++[Ob.arr t k ys]).length:=by simp;omega
  refine⟨fun _ _ _=>rfl,fun _ _ h=>h,fun i o h=>?_,fun i t' k' zs us h h' he=>?_,fun i tt es h=>?_⟩
  ·rw[aU hl]
   by_cases hi:id=i
   ·subst hi
    rw[hobid] at h;cases h
    exact⟨_,by rw[if_pos rfl],ys,rfl,by omega⟩
   ·exact⟨o,by rw[if_neg hi];exact h,Ob.ext_refl o⟩
  ·rw[aU hl] at h'
   by_cases hi:id=i
   ·subst hi
    rw[if_pos rfl] at h'
    rw[hobid] at h
    cases h;cases h'
    omega
   ·exact⟨ma i (fun e=>hi e.symm),fun b cur fr hb hh=>⟨cur,fr,hh,rfl⟩⟩
  ·rw[ma]
   rintro rfl
   rw[hobid] at h;cases h
 have all:∀d v,Rep w F μ (σ++[Ob.arr t k ys]) d v→Rep w F μ' (σ.set id (.arr t k ys)) (fz m ys.length (fun off len=>.sl id ys.length off len) d) v:=by
  intro d v hd
  refine Rep.fz (F:=F) (fun _ _=>rfl) (fun _ _ h=>h) (fun i hi=>?_) (fun i o hi h=>?_) (fun off len A cap hs=>?_) (hd.step st1)
  ·by_cases e:i=id
   ·subst e;rw[m1,hμa];exact(if_pos rfl).symm
   ·rw[m3 i e hi,ma i e]
  ·have hil:i<(σ++[Ob.arr t k ys]).length:=by have:=(AH.1 h).1;simpa using this
   have hil':i<σ.length:=by simp at hil;omega
   rw[Bo _ _ hidl,AJ (by simpa using hil')] at h
   exact⟨o,h,by cases o with
    |arr t' k' zs=>exact⟨_,rfl,rfl⟩
    |oth t' ds=>exact⟨_,rfl⟩
    |dead=>rfl⟩
  ·obtain⟨t2,k2,xs2,ho2,g1,g2,g3,g4,g5⟩:=hs
   rw[aU (by simp;omega),if_neg (by omega),hobm] at ho2
   cases ho2
   refine .sl ⟨t,k,ys,by rw[aU hidl,if_pos rfl],g1,g2,g3,g4,fun e=>?_⟩
   rw[m1]
   have:=g5 rfl
   rw[ma m (by omega)] at this
   exact this
 have low:∀d v,Low σ.length d→Rep w F μ (σ++[Ob.arr t k ys]) d v→Rep w F μ' (σ.set id (.arr t k ys)) d v:=by
  intro d v hl hd
  have:=all d v hd
  rwa [hl m (by omega)] at this
 have hsig:∀(i:Nat) (o:Ob),i≠id→(σ.set id (.arr t k ys))[i]?=some o→σ[i]?=some o:=by
  intro i o hi h
  rw[aU hidl,if_neg (fun e=>hi e.symm)] at h
  exact h
 have hfix:∀(i:Nat) (o:Ob),σ[i]?=some o→dW m ys.length (fun off len=>.sl id ys.length off len) o=o:=by
  intro i o h
  have:=hf m (by omega) ys.length (fun off len=>.sl id ys.length off len)
  have h2:(σ.map (dW m ys.length (fun off len=>.sl id ys.length off len)))[i]?=some o:=by rw[this];exact h
  rw[AQ,h] at h2
  simpa using h2
 have hhr:HR w F μ' (σ.set id (.arr t k ys)):=by
  refine⟨fun i o ho'=>?_,fun i hi=>?_,fun i j b h1 h2=>?_,fun i b hb=>?_,fun c b hb=>⟨(h.hr.col c b hb).1,fun i hi=>?_⟩⟩
  ·by_cases hi:i=id
   ·subst hi
    rw[aU hidl,if_pos rfl] at ho'
    cases ho'
    obtain⟨z1,z2⟩:=h.hr.obj m _ hobm
    refine⟨z1,?_⟩
    rcases z2 with⟨e1,_⟩|⟨b,cur,fr,hb,hh,hfr,hcells⟩
    ·rw[e1] at hlt;simp at hlt
    ·refine .inr ⟨b,cur,fr,by rw[m1];exact hb,hh,hfr,fun j q y d hy' hd=>?_⟩
     obtain⟨v,g1,g2⟩:=hcells j q y d hy' hd
     exact⟨v,g1,low d v (cI (hy y (AM hy')) hd) g2⟩
   ·have hs:=hsig i o hi ho'
    have hil:=(AH.1 hs).1
    have him:i≠m:=by omega
    have hfx:=hfix i o hs
    have:=h.hr.obj i o (by rw[hget,if_neg him];exact hs)
    cases o with
    |arr t' k' zs=>
     obtain⟨z1,z2⟩:=this
     refine⟨z1,?_⟩
     simp only[dW,Ob.arr.injEq,true_and] at hfx
     rcases z2 with⟨e1,e2⟩|⟨b,cur,fr,hb,hh,hfr,hcells⟩
     ·exact .inl ⟨e1,by rw[m3 i hi him];exact e2⟩
     ·refine .inr ⟨b,cur,fr,by rw[m3 i hi him];exact hb,hh,hfr,fun j q y d hy' hd=>?_⟩
      obtain⟨v,g1,g2⟩:=hcells j q y d hy' hd
      have hyf:fz m ys.length (fun off len=>.sl id ys.length off len) y=y:=by
       have h2:(zs.map (fz m ys.length (fun off len=>.sl id ys.length off len)))[j]?=some y:=by rw[hfx];exact hy'
       rw[AQ,hy'] at h2
       simpa using h2
      have hdf:fz m ys.length (fun off len=>.sl id ys.length off len) d=d:=by
       have h2:=ij (id:=m) (N:=ys.length) (r:=fun off len=>.sl id ys.length off len) (fun _ _=>rfl) y
       rw[hyf] at h2
       have h3:(y.cells.map (fz m ys.length (fun off len=>.sl id ys.length off len)))[q]?=some d:=by rw[←h2];exact hd
       rw[AQ,hd] at h3
       simpa using h3
      have:=all d v g2
      rw[hdf] at this
      exact⟨v,g1,this⟩
    |oth t' ds=>
     obtain⟨g0,vs,g1,g2,g3⟩:=this
     simp only[dW,Ob.oth.injEq,true_and] at hfx
     have hrf:∀q∈t'.refs,q≠id∧q≠m:=fun q hq=>by
      obtain⟨t2,es,e⟩:=g0 q hq
      exact⟨fun e'=>(by rw[e',hobid] at e;cases e),fun e'=>(by rw[e',hobm] at e;cases e)⟩
     refine⟨fun q hq=>?_,vs,g1.keep (fun b _=>rfl) (m3 i hi him) (fun q hq=>m3 q (hrf q hq).1 (hrf q hq).2),g2,fun j e v he hv=>?_⟩
     ·obtain⟨t2,es,e⟩:=g0 q hq
      rw[hget,if_neg (hrf q hq).2] at e
      exact⟨t2,es,by rw[aU hidl,if_neg (fun e'=>(hrf q hq).1 e'.symm)];exact e⟩
     ·have hdf:fz m ys.length (fun off len=>.sl id ys.length off len) e=e:=by
       have h2:(ds.map (fz m ys.length (fun off len=>.sl id ys.length off len)))[j]?=some e:=by rw[hfx];exact he
       rw[AQ,he] at h2
       simpa using h2
      have:=all e v (g3 j e v he hv)
      rwa [hdf] at this
    |dead=>exact(m3 i hi him).trans this
  ·simp at hi
   by_cases e:i=m
   ·subst e;exact m2
   ·rw[m3 i (by omega) e]
    exact h.hr.out i (by simp;omega)
  ·have key:∀i b,μ' i=some b→(i=id∧μ m=some b)∨(i≠id∧i≠m∧μ i=some b):=by
    intro i b hb
    by_cases e1:i=id
    ·subst e1;rw[m1] at hb;exact .inl ⟨rfl,hb⟩
    ·by_cases e2:i=m
     ·subst e2;rw[m2] at hb;cases hb
     ·rw[m3 i e1 e2] at hb;exact .inr ⟨e1,e2,hb⟩
   rcases key i b h1 with⟨e1,k1⟩|⟨e1,e2,k1⟩<;>rcases key j b h2 with⟨f1,l1⟩|⟨f1,f2,l1⟩
   ·rw[e1,f1]
   ·exact absurd (h.hr.inj _ _ _ l1 k1) f2
   ·exact absurd (h.hr.inj _ _ _ k1 l1) e2
   ·exact h.hr.inj _ _ _ k1 l1
  ·by_cases e1:i=id
   ·subst e1;rw[m1] at hb;exact h.hr.lt _ _ hb
   ·by_cases e2:i=m
    ·subst e2;rw[m2] at hb;cases hb
    ·rw[m3 i e1 e2] at hb;exact h.hr.lt _ _ hb
  ·by_cases e1:i=id
   ·subst e1;rw[m1] at hi;exact(h.hr.col c b hb).2 _ hi
   ·by_cases e2:i=m
    ·subst e2;rw[m2] at hi;cases hi
    ·rw[m3 i e1 e2] at hi;exact(h.hr.col c b hb).2 _ hi
 have hs0:∀(i:Nat) (o:Ob),C.σ0[i]?=some o→i≠m:=by
  rintro i o hi rfl
  rw[hσ] at hi
  have:=(AH.1 hi).1
  omega
 refine⟨F,μ',⟨hhr,fun q=>.undef,⟨h.step.imm,h.step.col,fun i o hi=>?_,fun i t' k' zs us hz hu he=>?_,fun i tt es hi=>?_⟩,⟨h.fr.os,h.fr.tape,h.fr.output,h.fr.size,h.fr.keep,fun i b hb=>?_,h.fr.drawn⟩,h.col,h.size,?_⟩,?_⟩
 ·obtain⟨o',g1,g2⟩:=h.step.ext i o hi
  rw[hget,if_neg (hs0 i o hi)] at g1
  by_cases e:i=id
  ·subst e
   rw[ho] at g1
   cases g1
   refine⟨_,by rw[aU hidl,if_pos rfl],?_⟩
   exact Ob.ext_trans g2 ⟨ys,rfl,by omega⟩
  ·exact⟨o',by rw[aU hidl,if_neg (fun e'=>e e'.symm)];exact g1,g2⟩
 ·have him:=hs0 i _ hz
  by_cases e:i=id
  ·subst e
   rw[aU hidl,if_pos rfl] at hu
   cases hu
   obtain⟨o',g1,us,rfl,g3⟩:=h.step.ext i _ hz
   rw[hobid] at g1
   cases g1
   omega
  ·rw[m3 i e him]
   refine h.step.same i t' k' zs us hz ?_ he
   rw[hget,if_neg him]
   exact hsig i _ e hu
 ·have him:=hs0 i _ hi
  have hii:i≠id:=by
   rintro rfl
   rw[hσ,ho] at hi
   cases hi
  rw[m3 i hii him]
  exact h.step.othsame i tt es hi
 ·by_cases e1:i=id
  ·subst e1
   rw[m1] at hb
   rcases h.fr.new m b hb with e|e
   ·rw[C.out m (by rw[hσ];omega)] at e;cases e
   ·exact .inr e
  ·by_cases e2:i=m
   ·subst e2;rw[m2] at hb;cases hb
   ·rw[m3 i e1 e2] at hb;exact h.fr.new i b hb
 ·have hd:=h.defers
  rw[hdd] at hd⊢
  exact hd
 ·have:=all _ _ (hm▸hv)
  simp only[fz,if_true] at this
  exact this
theorem ar.overlaps{P:Program}{L:Lay} (hL:af P L){o:Oper}{st:St}{g x1 x2:Operand}{xs:Array Operand}{ts:Array TypeId}{f tS tR:Nat}{e:Nat}{te:TI}{q0:Bool}{k0 b0:Nat}{z0:DV}{i1 g1 o1 l1 i2 g2 o2 l2 t1 t2 k1 k2:Nat}{a1 a2:List DV}
  (ho:o.op=.call {callee:=.value g,args:=xs,argTypes:=ts}) (hx:xs.toList=[x1,x2]) (hg:ev st.env g=.fn f [])
  (hf:∀(v1 v2:Value) (w:World),(callFunc f #[v1,v2]).run P w=((Extern.SlicesOverlaps.overlaps #[tS,tS] #[tR] #[v1,v2]).run P w).andThen fun v w=>.ok (.value v) w)
  (ht:L tS=some ⟨q0,k0,b0,.slice e,z0⟩) (hte:L e=some te) (h1:(ev st.env x1).unx=.sl i1 g1 o1 l1) (h2:(ev st.env x2).unx=.sl i2 g2 o2 l2) (hne:i1≠i2)
  (hb1:st.ob[i1]?=some (.arr t1 k1 a1)) (hb2:st.ob[i2]?=some (.arr t2 k2 a2)) (hg1:g1=a1.length) (hg2:g2=a2.length) (hk1:1<k1) (hp1:0<l1∨o1=0) (hn1:0<a1.length) (hn2:0<a2.length) (hk2:0<k2) (hp2:0<l2∨o2=0):ar P o st (.bool false) st.ob:=by
 refine ar.pure fun a w F μ hr he=>⟨.bool false,?_,.bool⟩
 obtain⟨desc,hu,rfl⟩:=(hL _ _ ht).und
 have hsz:=(hL _ _ hte).size
 have hv:=he g
 rw[hg] at hv
 have hge:a.eval g=.func (.func f) #[] #[]:=by
  generalize a.eval g=v at hv
  cases hv with
  | @fn _ _ vs hl hh=>
   cases vs with
   |nil=>rfl
   |cons v r=>simp at hl
 have r1:=iA (he x1)
 have r2:=iA (he x2)
 rw[h1] at r1
 rw[h2] at r2
 have lie:∀{i g' o' l t' k':Nat}{AG:List DV}{v:Value},Rep w F μ st.ob (.sl i g' o' l) v→st.ob[i]?=some (.arr t' k' AG)→g'=AG.length→0<AG.length→0<k'→(0<l∨o'=0)→
   ∃b q cap cur fr,v=.slice (some ⟨b,q,none⟩) l cap∧μ i=some b∧w.heap[b]?=some (.cells cur t' fr)∧kr fr cur.size k'∧0<cur.size:=by
  intro i g' o' l t' k' AG v hv hob hgl hpos hk' hp
  cases hv with
  | @sl _ _ _ _ A cap hs=>
   obtain⟨t3,k3,as3,ho3,f1,f2,f3,f4,f5⟩:=hs
   rw[hob] at ho3
   cases ho3
   rcases f5 hgl with⟨e1,_⟩|⟨b,cur,fr,e1,e2,e3,e4,e5⟩
   ·omega
   obtain⟨z1,z2⟩:=hr.obj _ _ hob
   rcases z2 with⟨y1,_⟩|⟨b',cur',fr',y1,y2,y3,y4⟩
   ·rw[y1] at hpos;simp at hpos
   rw[e1] at y1;cases y1
   rw[e2] at y2;cases y2
   have hx0:AG[0]?=some (AG[0]'hpos):=AI _
   have hl0:=z1 _ (BS hpos)
   obtain⟨u,hu,_⟩:=y4 0 0 _ _ hx0 (AI (show 0<(AG[0]'hpos).cells.length by omega))
   have:=(Bm.1 hu).1
   exact⟨b,o'*k',cap,cur,fr,by rw[e5 hp],e1,e2,y3,by omega⟩
 obtain⟨c1,q1,cap1,cur1,fr1,e1,n1,d1,f1,p1⟩:=lie r1 hb1 hg1 hn1 (by omega) hp1
 obtain⟨c2,q2,cap2,cur2,fr2,e2,n2,d2,f2,p2⟩:=lie r2 hb2 hg2 hn2 hk2 hp2
 have hfr1:fr1=(0,0):=by
  rcases f1 with h|⟨_,h⟩
  ·exact h
  ·omega
 subst hfr1
 have hbb:c1≠c2:=fun e=>hne (hr.inj _ _ _ n1 (by rw[e];exact n2))
 have hfz:∀q,w.frozen? ⟨c1,q,none⟩=false:=fun q=>by
  unfold World.frozen?
  simp only[d1]
  simp
 have hrun:=Lib.run_overlaps_apart (P:=P) w tS tR e hu te.k hsz ⟨c1,q1,none⟩ ⟨c2,q2,none⟩ l1 cap1 l2 cap2 hbb t1 t2 cur1.size cur2.size (by unfold World.shape?;simp only[d1]) (by unfold World.shape?;simp only[d2]) (by omega) (hfz _) (hfz _)
 have hargs:xs.map a.eval=⟨xs.toList.map a.eval⟩:=by apply BJ;simp
 unfold execOp
 rw[ho]
 dsimp only[resolve]
 rw[hge]
 have harr:(xs.map a.eval++(#[]:Array Value))= #[a.eval x1,a.eval x2]:=by rw[hargs,hx];rfl
 simp only[Deferred.ofValue,Sem.run_bind,Sem.run_pure,Result.andThen_ok,invoke,B3,harr,hf,e1,e2,hrun]
section
inductive Gz (O:List Ob) (c n:Nat) (J:Option Nat):DV→DV→Prop
 |low {d} (h:Low n d):Gz O c n J d d
 |nil {k}:Gz O c n J .nils (.vec c k [])
 |emp {k}:Gz O c n J .emp (.vec c k [])
 |own {id g off l} (h:J=some id):Gz O c n J (.sl id g off l) (.sl n g off l)
 |agg{xs ys:List DV} (hl:xs.length=ys.length) (h:∀(i:Nat) (x y:DV),xs[i]?=some x→ys[i]?=some y→Gz O c n J x y):Gz O c n J (.agg xs) (.agg ys)
 |tup{xs ys:List DV} (hl:xs.length=ys.length) (h:∀(i:Nat) (x y:DV),xs[i]?=some x→ys[i]?=some y→Gz O c n J x y):Gz O c n J (.tup xs) (.tup ys)
 |sl{id off l t k:Nat}{xs ys:List DV} (hn:n≤id) (hJ:J≠some id) (ho:O[id]?=some (.arr t k xs)) (hl:ys.length=l)
  (hk:∀(j:Nat) (x y:DV),j<l→xs[off+j]?=some x→ys[j]?=some y→x.cells.length=y.cells.length)
  (h:∀(j i:Nat) (x y d D:DV),j<l→xs[off+j]?=some x→ys[j]?=some y→x.cells[i]?=some d→y.cells[i]?=some D→Gz O c n J d D):Gz O c n J (.sl id xs.length off l) (.vec c k ys)
section
variable{w:World}{F F':Nat→Nat→Prop}{μ μ':Nat→Option Nat}{O O':List Ob}{c n:Nat}{J:Option Nat}
theorem Rep.lowN (hF:∀c b,F c b→F' c b) (hσ:∀(i:Nat) (o:Ob),i<n→O[i]?=some o→O'[i]?=some o) (hμ:∀i,i<n→μ' i=μ i){d:DV}{v:Value} (h:Rep w F μ O d v):Low n d→Rep w F' μ' O' d v:=by
 have sl:∀{id g off len:Nat}{A:Option Addr}{cap:Nat},id<n→dX w μ O id g off len A cap→dX w μ' O' id g off len A cap:=by
  rintro id g off len A cap hi ⟨t,k,xs,h1,h2,h3,h4,h5,h6⟩
  exact⟨t,k,xs,hσ _ _ hi h1,h2,h3,h4,h5,by rw[hμ _ hi];exact h6⟩
 induction h with
 |int=>intro _;exact .int
 |bool=>intro _;exact .bool
 |str=>intro _;exact .str
 |vec u hc hm ha hk hr ih=>
  intro hl
  exact .vec u hc hm (fun h0=>by obtain⟨a,f1,f2,f3⟩:=ha h0;exact⟨a,f1,hF _ _ f2,f3⟩) hk fun j i x d hx hd=>ih j i x d hx hd (cI ((iD _ _ _).1 hl x (AM hx)) hd)
 |agg hl h ih=>intro h0;exact .agg hl fun i d v hd hv=>ih i d v hd hv ((aH _).1 h0 d (AM hd))
 |tup hl h ih=>intro h0;exact .tup hl fun i d v hd hv=>ih i d v hd hv ((eh _).1 h0 d (AM hd))
 |ptr h=>
  intro h0
  have hi:=(fm _ _ _ _).1 h0
  obtain⟨t,k,xs,h1,h2,h3⟩:=h
  exact .ptr ⟨t,k,xs,hσ _ _ hi h1,h2,by rw[hμ _ hi];exact h3⟩
 |vptr u hF' hu hr ih=>intro h0;exact .vptr u (hF _ _ hF') hu fun i d hd=>ih i d hd ((mR _ _).1 h0 d (AM hd))
 |sl h=>intro h0;exact .sl (sl ((da _ _ _ _).1 h0) h)
 |slx h=>intro h0;exact .slx (sl ((pf _ _ _ _ _).1 h0) h)
 |nils=>intro _;exact .nils
 |nilp=>intro _;exact .nilp
 |fn hl h ih=>intro h0;exact .fn hl fun i d v hd hv=>ih i d v hd hv ((pj _ _).1 h0 d (AM hd))
 |nilf=>intro _;exact .nilf
 |iface h ih=>intro h0;exact .iface (ih ((dz _ _).1 h0))
 |nili=>intro _;exact .nili
 |mp h ho=>intro h0;have hi:=(pi _).1 h0;obtain⟨t,ds,e,hk⟩:=ho;exact .mp (by rw[hμ _ hi];exact h) ⟨t,ds,hσ _ _ hi e,hk⟩
 |it h ho=>intro h0;have hi:=(sQ _).1 h0;obtain⟨t,ds,e,hk⟩:=ho;exact .it (by rw[hμ _ hi];exact h) ⟨t,ds,hσ _ _ hi e,hk⟩
 |yld h ho=>intro h0;have hi:=(pe _).1 h0;obtain⟨t,ds,e,hk⟩:=ho;exact .yld (by rw[hμ _ hi];exact h) ⟨t,ds,hσ _ _ hi e,hk⟩
 |emp=>intro _;exact .emp
 |undef=>intro _;exact .undef
 |skip=>intro _;exact .skip
theorem Gz.rep (hr:HR w F μ O) (hlow:∀d v,Low n d→Rep w F μ O d v→Rep w F' μ' O' d v) (hown:∀(id g off len:Nat) (A:Option Addr) (cap:Nat),J=some id→dX w μ O id g off len A cap→dX w μ' O' n g off len A cap)
  (hμ:∀id b,n≤id→J≠some id→μ id=some b→F' c b){d D:DV} (h:Gz O c n J d D):∀v,Rep w F μ O d v→Rep w F' μ' O' D v:=by
 induction h with
 |low h=>intro v hv;exact hlow _ v h hv
 |nil=>
  intro v hv
  cases hv
  exact .vec (A:=none) (cap:=0) (fun _ _=>undef) (by simp) (by simp) (fun h=>by simp at h) (fun x hx=>by simp at hx) (fun j i x d hx=>by simp at hx)
 |emp=>
  intro v hv
  cases hv
  exact .vec (cap:=0) (fun _ _=>undef) (by simp) (by simp) (fun h=>by simp at h) (fun x hx=>by simp at hx) (fun j i x d hx=>by simp at hx)
 |own h=>
  intro v hv
  cases hv with
  |sl hs=>exact .sl (hown _ _ _ _ _ _ h hs)
 | @agg xs ys hl h ih=>
  intro v hv
  cases hv with
  |agg hl' hh=>
   refine .agg (hl.symm.trans hl') fun i d v hd hv=>?_
   have hi:=(AH.1 hd).1
   have hx:xs[i]?=some (xs[i]'(by omega)):=AI _
   exact ih i _ _ hx hd v (hh i _ _ hx hv)
 | @tup xs ys hl h ih=>
  intro v hv
  cases hv with
  |tup hl' hh=>
   refine .tup (hl.symm.trans hl') fun i d v hd hv=>?_
   have hi:=(AH.1 hd).1
   have hx:xs[i]?=some (xs[i]'(by omega)):=AI _
   exact ih i _ _ hx hd v (hh i _ _ hx hv)
 | @sl id off l t k xs ys hn hJ ho hlen hk h ih=>
  intro v hv
  cases hv with
  | @sl _ _ _ _ A cap hs=>
   obtain⟨t2,k2,xs2,ho2,q1,q2,q3,q4,q5⟩:=hs
   rw[ho] at ho2
   cases ho2
   obtain⟨hk1,hor⟩:=hr.obj _ _ ho
   rcases q5 rfl with⟨g0,rfl,rfl,hmu⟩|⟨b,cur,fr,hmu,hh,hsz,hAs,hA⟩
   ·have:l=0:=by omega
    subst this
    have hy:ys=[]:=B1.1 hlen
    subst hy
    exact .vec (A:=none) (cap:=0) (fun _ _=>undef) (by simp) (by simp) (fun h=>by simp at h) (fun x hx=>by simp at hx) (fun j i x d hx=>by simp at hx)
   ·rcases hor with⟨rfl,hmu'⟩|⟨b',cur',fr',hmu',hh',hfr',hcells⟩
    ·rw[hmu] at hmu';cases hmu'
    rw[hmu] at hmu';cases hmu'
    rw[hh] at hh';cases hh'
    have:=Rep.vec (w:=w) (F:=F') (μ:=μ') (σ:=O') (c:=c) (k:=k) (xs:=ys) (A:=A) (cap:=cap) (fun j i=>(cur[(off+j)*k+i]?).getD undef) (by omega) q4 (fun h0=>by
     refine⟨_,hA (.inl (by omega)),hμ _ _ hn hJ hmu,fun j i hj hi=>?_⟩
     have hxx:xs[off+j]?=some (xs[off+j]'(by omega)):=AI _
     have hxk:=hk1 _ (AM hxx)
     obtain⟨vv,g1,g2⟩:=hcells (off+j) i _ _ hxx (AI (show i<_ by rw[hxk];exact hi))
     rw[g1]
     rw[cj]
     unfold World.cell?
     rw[hh]
     dsimp only
     rw[show off*k+(j*k+i)=(off+j)*k+i by rw[Bx];omega,g1]
     rfl) (fun y hy=>by
     obtain⟨j,hj⟩:=Cc hy
     have hjl:=(AH.1 hj).1
     have hxx:xs[off+j]?=some (xs[off+j]'(by omega)):=AI _
     rw[←hk j _ _ (by omega) hxx hj]
     exact hk1 _ (AM hxx)) (fun j i y D hy hD=>by
     have hjl:=(AH.1 hy).1
     have hil:=(AH.1 hD).1
     have hxx:xs[off+j]?=some (xs[off+j]'(by omega)):=AI _
     have hlc:=hk j _ _ (by omega) hxx hy
     have hd:(xs[off+j]'(by omega)).cells[i]?=some ((xs[off+j]'(by omega)).cells[i]'(by omega)):=AI _
     obtain⟨vv,g1,g2⟩:=hcells (off+j) i _ _ hxx hd
     rw[g1]
     exact ih j i _ _ _ _ (by omega) hxx hy hd hD vv g2)
    rwa [hlen] at this
end
def er (σ σ1:List Ob):Prop:=σ1.length=σ.length∧∀(i:Nat) (o:Ob),σ1[i]?=some o→σ[i]?=some o∨(∃t k xs,o=.arr t k xs∧∀x∈xs,Low σ.length x)∨∃t ds,o=.oth t ds∧t.refs=[]∧∀d∈ds,Low σ.length d
theorem er.refl (σ:List Ob):er σ σ:=⟨rfl,fun _ _ h=>.inl h⟩
theorem er.set{σ σ1:List Ob} (h:er σ σ1){i t k:Nat}{xs:List DV} (hx:∀x∈xs,Low σ.length x):er σ (σ1.set i (.arr t k xs)):=by
 refine⟨by simpa using h.1,fun j o ho=>?_⟩
 rcases Bp i σ1.length with hi|hi
 ·rw[aU hi] at ho
  split at ho
  ·cases ho;exact .inr (.inl ⟨_,_,_,rfl,hx⟩)
  ·exact h.2 j o ho
 ·rw[List.set_eq_of_length_le hi] at ho
  exact h.2 j o ho
def df (O:List Ob):Option Nat→List Ob
 |none=> []
 |some id=> [O.getD id .dead]
theorem After.tidy{w w':World}{F F1:Nat→Nat→Prop}{μ μ1:Nat→Option Nat}{σ σ1 G:List Ob}{c:Nat}{d D:DV}{v:Value} (J:Option Nat) (hr:HR w F μ σ) (haf:After w F μ σ w' F1 μ1 (σ1++G)) (hrep:Rep w' F1 μ1 (σ1++G) d v) (h1:er σ σ1) (hz:Gz (σ1++G) c σ.length J d D)
  (hJ:∀id,J=some id→σ.length≤id∧∃t k xs,(σ1++G)[id]?=some (.arr t k xs)∧∀x∈xs,Low σ.length x):∃F2 μ2,After w F μ σ w' F2 μ2 (σ1++df (σ1++G) J)∧Rep w' F2 μ2 (σ1++df (σ1++G) J) D v:=by
 obtain⟨n,hn⟩:∃n,n=σ.length:=⟨_,rfl⟩
 have hl1:σ1.length=n:=by rw[hn];exact h1.1
 rw[←hn] at hz hJ
 obtain⟨μ2,hμ2⟩:∃μ2:Nat→Option Nat,μ2=fun i=>if i<n then μ1 i else if i=n then J.bind μ1 else none:=⟨_,rfl⟩
 obtain⟨F2,hF2⟩:∃F2:Nat→Nat→Prop,F2=fun c' b=>F1 c' b∨(c'=c∧∃id,n≤id∧J≠some id∧μ1 id=some b):=⟨_,rfl⟩
 have m1:∀i,i<n→μ2 i=μ1 i:=fun i hi=>by rw[hμ2];exact if_pos hi
 have mn:μ2 n=J.bind μ1:=by rw[hμ2];dsimp only;rw[if_neg (by omega),if_pos rfl]
 have mo:∀i,n<i→μ2 i=none:=fun i hi=>by rw[hμ2];dsimp only;rw[if_neg (by omega),if_neg (by omega)]
 have f1:∀c b,F1 c b→F2 c b:=fun c b hb=>by rw[hF2];exact .inl hb
 have g1:∀(i:Nat) (o:Ob),i<n→(σ1++G)[i]?=some o→(σ1++df (σ1++G) J)[i]?=some o:=fun i o hi ho=>by
  rw[AJ (by omega)] at ho⊢;exact ho
 have low:∀d v,Low n d→Rep w' F1 μ1 (σ1++G) d v→Rep w' F2 μ2 (σ1++df (σ1++G) J) d v:=fun d v hd h=>h.lowN f1 g1 m1 hd
 have gJ:∀id t k xs,J=some id→(σ1++G)[id]?=some (.arr t k xs)→(σ1++df (σ1++G) J)[n]?=some (.arr t k xs):=by
  rintro id t k xs rfl ho
  rw[AT (by omega),hl1,B7]
  simp only[df,AY,AZ,ho,A8]
 have key:∀i b,μ2 i=some b→∃i',μ1 i'=some b∧(i'=i∧i<n∨i=n∧J=some i'∧n≤i'):=by
  intro i b hb
  rcases Dl i n with hi|hi|hi
  ·exact⟨i,by rw[←m1 i hi];exact hb,.inl ⟨rfl,hi⟩⟩
  ·subst hi
   rw[mn] at hb
   cases hj:J with
   |none=>rw[hj] at hb;cases hb
   |some id=>rw[hj] at hb;exact⟨id,hb,.inr ⟨rfl,rfl,(hJ id hj).1⟩⟩
  ·rw[mo i hi] at hb;cases hb
 have newb:∀i b,n≤i→μ1 i=some b→w.heap.size≤b:=fun i b hi hb=>by
  rcases haf.fr.new i b hb with e|e
  ·rw[hr.out i (by omega)] at e;cases e
  ·exact e
 have hlowσ:∀(i:Nat) (o:Ob),σ1[i]?=some o→(∀t k xs,o=.arr t k xs→∀x∈xs,Low n x)∧∀t ds,o=.oth t ds→(∀q∈t.refs,q<n)∧∀d∈ds,Low n d:=by
  intro i o ho
  rcases h1.2 i o ho with h2|⟨t,k,xs,rfl,h2⟩|⟨t,ds,rfl,h2,h3⟩
  ·have hob:=hr.obj i o h2
   refine⟨fun t k xs e x hx=>?_,fun t ds e=>?_⟩
   ·subst e
    obtain⟨z1,z2⟩:=hob
    intro id hid
    refine fx fun q e he=>?_
    obtain⟨j,hj⟩:=Cc hx
    rcases z2 with⟨y1,_⟩|⟨b,cur,fr,_,_,_,y4⟩
    ·rw[y1] at hx;simp at hx
    ·obtain⟨v,_,hv⟩:=y4 j q x e hj he
     exact hv.noId id (by omega)
   ·subst e
    obtain⟨z0,vs',z1,z2,z3⟩:=hob
    refine⟨fun q hq=>?_,fun d hd id hid=>?_⟩
    ·obtain⟨_,_,e⟩:=z0 q hq
     have:=(AH.1 e).1
     omega
    ·obtain⟨j,hj⟩:=Cc hd
     have hjl:=(AH.1 hj).1
     exact(z3 j d _ hj (AI (show j<vs'.length by omega))).noId id (by omega)
  ·exact⟨fun t' k' xs' e x hx=>by cases e;rw[hn];exact h2 x hx,fun t' ds e=>by cases e⟩
  ·exact⟨fun t' k' xs' e=>(by cases e),fun t' ds' e=>by cases e;exact⟨fun q hq=>(by rw[h2] at hq;simp at hq),fun d hd=>by rw[hn];exact h3 d hd⟩⟩
 have hhr:HR w' F2 μ2 (σ1++df (σ1++G) J):=by
  refine⟨fun i o ho=>?_,fun i hi=>?_,fun i j b k1 k2=>?_,fun i b hb=>?_,fun c' b hb=>?_⟩
  ·rcases Bp i n with hi|hi
   ·rw[AJ (by omega)] at ho
    have hoO:(σ1++G)[i]?=some o:=by rw[AJ (by omega)];exact ho
    have hob:=haf.hr.obj i o hoO
    obtain⟨l1,l2⟩:=hlowσ i o ho
    cases o with
    |arr t k xs=>
     obtain⟨z1,z2⟩:=hob
     refine⟨z1,z2.imp (fun e=>⟨e.1,by rw[m1 i hi];exact e.2⟩) ?_⟩
     rintro⟨b,cur,fr,y1,y2,y3,y4⟩
     refine⟨b,cur,fr,by rw[m1 i hi];exact y1,y2,y3,fun j q x d hx hd=>?_⟩
     obtain⟨v,u1,u2⟩:=y4 j q x d hx hd
     exact⟨v,u1,low d v (cI (l1 t k xs rfl x (AM hx)) hd) u2⟩
    |oth t ds=>
     obtain⟨z0,vs',z1,z2,z3⟩:=hob
     obtain⟨l3,l4⟩:=l2 t ds rfl
     refine⟨fun q hq=>?_,vs',z1.keep (fun b _=>rfl) (m1 i hi) (fun q hq=>m1 q (l3 q hq)),z2,fun j d v hd hv=>low d v (l4 d (AM hd)) (z3 j d v hd hv)⟩
     obtain⟨t',es,e⟩:=z0 q hq
     exact⟨t',es,g1 q _ (l3 q hq) e⟩
    |dead=>exact(m1 i hi).trans hob
   ·rw[AT (by omega),hl1] at ho
    cases hj:J with
    |none=>rw[hj] at ho;simp[df] at ho
    |some id=>
     obtain⟨hid,t,k,xs,hO,hx⟩:=hJ id hj
     have hkp:df (σ1++G) (some id)=[.arr t k xs]:=by simp[df,AZ,hO]
     rw[hj] at low ho
     rw[hkp] at ho low⊢
     have hin:i=n:=by
      rcases B4 (i-n) with h0|h0
      ·omega
      ·rw[BA (by simp;omega)] at ho;cases ho
     subst hin
     simp at ho
     subst ho
     obtain⟨z1,z2⟩:=haf.hr.obj id _ hO
     refine⟨z1,z2.imp (fun e=>⟨e.1,by rw[mn,hj];exact e.2⟩) ?_⟩
     rintro⟨b,cur,fr,y1,y2,y3,y4⟩
     refine⟨b,cur,fr,by rw[mn,hj];exact y1,y2,y3,fun j q x d hx' hd=>?_⟩
     obtain⟨v,u1,u2⟩:=y4 j q x d hx' hd
     exact⟨v,u1,low d v (cI (hx x (AM hx')) hd) u2⟩
  ·cases hj:J with
   |none=>
    rw[hj] at hi
    simp only[df,AK,hl1] at hi
    rcases Bp n i with h2|h2
    ·exact mo i h2
    ·obtain rfl:i=n:=by omega
     rw[mn,hj];rfl
   |some id=>
    rw[hj] at hi
    simp only[df,AP,Ca,hl1] at hi
    exact mo i (by omega)
  ·obtain⟨i',a1,a2⟩:=key i b k1
   obtain⟨j',b1,b2⟩:=key j b k2
   have:=haf.hr.inj _ _ _ a1 b1
   subst this
   rcases a2 with⟨rfl,_⟩|⟨rfl,_,_⟩<;>rcases b2 with⟨rfl,_⟩|⟨rfl,_,_⟩<;>omega
  ·obtain⟨i',a1,_⟩:=key i b hb
   exact haf.hr.lt _ _ a1
  ·rw[hF2] at hb
   rcases hb with hb|⟨rfl,id,hid,hne,hb⟩
   ·refine⟨(haf.hr.col c' b hb).1,fun i hi=>?_⟩
    obtain⟨i',a1,_⟩:=key i b hi
    exact(haf.hr.col c' b hb).2 i' a1
   ·refine⟨haf.hr.lt _ _ hb,fun i hi=>?_⟩
    obtain⟨i',a1,a2⟩:=key i b hi
    have:=haf.hr.inj _ _ _ a1 hb
    subst this
    rcases a2 with⟨rfl,hlt⟩|⟨_,e,_⟩
    ·omega
    ·exact hne e
 refine⟨F2,μ2,⟨hhr,⟨haf.step.imm,fun c b hb=>f1 c b (haf.step.col c b hb),fun i o ho=>?_,fun i t k xs ys hx hy he=>?_,fun i t ds ho=>?_⟩,⟨haf.fr.os,haf.fr.tape,haf.fr.output,haf.fr.size,haf.fr.keep,fun i b hb=>?_,haf.fr.drawn⟩,fun c' b hb=>?_⟩,?_⟩
 ·have hi:=(AH.1 ho).1
  obtain⟨o',a1,a2⟩:=haf.step.ext i o ho
  exact⟨o',g1 i o' (by omega) a1,a2⟩
 ·have hi:=(AH.1 hx).1
  rw[m1 i (by omega)]
  refine haf.step.same i t k xs ys hx ?_ he
  rw[AJ (by omega)] at hy⊢
  exact hy
 ·have hi:=(AH.1 ho).1
  rw[m1 i (by omega)]
  exact haf.step.othsame i t ds ho
 ·obtain⟨i',a1,a2⟩:=key i b hb
  rcases a2 with⟨rfl,_⟩|⟨rfl,_,hge⟩
  ·exact haf.fr.new _ b a1
  ·exact .inr (newb _ b hge a1)
 ·rw[hF2] at hb
  rcases hb with hb|⟨rfl,id,hid,_,hb⟩
  ·exact haf.col c' b hb
  ·exact .inr (newb id b hid hb)
 ·refine hz.rep haf.hr low (fun id g off len A cap hj hs=>?_) (fun id b hid hne hb=>by rw[hF2];exact .inr ⟨rfl,id,hid,hne,hb⟩) v hrep
  obtain⟨t,k,xs,a1,a2,a3,a4,a5,a6⟩:=hs
  refine⟨t,k,xs,gJ id t k xs hj a1,a2,a3,a4,a5,fun e=>?_⟩
  rw[mn,hj]
  exact a6 e
theorem Ok.tidy{P:Program}{f:FuncId}{args:List DV}{σ σ1 G:List Ob}{c:Nat}{d D:DV} (J:Option Nat) (h:Ok P f args σ (.ret d) (σ1++G)) (h1:er σ σ1) (hz:Gz (σ1++G) c σ.length J d D)
  (hJ:∀id,J=some id→σ.length≤id∧∃t k xs,(σ1++G)[id]?=some (.arr t k xs)∧∀x∈xs,Low σ.length x):Ok P f args σ (.ret D) (σ1++df (σ1++G) J):=by
 refine⟨h.enters,fun w F μ vs hr hv=>(h.calls w F μ vs hr hv).mono fun e w' he=>?_⟩
 obtain⟨F1,μ1,v,haf,rfl,hrep⟩:=he
 obtain⟨F2,μ2,k1,k2⟩:=haf.tidy J hr hrep h1 hz hJ
 exact⟨F2,μ2,v,k1,rfl,k2⟩
def Tid (σ:List Ob) (c:Nat) (R:Out→List Ob→Prop) (o:Out) (O:List Ob):Prop:=
 ∃(σ1 G:List Ob) (J:Option Nat) (d D:DV),O=σ1++G∧er σ σ1∧Gz O c σ.length J d D∧(∀id,J=some id→σ.length≤id∧∃t k xs,O[id]?=some (.arr t k xs)∧∀x∈xs,Low σ.length x)∧
  (o=.ret d∧R (.ret D) (σ1++df O J)∨o=.pan d∧R (.pan D) (σ1++df O J))
theorem OkE.tidy{P:Program}{f:FuncId}{args:List DV}{σ:List Ob}{c:Nat}{R:Out→List Ob→Prop} (h:OkE P f args σ (Tid σ c R)):OkE P f args σ R:=by
 refine⟨h.enters,fun w F μ vs hr hv=>(h.calls w F μ vs hr hv).mono fun e w' he=>?_⟩
 obtain⟨o,O,⟨σ1,G,J,d,D,rfl,h1,hz,hJ,h2⟩,F1,μ1,v,haf,he⟩:=he
 rcases h2 with⟨rfl,h2⟩|⟨rfl,h2⟩
 ·obtain⟨rfl,hrep⟩:=he
  obtain⟨F2,μ2,k1,k2⟩:=haf.tidy J hr hrep h1 hz hJ
  exact⟨_,_,h2,F2,μ2,v,k1,rfl,k2⟩
 ·obtain⟨rfl,hrep⟩:=he
  obtain⟨F2,μ2,k1,k2⟩:=haf.tidy J hr hrep h1 hz hJ
  exact⟨_,_,h2,F2,μ2,v,k1,rfl,k2⟩
theorem Ok.lendF{P:Program}{f:FuncId}{args args':List DV}{σ:List Ob}{c:Nat}{D:DV} (h:Ok P f args' [] (.ret D) []) (hl:args.length=args'.length) (hz:∀(i:Nat) (d d':DV),args[i]?=some d→args'[i]?=some d'→Fz σ c d d') (hD:Cl c (fun _=>True) D):
  Ok P f args σ (.ret D) σ:=by
 refine⟨h.enters,fun w F μ vs hr hv=>?_⟩
 obtain⟨F',hF'⟩:∃F':Nat→Nat→Prop,F'=fun c' b=>F c' b∨(c'=c∧∃id,μ id=some b):=⟨_,rfl⟩
 have f1:∀c b,F c b→F' c b:=fun c b hb=>by rw[hF'];exact .inl hb
 have hr0:HR w F' (fun _=>none) []:=by
  refine⟨fun id o h=>(by simp at h),fun _ _=>rfl,fun _ _ _ h=>(by cases h),fun _ _ h=>(by cases h),fun c' b hb=>⟨?_,fun _ e=>(by cases e)⟩⟩
  rw[hF'] at hb
  rcases hb with hb|⟨_,id,hb⟩
  ·exact(hr.col c' b hb).1
  ·exact hr.lt id b hb
 have hv0:bF w F' (fun _=>none) [] args' vs:=by
  refine⟨by rw[←hl];exact hv.1,fun i d' v hd' hv'=>?_⟩
  have hi:=(AH.1 hd').1
  have hd:args[i]?=some (args[i]'(by omega)):=AI _
  exact(hz i _ _ hd hd').rep hr f1 (fun id b hb=>by rw[hF'];exact .inr ⟨rfl,id,hb⟩) v (hv.2 i _ v hd hv')
 refine(h.calls w F' _ vs hr0 hv0).mono fun e w' he=>?_
 obtain⟨F1,μ1,v,haf,rfl,hrep⟩:=he
 have hk:∀b,b<w.heap.size→w'.heap[b]?=w.heap[b]?:=fun b hb=>haf.fr.keep b hb fun _ e=>by cases e
 obtain⟨F2,hF2⟩:∃F2:Nat→Nat→Prop,F2=fun c' b=>F c' b∨(c'≠c∧F1 c' b):=⟨_,rfl⟩
 have g2:∀c' b,F2 c' b→F c' b∨(w.heap.size≤b∧b<w'.heap.size):=by
  intro c' b hb
  rw[hF2] at hb
  rcases hb with hb|⟨hne,hb⟩
  ·exact .inl hb
  ·rcases haf.col c' b hb with h2|h2
   ·rw[hF'] at h2
    rcases h2 with h2|⟨e,_⟩
    ·exact .inl h2
    ·exact absurd e hne
   ·exact .inr ⟨h2,(haf.hr.col c' b hb).1⟩
 obtain⟨k1,k2⟩:=hr.keepAll (F':=F2) hk (fun c b hb=>by rw[hF2];exact .inl hb) g2 haf.fr.size
 refine⟨F2,μ,v,⟨k1,k2,⟨haf.fr.os,haf.fr.tape,haf.fr.output,haf.fr.size,fun b hb _=>hk b hb,fun id b e=>.inl e,haf.fr.drawn⟩,fun c' b hb=>(g2 c' b hb).imp (fun h=>h) (fun h=>h.1)⟩,rfl,?_⟩
 exact Rep.back (K:=fun _=>True) (fun c' b hne hb=>by rw[hF2];exact .inr ⟨hne,hb⟩) (fun _ _ _ _ hk=>absurd trivial hk) hrep hD
end
theorem ai.keep (n:Nat){C:Ctx}{env:List (Nat×DV)}{σ X:List Ob} (l:List (Nat×DV)) (hσ:C.σ0=σ) (hf:gF σ) (hl:aC env l) (he:eZ (σ.length+(X.take n).length) l) (ho:g7 (σ.length+(X.take n).length) (X.take n)) (ht:cb (σ.length+(X.take n).length) (X.drop n)) (hdd:C.dd=[]:=by assumption):
  ai C ⟨env,σ++X⟩ ⟨l,σ++X.take n⟩:=by
 rw[←AP] at he ho ht
 have:=ai.clear (own:=X.take n) (tmp:=X.drop n) (env:=env) l hσ hf hl he ho ht
 rwa [List.take_append_drop] at this
def eB (b:UInt8):DV:=.int .u8 b.toNat
def eN (n:Nat):DV:=.int .u64 n
def dc:List UInt8→Nat
 | []=>0
 |b::r=>b.toNat+256*dc r
theorem qR:∀l:List UInt8,dc l<256^l.length
 | []=>by simp[dc]
 |b::r=>by
  have:=qR r
  have hb:=b.toNat_lt
  simp only[dc,A5,DH]
  omega
theorem j9:∀(l r:List UInt8),dc (l++r)=dc l+256^l.length*dc r
 | [],r=>by simp[dc]
 |b::l,r=>by
  simp only[Bq,dc,j9 l r,A5,DH]
  rw[Nat.mul_add,Nat.mul_assoc,C7 256 (256^l.length*dc r),Nat.mul_assoc,C7 256 (dc r)]
  omega
theorem rG (a b:Nat) (ha:a<2^64) (hb:b<2^64):bits .u64 .or (a:Int) (b:Int)=((a|||b:Nat):Int):=by
 have h:a|||b<2^64:=Nat.or_lt_two_pow ha hb
 simp only[bits]
 have e:(BitVec.ofInt IntKind.u64.bits (a:Int)|||BitVec.ofInt IntKind.u64.bits (b:Int)).toNat=a|||b:=by
  simp only[BitVec.toNat_or,BitVec.ofInt_natCast,BitVec.toNat_ofNat]
  rw[show IntKind.u64.bits=64 from rfl,CK ha,CK hb]
 rw[e]
 exact IntWalk.u64_in _ (by omega)
theorem ww (a c k:Nat) (h:a<256^k):a|||c*2^(8*k)=a+c*2^(8*k):=by
 have h':a<2^(8*k):=by rw[Nat.pow_mul];exact h
 have:=Nat.shiftLeft_add_eq_or_of_lt h' c
 rw[Nat.shiftLeft_eq] at this
 rw[Nat.or_comm,←this,Nat.add_comm]
def cq (bs:List UInt8) (at_ size:Int):Nat×Int:=
 if size<1∨8<size then(0,1) else if at_<0 then(0,4) else if(bs.length:Int)<at_∨(bs.length:Int)-at_<size then(0,8)
 else(dc ((bs.drop at_.toNat).take size.toNat),0)
theorem wV (c:Nat) (bs:List UInt8) (at_ size:Int) (σ:List Ob) (ha: -9223372036854775808≤at_∧at_≤9223372036854775807):
  Ok Try.prog 80 [.vec c 1 (bs.map eB),.int .i64 at_,.int .i64 size] σ (.ret (.tup [eN (cq bs at_ size).1,.int .i64 (cq bs at_ size).2])) σ:=by
 refine Ok.of_body ae Try.func80 rfl (by decide) (by simp[Try.ntmps80]) fun C hP hn hσ hfix hdd=>?_
 rw[show Try.f80.ntmps=54 from rfl] at hn
 have hL:af C.P L:=hP▸ae
 have hm:C.P.follows .mixedOrders=true:=hP▸ao
 refine SW.vlen 0 rfl fun hlen=>?_
 rw[AN] at hlen
 by_cases h1:size<1
 ·have d1:decide (size<1)=true:=by simpa using h1
  rw[show cq bs at_ size=(0,1) by simp[cq,h1]]
  repeat(first|(refine sB hL hn rfl ?_;simp only[go_sem,seval,d1])|refine sN rfl ?_|refine sC ?_)
  exact⟨_,_,_,ai.refl _ _,rfl,ag.refl _ _ _,rfl⟩
 have d1:decide (size<1)=false:=by simpa using h1
 by_cases h2:8<size
 ·have d2:decide (size>8)=true:=by simpa using h2
  rw[show cq bs at_ size=(0,1) by simp[cq,h2]]
  repeat(first|(refine sB hL hn rfl ?_;simp only[go_sem,seval,d1,d2])|refine sN rfl ?_|refine sC ?_)
  exact⟨_,_,_,ai.refl _ _,rfl,ag.refl _ _ _,rfl⟩
 have d2:decide (size>8)=false:=by simpa using h2
 by_cases h3:at_<0
 ·have d3:decide (at_<0)=true:=by simpa using h3
  rw[show cq bs at_ size=(0,4) by simp[cq,h1,h2,h3]]
  repeat(first|(refine sB hL hn rfl ?_;simp only[go_sem,seval,d1,d2,d3])|refine sN rfl ?_|refine sC ?_)
  exact⟨_,_,_,ai.refl _ _,rfl,ag.refl _ _ _,rfl⟩
 have d3:decide (at_<0)=false:=by simpa using h3
 have w1:IntKind.i64.wrap ((bs.length:Int)-at_)=bs.length-at_:=IntWalk.i64_in _ (by omega)
 by_cases h4:(bs.length:Int)<at_
 ·have d4:decide (at_>(bs.length:Int))=true:=by simpa using h4
  rw[show cq bs at_ size=(0,8) by simp[cq,h1,h2,h3,h4]]
  repeat(first|(refine sB hL hn rfl ?_;simp only[go_sem,seval,d1,d2,d3,bi,gD,AN,d4])|refine sN rfl ?_|refine sC ?_)
  exact⟨_,_,_,ai.refl _ _,rfl,ag.refl _ _ _,rfl⟩
 have d4:decide (at_>(bs.length:Int))=false:=by simpa using h4
 by_cases h5:(bs.length:Int)-at_<size
 ·have d5:decide (size>(bs.length:Int)-at_)=true:=by simpa using h5
  rw[show cq bs at_ size=(0,8) by simp[cq,h1,h2,h3,h5]]
  repeat(first|(refine sB hL hn rfl ?_;simp only[go_sem,seval,d1,d2,d3,bi,gD,AN,d4,w1,d5])|refine sN rfl ?_|refine sC ?_)
  exact⟨_,_,_,ai.refl _ _,rfl,ag.refl _ _ _,rfl⟩
 have d5:decide (size>(bs.length:Int)-at_)=false:=by simpa using h5
 rw[show cq bs at_ size=(dc ((bs.drop at_.toNat).take size.toNat),0) by simp[cq,h1,h2,h3,h4,h5]]
 obtain⟨A,rfl⟩:=Cj (show 0≤at_ by omega)
 obtain⟨S,rfl⟩:=Cj (show 0≤size by omega)
 have w2:IntKind.i64.wrap ((A:Int)+S)=(A+S:Nat):=by rw[IntWalk.i64_in _ (by omega)];simp
 have b1:au (some (.int .i64 ((A+S:Nat):Int))) bs.length bs.length=some (A+S):=az (by omega)
 have b2:au (some (.int .i64 (A:Int))) 0 (A+S)=some A:=az (by omega)
 have hx:List.drop A (List.take (A+S) (bs.map eB))=((bs.drop A).take S).map eB:=by
  rw[List.drop_take,Dy,List.map_drop];congr 1;omega
 have hxl:((bs.drop A).take S).length=S:=by simp;omega
 simp only[Bg]
 generalize (bs.drop A).take S=xs at hx hxl
 repeat(first|(refine sB hL hn rfl ?_;simp only[go_sem,seval,d1,d2,d3,bi,gD,AN,d4,w1,d5,w2,aw,b1,b2,hx,hxl])|refine sN rfl ?_|refine sC ?_)
 refine SW.lpg (fun k:Nat=>⟨[(6,eN (dc (xs.take k))),(38,.vec c 1 (xs.map eB)),(39,.int .i64 S),(40,.int .i64 k)],σ⟩) (fun k=>S-k) (fun k=>k≤S) 0 (by omega) (.of rfl ⟨rfl,rfl,rfl,rfl,trivial⟩) ?_
 intro k hk
 by_cases hlt:k<S
 ·have e1:decide ((k:Int)<(S:Int))=true:=by simpa using hlt
  have e2:(0≤(k:Int)∧(k:Int)<(S:Int)):=by omega
  have e3:(xs.map eB)[k]?.getD .undef=eB (xs[k]'(by omega)):=by simp[hxl,hlt]
  have w3:IntKind.i64.wrap (8*(k:Int))=((8*k:Nat):Int):=by rw[IntWalk.i64_in _ (by omega)];simp
  have w4:IntKind.i64.wrap ((k:Int)+1)=((k+1:Nat):Int):=by rw[IntWalk.i64_in _ (by omega)];simp
  repeat(first|(refine sB hL hn rfl ?_;simp only[go_sem,seval,bg,e2,e3,e9,en,eB,w3,w4,cF,bA,AN,hxl])|refine sN rfl ?_|refine sC ?_)
  refine Lp.nextg (k+1) (by omega) (by omega) (.of rfl ⟨?_,rfl,rfl,rfl,trivial⟩)
  simp only[lk,reduceIte,Nat.reduceEqDiff]
  have hb:=(xs[k]'(by omega)).toNat_lt
  have hl:dc (xs.take k)<256^k:=by
   have:=qR (xs.take k)
   rwa [Bi,BE (by omega)] at this
  have hk7:256^(k+1)≤256^8:=Nat.pow_le_pow_right (by omega) (by omega)
  have hp:(2:Nat)^(8*k)=256^k:=by rw[Nat.pow_mul]
  have hle:(xs[k]'(by omega)).toNat*256^k≤255*256^k:=A7 _ (by omega)
  rw[DH] at hk7
  have w5:IntKind.u64.wrap ((xs[k]'(by omega)).toNat:Int)=((xs[k]'(by omega)).toNat:Int):=IntWalk.u64_in _ (by omega)
  have w6:IntKind.u64.wrap (((xs[k]'(by omega)).toNat:Int)*2^min (8*k) 64)=(((xs[k]'(by omega)).toNat*256^k:Nat):Int):=by
   rw[BE (by show 8*k≤64;omega),show((2:Int)^(8*k))=((2^(8*k):Nat):Int) by simp,hp,←Int.natCast_mul]
   exact IntWalk.u64_in _ (by omega)
  rw[w5,w6,rG _ _ (by omega) (by omega),←hp,ww _ _ _ hl,hp]
  simp only[eN]
  rw[List.take_add_one,AI (by omega),j9,Bi,BE (by omega)]
  simp only[Option.toList,dc]
  rw[C7 (256^k)]
  simp
 ·have e1:decide ((k:Int)<(S:Int))=false:=by simpa using hlt
  have:k=S:=by omega
  subst this
  repeat(first|(refine sB hL hn rfl ?_;simp only[go_sem,seval,e1])|refine sN rfl ?_|refine sC ?_)
  rw[AV (by omega)]
  exact⟨_,_,_,ai.refl _ _,rfl,ag.refl _ _ _,rfl⟩
def eU (n:Int):DV:=.int .u32 n
def stepC (c:Int):Int:=bits .u32 .xor (c.fdiv (2^min (1:Int).toNat IntKind.u32.bits)) (bits .u32 .and 2197175160 (IntKind.u32.wrap (0-bits .u32 .and c 1)))
def itC:Nat→Int→Int
 |0,c=>c
 |n+1,c=>stepC (itC n c)
def qZ (i:Nat):Int:=itC 4 (IntKind.u32.wrap i)
def eK (n:Nat):List DV:=(Bs 16).map fun j=>if j<n then eU (qZ j) else eU 0
def tab:List DV:=eK 16
theorem gg (n:Nat):(eK n).length=16:=by simp[eK]
theorem ur (i:Nat) (h:i<16):(eK i).take i++[eU (qZ i)]++(eK i).drop (i+1)=eK (i+1):=by
 rcases i with _|_|_|_|_|_|_|_|_|_|_|_|_|_|_|_|i<;>first|rfl|omega
theorem bH{α:Type} (l:List α) (a:α):(l++[a])[l.length]?=some a:=by simp
theorem de{α:Type} (l:List α) (a b:α):(l++[a]).set l.length b=l++[b]:=by simp
theorem je (n id:Nat):∀x∈eK n,bj id x:=by
 intro x hx
 simp only[eK,Ba] at hx
 obtain⟨j,_,rfl⟩:=hx
 split<;>exact(mN _ _).2 trivial
theorem yI (σ:List Ob):Ok Try.prog 100 [] σ (.ret (.agg tab)) σ:=by
 refine Ok.of_body ae Try.func100 rfl (by decide) (by simp[Try.ntmps100]) fun C hP hn hσ hfix hdd=>?_
 rw[show Try.f100.ntmps=23 from rfl] at hn
 have hL:af C.P L:=hP▸ae
 have hm:C.P.follows .mixedOrders=true:=hP▸ao
 repeat(first|((first|refine sA hL hn rfl ?_|refine sB hL hn rfl ?_);simp only[go_sem,reduceAdd,reduceCtorEq])|((first|refine sC ?_|refine sH ?_|refine sI ?_|refine sJ ?_);try simp only[ap,aY,cx,bP,if_true,if_false,reduceEqDiff])|refine sD ?_|refine sE ?_|refine sF rfl ?_|refine sG rfl ?_)
 refine SW.lpg (fun i:Nat=>⟨[(0,.ptr σ.length 1 0 0),(3,.int .i64 i)],σ++[.arr 165 16 [.agg (eK i)]]⟩) (fun i=>16-i) (fun i=>i≤16) 0 (by omega) (.of rfl ⟨rfl,rfl,trivial⟩) ?_
 intro i hi
 by_cases hlt:i<16
 ·have e1:decide ((i:Int)<16)=true:=decide_eq_true (by omega)
  have w1:IntKind.i64.wrap ((i:Int)+1)=((i+1:Nat):Int):=wi (by omega) (by omega)
  have b1:(0≤(i:Int)∧(i:Int)<((16:Nat):Int)):=by omega
  have l1:i+1≤16:=by omega
  repeat(first|((first|refine sA hL hn rfl ?_|refine sB hL hn rfl ?_);simp only[go_sem,reduceEqDiff,reduceCtorEq,e1,cF])|((first|refine sC ?_|refine sH ?_|refine sI ?_|refine sJ ?_);try simp only[ap])|refine sD ?_|refine sE ?_|refine sF rfl ?_|refine sG rfl ?_)
  refine SW.lpg (fun k:Nat=>⟨[(0,.ptr σ.length 1 0 0),(3,.int .i64 i),(1,.int .i64 i),(2,eU (itC k (IntKind.u32.wrap i))),(8,.int .i64 k)],σ++[.arr 165 16 [.agg (eK i)]]⟩) (fun k=>4-k) (fun k=>k≤4) 0 (by omega) (.of rfl ⟨rfl,rfl,rfl,rfl,rfl,trivial⟩) ?_
  intro k hk
  by_cases hkt:k<4
  ·have e2:decide ((k:Int)<4)=true:=decide_eq_true (by omega)
   have w2:IntKind.i64.wrap ((k:Int)+1)=((k+1:Nat):Int):=wi (by omega) (by omega)
   repeat(first|((first|refine sA hL hn rfl ?_|refine sB hL hn rfl ?_);simp only[go_sem,Cq,reduceEqDiff,reduceCtorEq,e2,eU,bA,w2])|((first|refine sC ?_|refine sH ?_|refine sI ?_|refine sJ ?_);try simp only[ap])|refine sD ?_|refine sE ?_|refine sF rfl ?_|refine sG rfl ?_)
   exact Lp.nextg (k+1) (by omega) (by omega) (.of rfl ⟨rfl,rfl,rfl,rfl,rfl,trivial⟩)
  ·have e2:decide ((k:Int)<4)=false:=decide_eq_false (by omega)
   obtain rfl:k=4:=by omega
   repeat(first|((first|refine sA hL hn rfl ?_|refine sB hL hn rfl ?_);simp only[go_sem,reduceEqDiff,reduceSub,Bv,reduceCtorEq,e2,bg,b1,dD,bH,de,Bg,gg,Cv,Do,DV.one,ck,w1,l1,eU])|((first|refine sC ?_|refine sH ?_|refine sI ?_|refine sJ ?_);try simp only[ap,aY,bP,if_true,if_false,reduceEqDiff])|refine sD ?_|refine sE ?_|refine sF rfl ?_|refine sG rfl ?_)
   refine Lp.nextg (i+1) (by omega) (by omega) (.of ?_ ⟨rfl,rfl,trivial⟩)
   rw[←ur i hlt,AR]
   rfl
 ·have e1:decide ((i:Int)<16)=false:=decide_eq_false (by omega)
  obtain rfl:i=16:=by omega
  have t1:(eK 16).all DV.one=true:=rfl
  have t3:(eK 16).drop 16=[]:=rfl
  have t2:(eK 16).take 16=eK 16:=rfl
  repeat(first|((first|refine sA hL hn rfl ?_|refine sB hL hn rfl ?_);simp only[go_sem,reduceEqDiff,reduceSub,Bv,reduceLeDiff,reduceCtorEq,e1,e9,en,bH,gg,dD,t1,t2,t3,Ch,CF,TD.isAgg,ck,de,Dj,AK])|((first|refine sC ?_|refine sH ?_|refine sI ?_|refine sJ ?_);try simp only[ap,aY,bP,if_true])|refine sD ?_|refine sE ?_|refine sF rfl ?_|refine sG rfl ?_)
  refine⟨_,.agg tab,_,ai.refl _ _,?_,ag.pop1 0 (by rw[hn];decide) hσ hfix (yN ((eY _).2 (je 16 _)) _ _) (by simpa[eY] using je 16 σ.length),rfl⟩
  show aF L _ [Go.ResultVar.cell 0 165]=_
  simp only[aF,cA,aV,go_sem,reduceLeDiff,reduceCtorEq,bH,t2,gg,tab]
def qY (c:Int):Int:=bits .u32 .xor (c.fdiv (2^min (4:Int).toNat IntKind.u32.bits)) (qZ (bits .u32 .and c 15).toNat)
def qL (c:Int) (x:UInt8):Int:=qY (qY (bits .u32 .xor c (IntKind.u32.wrap x.toNat)))
def zj (c:Int) (bs:List UInt8):Int:=bits .u32 .xor IntKind.u32.max (bs.foldl qL (bits .u32 .xor IntKind.u32.max c))
def vU (bs:List UInt8):Int:=zj 0 bs
theorem xp (op:BinOp) (a b:Int):0≤bits .u32 op a b∧bits .u32 op a b<4294967296:=by
 have:∀n:Int,0≤IntKind.u32.wrap n∧IntKind.u32.wrap n<4294967296:=fun n=>by
  rw[IntKind.wrap_u32]
  omega
 cases op<;>exact this _
theorem zk (c:Int):0≤bits .u32 .and c 15∧bits .u32 .and c 15<16:=by
 refine⟨(xp _ _ _).1,?_⟩
 have h:(BitVec.ofInt 32 c&&&BitVec.ofInt 32 15).toNat<16:=by
  rw[BitVec.toNat_and]
  exact Nat.lt_of_le_of_lt Nat.and_le_right (by decide)
 show IntKind.u32.wrap ((BitVec.ofInt 32 c&&&BitVec.ofInt 32 15).toNat:Int)<16
 rw[IntKind.wrap_u32]
 omega
theorem xL (j:Nat) (h:j<16):(tab.drop j)[0]?=some (eU (qZ j)):=by
 rw[Bk,Bt]
 simp[tab,eK,h]
theorem AF (c:Int):(0≤bits .u32 .and c 15∧bits .u32 .and c 15<((16:Nat):Int))↔True:=iff_of_true (by have:=zk c;omega) trivial
theorem vR (c:Int):(tab.drop (bits .u32 .and c 15).toNat)[0]?=some (.int .u32 (qZ (bits .u32 .and c 15).toNat)):=xL _ (by have:=zk c;omega)
theorem mg{α β:Type} (f:β→α→β) (b:β) (l:List α) (k:Nat) (h:k<l.length):(l.take (k+1)).foldl f b=f ((l.take k).foldl f b) (l[k]):=by
 rw[←BN h,List.foldl_append]
 rfl
theorem yj (c:Nat) (k:Int) (bs:List UInt8) (σ:List Ob):Ok Try.prog 94 [eU k,.vec c 1 (bs.map eB)] σ (.ret (eU (zj k bs))) σ:=by
 refine Ok.of_body ae Try.func94 rfl (by decide) (by simp[Try.ntmps94]) fun C hP hn hσ hfix hdd=>?_
 rw[show Try.f94.ntmps=38 from rfl] at hn
 have hL:af C.P L:=hP▸ae
 have hm:C.P.follows .mixedOrders=true:=hP▸ao
 refine SW.vlen 1 rfl fun hlen=>?_
 rw[AN] at hlen
 repeat(first|((first|refine sA hL hn rfl ?_|refine sB hL hn rfl ?_);simp only[go_sem,reduceEqDiff,reduceCtorEq,eU])|((first|refine sC ?_|refine sH ?_|refine sI ?_|refine sJ ?_);try simp only[ap,aY,cx,bP,if_true,if_false,reduceEqDiff])|refine sD ?_|refine sE ?_|refine sF rfl ?_|refine sG rfl ?_)
 have t1:tab.all DV.one=true:=rfl
 have t2:tab.length=16:=rfl
 refine sK hP hL hn rfl rfl (yI _) rfl rfl rfl rfl ?_;simp (maxSteps:=2000000) only[go_sem,reduceAdd,reduceEqDiff,Bv,reduceLeDiff,reduceCtorEq,bH,de,t1,t2]
 repeat(first|((first|refine sA hL hn rfl ?_|refine sB hL hn rfl ?_);simp only[go_sem,reduceEqDiff,reduceCtorEq,AN])|((first|refine sC ?_|refine sH ?_|refine sI ?_|refine sJ ?_);try simp only[ap])|refine sD ?_|refine sE ?_|refine sF rfl ?_|refine sG rfl ?_)
 refine SW.lpg (fun j:Nat=>⟨[(0,eU ((bs.take j).foldl qL (bits .u32 .xor IntKind.u32.max k))),(5,.ptr σ.length 1 0 0),(11,.vec c 1 (bs.map eB)),(12,.int .i64 bs.length),(13,.int .i64 j)],σ++[.arr 165 16 [.agg tab]]⟩) (fun j=>bs.length-j) (fun j=>j≤bs.length) 0 (by omega) (.of rfl ⟨rfl,rfl,rfl,rfl,rfl,trivial⟩) ?_
 intro j hj
 by_cases hlt:j<bs.length
 ·have e1:decide ((j:Int)<(bs.length:Int))=true:=decide_eq_true (by omega)
  have e2:(0≤(j:Int)∧(j:Int)<(bs.length:Int)):=by omega
  have e3:(bs.map eB)[j]?.getD .undef=eB bs[j]:=by simp[hlt]
  have w1:IntKind.i64.wrap ((j:Int)+1)=((j+1:Nat):Int):=wi (by omega) (by omega)
  repeat(first|((first|refine sA hL hn rfl ?_|refine sB hL hn rfl ?_);simp only[go_sem,Cq,reduceEqDiff,reduceLeDiff,reduceCtorEq,eU,AN,e2,e3,eB,AF,vR,bH,w1])|((first|refine sC ?_|refine sH ?_|refine sI ?_|refine sJ ?_);try simp only[ap])|refine sD ?_|refine sE ?_|refine sF rfl ?_|refine sG rfl ?_)
  refine Lp.nextg (j+1) (by omega) (by omega) (.of rfl ⟨?_,rfl,rfl,rfl,rfl,trivial⟩)
  rw[mg _ _ _ _ hlt]
  rfl
 ·have e1:decide ((j:Int)<(bs.length:Int))=false:=decide_eq_false (by omega)
  obtain rfl:j=bs.length:=by omega
  rw[Co]
  repeat(first|((first|refine sA hL hn rfl ?_|refine sB hL hn rfl ?_);simp only[go_sem,reduceEqDiff,reduceCtorEq,e1,eU])|((first|refine sC ?_|refine sH ?_|refine sI ?_|refine sJ ?_);try simp only[ap,aY,bP,if_true])|refine sD ?_|refine sE ?_|refine sF rfl ?_|refine sG rfl ?_)
  exact⟨_,_,_,ai.refl _ _,rfl,ag.pop1 0 (by rw[hn];decide) hσ hfix rfl (by simpa[eY,tab] using je 16 σ.length),rfl⟩
theorem vT (c:Nat) (bs:List UInt8) (σ:List Ob):Ok Try.prog 81 [.vec c 1 (bs.map eB)] σ (.ret (eU (vU bs))) σ:=by
 refine Ok.of_body ae Try.func81 rfl (by decide) (by simp[Try.ntmps81]) fun C hP hn hσ hfix hdd=>?_
 rw[show Try.f81.ntmps=5 from rfl] at hn
 have hL:af C.P L:=hP▸ae
 have hm:C.P.follows .mixedOrders=true:=hP▸ao
 repeat(first|((first|refine sA hL hn rfl ?_|refine sB hL hn rfl ?_);simp only[go_sem,reduceEqDiff,reduceCtorEq,eU])|((first|refine sC ?_|refine sH ?_|refine sI ?_|refine sJ ?_);try simp only[ap,aY,cx,bP,if_true,if_false,reduceEqDiff])|refine sD ?_|refine sE ?_|refine sF rfl ?_|refine sG rfl ?_)
 refine sK hP hL hn rfl rfl (yj c 0 bs _) rfl rfl rfl rfl ?_;simp (maxSteps:=2000000) only[go_sem,reduceEqDiff,reduceCtorEq,eU]
 repeat(first|((first|refine sA hL hn rfl ?_|refine sB hL hn rfl ?_);simp only[go_sem,CH,Cq,CZ,reduceAdd,reduceEqDiff,reduceIte,reduceSub,Bv,reduceMul,reduceLeDiff,reduceCtorEq,eU])|((first|refine sC ?_|refine sH ?_|refine sI ?_|refine sJ ?_);try simp only[ap])|refine sD ?_|refine sE ?_|refine sF rfl ?_|refine sG rfl ?_)
 exact⟨_,_,_,ai.refl _ _,rfl,ag.refl _ _ _,rfl⟩
def d9 (kind m:Nat):List DV:=[.int .i64 1,.int .i64 1,.int .i64 2]++AO m (.int .i64 8)++(if kind=1 then AO m (.int .i64 8) else AO (m+1) (.int .i64 4))
theorem vK:oZ LX FN 100000 77 [.int .i64 1,.int .i64 1] (.vec 0 1 (d9 1 1))=true:=by kernel_rfl
theorem vJ:oZ LX FN 100000 77 [.int .i64 1,.int .i64 2] (.vec 0 1 (d9 1 2))=true:=by kernel_rfl
theorem vI:oZ LX FN 100000 77 [.int .i64 1,.int .i64 3] (.vec 0 1 (d9 1 3))=true:=by kernel_rfl
theorem vH:oZ LX FN 100000 77 [.int .i64 2,.int .i64 1] (.vec 0 1 (d9 2 1))=true:=by kernel_rfl
theorem vG:oZ LX FN 100000 77 [.int .i64 2,.int .i64 2] (.vec 0 1 (d9 2 2))=true:=by kernel_rfl
theorem vF:oZ LX FN 100000 77 [.int .i64 2,.int .i64 3] (.vec 0 1 (d9 2 3))=true:=by kernel_rfl
theorem ui (kind m:Nat) (hk:kind=1∨kind=2) (hm:1≤m∧m≤3) (σ:List Ob):Ok Try.prog 77 [.int .i64 kind,.int .i64 m] σ (.ret (.vec 0 1 (d9 kind m))) σ:=by
 have hl:∀a b:Int,∀x∈ [DV.int .i64 a,DV.int .i64 b],Low 0 x:=by simp[ax]
 have h:m=1∨m=2∨m=3:=by omega
 rcases hk with rfl|rfl<;>rcases h with rfl|rfl|rfl
 ·exact gj jm ao mh vK (hl _ _) σ
 ·exact gj jm ao mh vJ (hl _ _) σ
 ·exact gj jm ao mh vI (hl _ _) σ
 ·exact gj jm ao mh vH (hl _ _) σ
 ·exact gj jm ao mh vG (hl _ _) σ
 ·exact gj jm ao mh vF (hl _ _) σ
end Go.VL
