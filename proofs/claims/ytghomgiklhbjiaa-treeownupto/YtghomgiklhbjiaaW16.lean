/- Proved: TreeOwn: whatever tree, root and item come in (together of bulk at most 1048576), the call returns true and they read as they did; no other condition. This text is part 16 of 18. -/
import Derived.Test.YtghomgiklhbjiaaW15
set_option linter.unusedSimpArgs false
set_option linter.unusedVariables false
set_option maxRecDepth 10000
set_option maxHeartbeats 4000000
open List renaming append_assoc → AR,append_nil → AK,cons_append → Bq,eq_nil_of_length_eq_zero → BC,ext_getElem? → BV,getElem?_append_left → AJ,getElem?_append_right → AT,getElem?_drop → Bk,getElem?_eq_getElem → AI,getElem?_eq_some_iff → AH,getElem?_map → AQ,getElem?_set → B2,getElem_mem → BS,length → Cr,length_append → AP,length_cons → A5,length_eq_zero_iff → B1,length_map → AN,length_nil → Bj,length_take → Bi,map_append → B8,mem_cons → Bh,mem_map → Ba,mem_of_getElem? → AM,mem_singleton → BX,nil_append → Be,not_mem_nil → Bw,take_append_getElem → BN,take_length → Co
open Nat renaming le_refl → AU,lt_or_ge → Bp,min_eq_left → BE,reduceAdd → Dg,sub_self → B7,zero_add → Bc,zero_le → BD
namespace Go.VL
open Go Go.Proofs
open Nat (reduceAdd reduceEqDiff reduceSub reduceMul reduceLeDiff)
def di9_6:List DI:=[⟨[0],[],false,[0],some 17,[]⟩,⟨[5],[],false,[0],some 18,[]⟩,⟨[17,18],[0,1],false,[0],some 19,[0,1]⟩,⟨[19],[0,1,2],false,[0],some 20,[2]⟩,⟨[20],rg 0 4,false,[0],some 21,[3]⟩,⟨[1],[],false,[0],some 22,[]⟩,⟨[5],[],false,[0],some 23,[]⟩,⟨[22,23],[5,6],false,[0],some 24,[5,6]⟩,⟨[24],[5,6,7],false,[0],some 25,[7]⟩,⟨[25],rg 5 4,false,[0],some 26,[8]⟩,⟨[21,26],rg 0 10,false,[0],some 27,[4,9]⟩]
theorem pA (c:Nat) (bs:List UInt8) (hl:bs.length≤134217728) (σ:List Ob):Ok Try.prog 34 [.vec c 1 (bs.map eB)] σ (.ret (.vec 0 1 (bs.map eB))) σ:=by
 by_cases h0:bs.length=0
 ·obtain rfl:=BC h0
  refine Ok.thaw (c:=0) (d:=.sl 0 0 0 0) (O:=[.arr 5 1 []]) ?_ (Fz.list (l:=[]) eB (mS 0) rfl) (by simp[iD]) σ
  refine Ok.of_body ae Try.func34 rfl (by decide) (by simp[Try.ntmps34]) fun C hP hn hσ hfix hdd=>?_
  rw[show Try.f34.ntmps=7 from rfl] at hn
  have hL:af C.P L:=hP▸ae
  have hm:C.P.follows .mixedOrders=true:=hP▸ao
  repeat(first|(refine sB hL hn rfl ?_;simp only[go_sem,seval,aG])|refine sN rfl ?_|refine sC ?_)
  exact⟨_,_,_,ai.refl _ _,rfl,ag.refl _ _ _,rfl⟩
 ·have a1:=kU bs
  obtain⟨X,hX⟩:∃X,X=bs.map eB:=⟨_,rfl⟩
  have hXl:X.length=bs.length:=by rw[hX,AN]
  have hlX:=aW 0 c bs
  have hz:Fz [Ob.arr 5 1 X] 0 (.sl 0 bs.length 0 bs.length) (.vec 0 1 X):=by rw[hX];exact Fz.list eB (mS 0) rfl
  simp only[DV.cells] at a1
  rw[←hX] at hlX a1⊢
  refine Ok.thaw (c:=0) ?_ hz (by simpa using hlX) σ
  have n0:(bs.length=0)=False:=eq_false h0
  have hcap:(bs.length≤140737488355328)=True:=eq_true (by omega)
  refine Ok.of_body ae Try.func34 rfl (by decide) (by simp[Try.ntmps34]) fun C hP hn hσ hfix hdd=>?_
  rw[show Try.f34.ntmps=7 from rfl] at hn
  have hL:af C.P L:=hP▸ae
  have hm:C.P.follows .mixedOrders=true:=hP▸ao
  repeat(first|(refine sB hL hn rfl ?_;simp only[go_sem,seval,aG,hXl,a1,hcap])|refine sN rfl ?_|refine sC ?_)
  exact⟨_,_,_,ai.refl _ _,rfl,ag.refl _ _ _,rfl⟩
def mF (p:Pg):Pg:=(0,p.2)
theorem ru (c:Nat) (ps:List Pg) (hps:ps.length≤1048576) (hb:∀p∈ps,p.2.length≤134217728) (σ:List Ob):Ok Try.prog 22 [pgsD c ps] σ (.ret (pgsD 0 (ps.map mF))) σ:=by
 have hl:=gn 0 c ps
 unfold pgsD at hl⊢
 obtain⟨X,hX⟩:∃X,X=ps.map ePg:=⟨_,rfl⟩
 have hXl:X.length=ps.length:=by rw[hX,AN]
 rw[←hX] at hl⊢
 obtain⟨R,hR⟩:∃R,R=DV.vec 0 1 ((ps.map mF).map ePg):=⟨_,rfl⟩
 rw[←hR]
 refine(OkE.thaw (c:=0) (R:=fun D=>D=R) ?_ (by simpa using hl) σ).ok fun o σ' ⟨e,D',e1,e2⟩=>by subst e2;exact⟨e1,e⟩
 obtain⟨P,hPP⟩:∃P:Nat→List DV,P=fun k=>((ps.take k).map mF).map ePg:=⟨_,rfl⟩
 have hPl:∀k,k≤ps.length→(P k).length=k:=fun k hk=>by rw[hPP];simp[BE hk]
 refine OkE.of_body ae Try.func22 rfl (by decide) (by simp[Try.ntmps22]) fun C hP hn hσ hfix hdd=>?_
 rw[show Try.f22.ntmps=20 from rfl] at hn
 have hL:af C.P L:=hP▸ae
 have hm:C.P.follows .mixedOrders=true:=hP▸ao
 repeat(first|(refine sB hL hn rfl ?_;simp only[go_sem,seval])|refine sN rfl ?_|refine sC ?_)
 refine SW.ghost (ai.newNil 3 67 1 rfl) ?_
 simp only[up,reduceEqDiff,reduceIte,Bj,Be]
 refine SW.lpg (fun x:Nat×List Ob=>⟨[(0,.vec c 1 X),(3,.sl 0 x.1 0 x.1),(4,.int .i64 x.1)],Ob.arr 67 1 (P x.1)::x.2⟩) (fun x=>ps.length-x.1) (fun x=>x.1≤ps.length) (0,[]) (by simp) (.of (by rw[hPP];rfl) (by simp[aC,lk])) ?_
 rintro⟨k,T⟩ hk
 simp only at hk
 by_cases hlt:k<ps.length
 ·have e1:decide ((k:Int)<(ps.length:Int))=true:=decide_eq_true (by omega)
  have e2:(0≤(k:Int)∧(k:Int)<(ps.length:Int)):=by omega
  obtain⟨p,hp⟩:∃p,p=ps[k]'hlt:=⟨_,rfl⟩
  have hpb:=hb p (by rw[hp];exact BS hlt)
  have hcb:=pA p.1 p.2 hpb
  obtain⟨B,hB⟩:∃B,B=p.2.map eB:=⟨_,rfl⟩
  rw[←hB] at hcb
  have e3:X[k]?.getD .undef=.vec p.1 1 B:=by rw[hX,hB];simp[hlt,ePg,←hp]
  have w2:IntKind.i64.wrap ((k:Int)+1)=((k+1:Nat):Int):=wi (by omega) (by omega)
  have hPs:P k++[.vec 0 1 B]=P (k+1):=by
   rw[hPP];dsimp only
   rw[←BN hlt,B8,B8,←hp,hB];rfl
  have l1:=hPl k hk
  have hcap:((k+1)*24≤140737488355328)=True:=eq_true (by omega)
  have gT:∀x:Ob,(T++[x])[T.length]?=some x:=fun x=>by simp
  simp only
  repeat(first|(refine sB hL hn rfl ?_;simp only[go_sem,seval,hXl,e2,e3])|refine sN rfl ?_|refine sC ?_)
  refine sK hP hL hn rfl rfl (hcb _) rfl rfl rfl rfl ?_;simp (maxSteps:=2000000) only[go_sem,seval,aG,l1,hcap,gT,hPs]
  repeat(first|(refine sB hL hn rfl ?_;simp only[go_sem,seval,w2])|refine sN rfl ?_|refine sC ?_)
  exact Lp.nextg (k+1,T++[.arr 67 1 [.vec 0 1 B]]) (by show k+1≤_;omega) (by show ps.length-(k+1)<_;omega) (.of (by simp) (by simp[aC,lk]))
 ·have e1:decide ((k:Int)<(ps.length:Int))=false:=decide_eq_false (by omega)
  obtain rfl:k=ps.length:=by omega
  simp only
  repeat(first|(refine sB hL hn rfl ?_;simp only[go_sem,seval,e1,hXl])|refine sN rfl ?_|refine sC ?_)
  refine⟨_,_,?_,_,(.sl 0 ps.length 0 ps.length),_,ai.refl _ _,?_,ag.refl _ _ _,rfl⟩
  rotate_left
  show aF L _ [Go.ResultVar.tmp 2]=_
  simp only[aF,cA,aV,go_sem,seval]
  refine⟨_,R,rfl,?_,rfl⟩
  rw[hR]
  have:=Fz.list (O:=Ob.arr 67 1 (P ps.length)::T) (c:=0) (id:=0) (t:=67) (k:=1) (l:=ps.map mF) ePg (fun p=>aW 0 p.1 p.2) (by rw[hPP];simp)
  rw[AN] at this
  exact this
theorem of_ok (c:Nat) (ps:List Pg) (hps:ps.length≤1048576) (hb:∀p∈ps,p.2.length≤134217728) (σ:List Ob):Ok Try.prog 6 [.agg [pgsD c ps]] σ (.ret (.agg [pgsD 0 (ps.map mF)])) σ:=by
 have hc:=ru c ps hps hb
 have hl:=gn 0 c ps
 have hl2:=gn 0 0 (ps.map mF)
 obtain⟨A,hA⟩:∃A,A=ps.map ePg:=⟨_,rfl⟩
 obtain⟨B,hB⟩:∃B,B=(ps.map mF).map ePg:=⟨_,rfl⟩
 unfold pgsD at hc hl hl2⊢
 rw[←hA,←hB] at hc
 rw[←hA] at hl⊢
 rw[←hB] at hl2⊢
 refine Ok.thaw (c:=0) (O:=[.arr 24 1 [.agg [.vec c 1 A]],.arr 29 1 [.agg [.vec 0 1 B]]]) (d:=.agg [.vec 0 1 B]) ?_ (.low (by rw[aH];simpa using hl2)) (by rw[show(∀x∈ [DV.agg [.vec c 1 A]],Low 0 x)↔Low 0 (DV.agg [.vec c 1 A]) by simp,aH];simpa using hl) σ
 have hbd:bf L 29 [(0,.vec 0 1 B)]=some (.agg [.vec 0 1 B]):=rfl
 refine Ok.of_body ae Try.func6 rfl (by decide) (by simp[Try.ntmps6]) fun C hP hn hσ hfix hdd=>?_
 rw[show Try.f6.ntmps=7 from rfl] at hn
 have hL:af C.P L:=hP▸ae
 have hm:C.P.follows .mixedOrders=true:=hP▸ao
 repeat(first|(refine sB hL hn rfl ?_;simp only[go_sem,seval])|refine sN rfl ?_|refine sC ?_)
 refine sK hP hL hn rfl rfl (hc _) rfl rfl rfl rfl ?_;simp (maxSteps:=2000000) only[go_sem,seval,hbd]
 repeat(first|(refine sB hL hn rfl ?_;simp only[go_sem,seval,hbd])|refine sN rfl ?_|refine sC ?_)
 refine⟨_,(.agg [.vec 0 1 B]),_,ai.refl _ _,?_,ag.refl _ _ _,rfl⟩
 show aF L _ [Go.ResultVar.cell 2 29]=_
 simp only[aF,cA,aV,go_sem,seval]
theorem kZ (c c':Nat) (ps qs:List Pg) (h:ps.map (·.2)=qs.map (·.2)) (σ:List Ob):Ok Try.prog 9 [pgsD c ps,pgsD c' qs] σ (.ret (.bool true)) σ:=by
 have hlen:qs.length=ps.length:=by have:=congrArg Cr h;simpa using this.symm
 unfold pgsD
 obtain⟨X,hX⟩:∃X,X=ps.map ePg:=⟨_,rfl⟩
 have hXl:X.length=ps.length:=by rw[hX,AN]
 obtain⟨Y,hY⟩:∃Y,Y=qs.map ePg:=⟨_,rfl⟩
 have hYl:Y.length=ps.length:=by rw[hY,AN,hlen]
 rw[←hX,←hY]
 have d0:(((ps.length:Nat):Int) !=((ps.length:Nat):Int))=false:=by simp
 have ho:ic L 5=true:=rfl
 refine Ok.of_body ae Try.func9 rfl (by decide) (by simp[Try.ntmps9]) fun C hP hn hσ hfix hdd=>?_
 rw[show Try.f9.ntmps=28 from rfl] at hn
 have hL:af C.P L:=hP▸ae
 have hm:C.P.follows .mixedOrders=true:=hP▸ao
 refine SW.vlen 0 rfl fun hlen0=>?_
 rw[hXl] at hlen0
 repeat(first|(refine sB hL hn rfl ?_;simp only[go_sem,seval,hXl,hYl,d0])|refine sN rfl ?_|refine sC ?_)
 refine SW.lpg (fun k:Nat=>⟨[(0,.vec c 1 X),(1,.vec c' 1 Y),(5,.int .i64 k)],σ⟩) (fun k=>ps.length-k) (fun k=>k≤ps.length) 0 (by omega) (.of rfl (by simp[aC,lk])) ?_
 intro k hk
 by_cases hlt:k<ps.length
 ·have e1:decide ((k:Int)<(ps.length:Int))=true:=decide_eq_true (by omega)
  have e2:(0≤(k:Int)∧(k:Int)<(ps.length:Int)):=by omega
  obtain⟨p,hp⟩:∃p,ps[k]?=some p:=⟨_,AI hlt⟩
  obtain⟨q,hq⟩:∃q,qs[k]?=some q:=⟨_,AI (by omega)⟩
  have hpq:p.2=q.2:=by
   have:=congrArg (·[k]?) h
   simpa[hp,hq] using this
  obtain⟨B,hB⟩:∃B,B=p.2.map eB:=⟨_,rfl⟩
  have e3:X[k]?.getD .undef=.vec p.1 1 B:=by rw[hX,hB,AQ,hp];rfl
  have e4:Y[k]?.getD .undef=.vec q.1 1 B:=by rw[hY,hB,AQ,hq,hpq];rfl
  have oB:iK B=some p.2:=by rw[hB];exact o8 p.2
  have heq:((jP p.2).toList==(jP p.2).toList)=true:=by simp
  have w2:IntKind.i64.wrap ((k:Int)+1)=((k+1:Nat):Int):=wi (by omega) (by omega)
  repeat(first|(refine sB hL hn rfl ?_;simp only[go_sem,seval,e1,hXl])|refine sN rfl ?_|refine sC ?_)
  refine(?_:SW C _ _ _);first|refine sL hL hm hn di9_6 [σ] rfl rfl rfl ?_|refine sM hL hm hn di9_6 [σ] rfl rfl rfl ?_
  unfold di9_6
  repeat(rw[ah];simp (maxSteps:=2000000) only[go_sem,seval,hXl,hYl,e2,e3,e4,oB,ho,jz,heq])
  try rw[aj]
  try simp only[go_sem,seval]
  repeat(first|(refine sB hL hn rfl ?_;simp only[go_sem,seval,w2])|refine sN rfl ?_|refine sC ?_)
  exact Lp.nextg (k+1) (by omega) (by omega) (.of rfl (by simp[aC,lk]))
 ·have e1:decide ((k:Int)<(ps.length:Int))=false:=decide_eq_false (by omega)
  repeat(first|(refine sB hL hn rfl ?_;simp only[go_sem,seval,e1,hXl])|refine sN rfl ?_|refine sC ?_)
  exact⟨_,_,_,ai.refl _ _,rfl,ag.refl _ _ _,rfl⟩
theorem nG (c:Nat) (bs:List UInt8) (hl:bs.length≤134217728) (σ:List Ob):Ok Try.prog 34 [.vec c 1 (bs.map eB)] σ (.ret (.sl σ.length bs.length 0 bs.length)) (σ++[.arr 5 1 (bs.map eB)]):=by
 by_cases h0:bs.length=0
 ·obtain rfl:=BC h0
  refine Ok.of_body ae Try.func34 rfl (by decide) (by simp[Try.ntmps34]) fun C hP hn hσ hfix hdd=>?_
  rw[show Try.f34.ntmps=7 from rfl] at hn
  have hL:af C.P L:=hP▸ae
  have hm:C.P.follows .mixedOrders=true:=hP▸ao
  repeat(first|(refine sB hL hn rfl ?_;simp only[go_sem,seval,aG])|refine sN rfl ?_|refine sC ?_)
  exact⟨_,_,_,ai.refl _ _,rfl,ag.refl _ _ _,rfl⟩
 ·have a1:=kU bs
  obtain⟨X,hX⟩:∃X,X=bs.map eB:=⟨_,rfl⟩
  have hXl:X.length=bs.length:=by rw[hX,AN]
  simp only[DV.cells] at a1
  rw[←hX] at a1⊢
  have n0:(bs.length=0)=False:=eq_false h0
  have hcap:(bs.length≤140737488355328)=True:=eq_true (by omega)
  refine Ok.of_body ae Try.func34 rfl (by decide) (by simp[Try.ntmps34]) fun C hP hn hσ hfix hdd=>?_
  rw[show Try.f34.ntmps=7 from rfl] at hn
  have hL:af C.P L:=hP▸ae
  have hm:C.P.follows .mixedOrders=true:=hP▸ao
  repeat(first|(refine sB hL hn rfl ?_;simp only[go_sem,seval,aG,hXl,a1,hcap])|refine sN rfl ?_|refine sC ?_)
  exact⟨_,_,_,ai.refl _ _,rfl,ag.refl _ _ _,rfl⟩
def x5 (m j:Nat) (p:Pg):DV:=.sl (m+(1+2*j)) p.2.length 0 p.2.length
def eQ (m:Nat) (ps:List Pg):List DV:=ps.mapIdx (x5 m)
def zB (m j:Nat) (p:Pg):List Ob:=[.arr 5 1 (p.2.map eB),.arr 67 1 [x5 m j p]]
def iR (m:Nat) (ps:List Pg):List Ob:=(ps.mapIdx (zB m)).flatten
def ll (m:Nat) (ps:List Pg):List Ob:=.arr 67 1 (eQ m ps)::iR m ps
theorem iz (m:Nat) (ps:List Pg):(eQ m ps).length=ps.length:=by simp[eQ]
theorem uE (m:Nat) (ps:List Pg) (p:Pg):eQ m (ps++[p])=eQ m ps++[x5 m ps.length p]:=by simp[eQ,List.mapIdx_append]
theorem kA (m:Nat) (ps:List Pg) (p:Pg):iR m (ps++[p])=iR m ps++zB m ps.length p:=by simp[iR,List.mapIdx_append]
theorem tz{α:Type}{P:List α→Prop} (h0:P []) (h1:∀l a,P l→P (l++[a])) (l:List α):P l:=by
 have:∀n (l:List α),l.length=n→P l:=by
  intro n
  induction n with
  |zero=>intro l h;rw[B1.1 h];exact h0
  |succ n ih=>
   intro l h
   rcases List.eq_nil_or_concat l with rfl|⟨L,b,rfl⟩
   ·exact h0
   ·rw[List.concat_eq_append] at h⊢;exact h1 _ _ (ih L (by simpa using h))
 exact this _ l rfl
theorem ez (m:Nat) (ps:List Pg):(iR m ps).length=2*ps.length:=by
 refine tz (P:=fun ps=>(iR m ps).length=2*ps.length) rfl (fun l p ih=>?_) ps
 rw[kA,AP,ih];simp[zB];omega
theorem nT (m:Nat) (ps:List Pg){j:Nat}{p:Pg} (h:ps[j]?=some p):(eQ m ps)[j]?=some (x5 m j p):=by simp[eQ,h]
theorem uD (m:Nat) (ps:List Pg):∀{j:Nat}{p:Pg},ps[j]?=some p→(iR m ps)[2*j]?=some (.arr 5 1 (p.2.map eB)):=by
 refine tz (P:=fun ps=>∀{j:Nat}{p:Pg},ps[j]?=some p→(iR m ps)[2*j]?=some (.arr 5 1 (p.2.map eB))) (fun{j p} h=>by simp at h) (fun l q ih=>?_) ps
 ·intro j p h
  rw[kA]
  rcases Bp j l.length with hj|hj
  ·rw[AJ hj] at h
   rw[AJ (by rw[ez];omega)]
   exact ih h
  ·have hjl:j=l.length:=by
    have:=(AH.1 h).1
    simp at this;omega
   subst hjl
   rw[AT (by omega),B7] at h
   cases h
   rw[AT (by rw[ez];exact AU _),ez,B7];rfl
theorem py (c:Nat) (ps:List Pg) (h0:0<ps.length) (hps:ps.length≤1048576) (hb:∀p∈ps,p.2.length≤134217728) (σ:List Ob):Ok Try.prog 22 [pgsD c ps] σ (.ret (.sl σ.length ps.length 0 ps.length)) (σ++ll σ.length ps):=by
 unfold pgsD
 obtain⟨X,hX⟩:∃X,X=ps.map ePg:=⟨_,rfl⟩
 have hXl:X.length=ps.length:=by rw[hX,AN]
 rw[←hX]
 obtain⟨m,hml⟩:∃m,m=σ.length:=⟨_,rfl⟩
 rw[←hml]
 obtain⟨P,hPP⟩:∃P:Nat→List DV,P=fun k=>eQ m (ps.take k):=⟨_,rfl⟩
 obtain⟨T,hTT⟩:∃T:Nat→List Ob,T=fun k=>iR m (ps.take k):=⟨_,rfl⟩
 have hPl:∀k,k≤ps.length→(P k).length=k:=fun k hk=>by rw[hPP];simp[iz,BE hk]
 have hTl:∀k,k≤ps.length→(T k).length=2*k:=fun k hk=>by rw[hTT];simp[ez,BE hk]
 have so:∀(T:List Ob) (k:Nat),(σ++T)[m+k]?=T[k]?:=fun T k=>by rw[hml];exact ak _ _ _
 have so0:∀(T:List Ob),(σ++T)[m]?=T[0]?:=fun T=>by rw[hml];exact aL _ _
 have ss0:∀(T:List Ob) (o:Ob),(σ++T).set m o=σ++T.set 0 o:=fun T o=>by rw[hml];exact gV _ _ _
 have lT:∀(T:List Ob),(σ++T).length=m+T.length:=fun T=>by rw[AP,hml]
 refine Ok.of_body ae Try.func22 rfl (by decide) (by simp[Try.ntmps22]) fun C hP hn hσ hfix hdd=>?_
 rw[show Try.f22.ntmps=20 from rfl] at hn
 have hL:af C.P L:=hP▸ae
 have hm:C.P.follows .mixedOrders=true:=hP▸ao
 repeat(first|(refine sB hL hn rfl ?_;simp only[go_sem,seval])|refine sN rfl ?_|refine sC ?_)
 refine SW.ghost (ai.newNil 3 67 1 rfl) ?_
 simp only[up,reduceEqDiff,reduceIte,←hml]
 refine SW.lpg (fun k:Nat=>⟨[(0,.vec c 1 X),(3,.sl m k 0 k),(4,.int .i64 k)],σ++Ob.arr 67 1 (P k)::T k⟩) (fun k=>ps.length-k) (fun k=>k≤ps.length) 0 (by omega) (.of (by rw[hPP,hTT];rfl) (by simp[aC,lk])) ?_
 intro k hk
 by_cases hlt:k<ps.length
 ·have e1:decide ((k:Int)<(ps.length:Int))=true:=decide_eq_true (by omega)
  have e2:(0≤(k:Int)∧(k:Int)<(ps.length:Int)):=by omega
  obtain⟨p,hp⟩:∃p,p=ps[k]'hlt:=⟨_,rfl⟩
  have hpb:=hb p (by rw[hp];exact BS hlt)
  have hcb:=nG p.1 p.2 hpb (σ++Ob.arr 67 1 (P k)::T k)
  obtain⟨B,hB⟩:∃B,B=p.2.map eB:=⟨_,rfl⟩
  have l1:=hPl k hk
  have l2:=hTl k hk
  have hpt:ps.take (k+1)=ps.take k++[p]:=by rw[←BN hlt,←hp]
  have ltk:(ps.take k).length=k:=by simp;omega
  have hPs:P k++[.sl (m+(1+2*k)) p.2.length 0 p.2.length]=P (k+1):=by
   rw[hPP];dsimp only
   rw[hpt,uE,ltk];rfl
  have hTs:T k++[.arr 5 1 B,.arr 67 1 [.sl (m+(1+2*k)) p.2.length 0 p.2.length]]=T (k+1):=by
   rw[hTT];dsimp only
   rw[hpt,kA,ltk,hB];rfl
  rw[lT,A5,l2,show m+(2*k+1)=m+(1+2*k) by omega,←hB,AR,Bq] at hcb
  have e3:X[k]?.getD .undef=.vec p.1 1 B:=by rw[hX,hB];simp[hlt,ePg,←hp]
  have w2:IntKind.i64.wrap ((k:Int)+1)=((k+1:Nat):Int):=wi (by omega) (by omega)
  have hcap:((k+1)*24≤140737488355328)=True:=eq_true (by omega)
  repeat(first|(refine sB hL hn rfl ?_;simp only[go_sem,seval,hXl,e2,e3])|refine sN rfl ?_|refine sC ?_)
  refine sK hP hL hn rfl rfl (hcb) rfl rfl rfl rfl ?_;simp (maxSteps:=2000000) only[go_sem,seval,aG,l1,hcap,so,so0,ss0,lT,hPs]
  rw[hTs]
  repeat(first|(refine sB hL hn rfl ?_;simp only[go_sem,seval,w2])|refine sN rfl ?_|refine sC ?_)
  exact Lp.nextg (k+1) (by show k+1≤_;omega) (by show ps.length-(k+1)<_;omega) (.of rfl (by simp[aC,lk]))
 ·have e1:decide ((k:Int)<(ps.length:Int))=false:=decide_eq_false (by omega)
  obtain rfl:k=ps.length:=by omega
  have hfin:Ob.arr 67 1 (P ps.length)::T ps.length=ll m ps:=by
   rw[hPP,hTT];simp[ll]
  rw[hfin]
  repeat(first|(refine sB hL hn rfl ?_;simp only[go_sem,seval,e1,hXl])|refine sN rfl ?_|refine sC ?_)
  exact⟨_,_,_,ai.refl _ _,rfl,ag.refl _ _ _,rfl⟩
theorem pz (c:Nat) (σ:List Ob):Ok Try.prog 22 [pgsD c []] σ (.ret .nils) σ:=by
 show Ok Try.prog 22 [.vec c 1 []] σ (.ret .nils) σ
 refine Ok.of_body ae Try.func22 rfl (by decide) (by simp[Try.ntmps22]) fun C hP hn hσ hfix hdd=>?_
 rw[show Try.f22.ntmps=20 from rfl] at hn
 have hL:af C.P L:=hP▸ae
 have hm:C.P.follows .mixedOrders=true:=hP▸ao
 repeat(first|(refine sB hL hn rfl ?_;simp only[go_sem,seval])|refine sN rfl ?_|refine sC ?_)
 refine SW.lpg (fun k:Nat=>⟨[(0,.vec c 1 []),(3,.nils),(4,.int .i64 0)],σ⟩) (fun k=>0) (fun k=>True) 0 trivial (.of rfl (by simp[aC,lk])) ?_
 intro k hk
 repeat(first|(refine sB hL hn rfl ?_;simp only[go_sem,seval])|refine sN rfl ?_|refine sC ?_)
 exact⟨_,_,_,ai.refl _ _,rfl,ag.refl _ _ _,rfl⟩
def ofG (n c:Nat) (ps:List Pg):List Ob:=.arr 24 1 [.agg [pgsD c ps]]::.arr 29 1 [.agg [.sl (n+2) ps.length 0 ps.length]]::ll (n+2) ps
theorem zF (c:Nat) (ps:List Pg) (h0:0<ps.length) (hps:ps.length≤1048576) (hb:∀p∈ps,p.2.length≤134217728) (σ:List Ob):Ok Try.prog 6 [.agg [pgsD c ps]] σ (.ret (.agg [.sl (σ.length+2) ps.length 0 ps.length])) (σ++ofG σ.length c ps):=by
 have hc:=py c ps h0 hps hb
 obtain⟨A,hA⟩:∃A,A=pgsD c ps:=⟨_,rfl⟩
 obtain⟨m,hml⟩:∃m,m=σ.length:=⟨_,rfl⟩
 unfold ofG
 rw[←hA] at hc⊢
 have hAo:A=.vec c 1 (ps.map ePg):=hA
 obtain⟨X,hX⟩:∃X,X=ps.map ePg:=⟨_,rfl⟩
 rw[←hX] at hAo
 have hc':=hc (σ++[.arr 24 1 [.agg [A]],.arr 29 1 [.agg [.nils]]])
 rw[AP,←hml,AR] at hc'
 simp only[A5,Bj,Bc,Dg,Bq,Be] at hc'
 obtain⟨LO,hLO⟩:∃LO,LO=ll (m+2) ps:=⟨_,rfl⟩
 rw[←hml]
 rw[←hLO] at hc'⊢
 rw[hAo] at hc'⊢
 have so0:∀(T:List Ob),(σ++T)[m]?=T[0]?:=fun T=>by rw[hml];exact aL _ _
 have so:∀(T:List Ob) (k:Nat),(σ++T)[m+k]?=T[k]?:=fun T k=>by rw[hml];exact ak _ _ _
 have ss1:∀(T:List Ob) (k:Nat) (o:Ob),(σ++T).set (m+k) o=σ++T.set k o:=fun T k o=>by rw[hml];exact ay _ _ _ _
 have hbd:bf L 29 [(0,.sl (m+2) ps.length 0 ps.length)]=some (.agg [.sl (m+2) ps.length 0 ps.length]):=rfl
 subst hml
 refine Ok.of_body ae Try.func6 rfl (by decide) (by simp[Try.ntmps6]) fun C hP hn hσ hfix hdd=>?_
 rw[show Try.f6.ntmps=7 from rfl] at hn
 have hL:af C.P L:=hP▸ae
 have hm:C.P.follows .mixedOrders=true:=hP▸ao
 repeat(first|(refine sB hL hn rfl ?_;simp only[go_sem,seval,so0])|refine sN rfl ?_|refine sC ?_)
 refine sK hP hL hn rfl rfl (hc') rfl rfl rfl rfl ?_;simp (maxSteps:=2000000) only[go_sem,seval,hbd,so,ss1]
 repeat(first|(refine sB hL hn rfl ?_;simp only[go_sem,seval,hbd,so0,so,ss1])|refine sN rfl ?_|refine sC ?_)
 refine⟨_,(.agg [.sl (σ.length+2) ps.length 0 ps.length]),_,ai.refl _ _,?_,ag.refl _ _ _,rfl⟩
 show aF L _ [Go.ResultVar.cell 2 29]=_
 simp only[aF,cA,aV,go_sem,seval,so]
theorem zG (c:Nat) (σ:List Ob):Ok Try.prog 6 [.agg [pgsD c []]] σ (.ret (.agg [.nils])) σ:=by
 refine OkE.ok (OkE.tidy (c:=0) (R:=fun o O=>o=.ret (.agg [.nils])∧O=σ) ?_) fun o O h=>h
 have hc:=pz c
 have hbd:bf L 29 [(0,.nils)]=some (.agg [.nils]):=rfl
 have so0:∀(T:List Ob),(σ++T)[σ.length]?=T[0]?:=fun T=>aL _ _
 have so:∀(T:List Ob) (k:Nat),(σ++T)[σ.length+k]?=T[k]?:=fun T k=>ak _ _ _
 have ss1:∀(T:List Ob) (k:Nat) (o:Ob),(σ++T).set (σ.length+k) o=σ++T.set k o:=fun T k o=>ay _ _ _ _
 show OkE Try.prog 6 [.agg [.vec c 1 []]] σ _
 refine OkE.of_body ae Try.func6 rfl (by decide) (by simp[Try.ntmps6]) fun C hP hn hσ hfix hdd=>?_
 rw[show Try.f6.ntmps=7 from rfl] at hn
 have hL:af C.P L:=hP▸ae
 have hm:C.P.follows .mixedOrders=true:=hP▸ao
 repeat(first|(refine sB hL hn rfl ?_;simp only[go_sem,seval,so0])|refine sN rfl ?_|refine sC ?_)
 refine sK hP hL hn rfl rfl (hc _) rfl rfl rfl rfl ?_;simp (maxSteps:=2000000) only[go_sem,seval,hbd,so,ss1]
 repeat(first|(refine sB hL hn rfl ?_;simp only[go_sem,seval,hbd,so0,so,ss1])|refine sN rfl ?_|refine sC ?_)
 refine⟨_,_,?_,_,(.agg [.nils]),_,ai.refl _ _,?_,ag.refl _ _ _,rfl⟩
 rotate_left
 show aF L _ [Go.ResultVar.cell 2 29]=_
 simp only[aF,cA,aV,go_sem,seval,so]
 exact Tid.none (.low (by simp[aH,fQ])) ⟨rfl,rfl⟩
theorem oh{α:Type}{l:List α}{i:Nat}{x:α} (h:l[i]?=some x):i<l.length:=(AH.1 h).1
def kC (b:UInt8):UInt8:=UInt8.ofNat (255-b.toNat)
theorem xq:∀n:_root_.Fin 256,bits .u8 .xor 255 (n.val:Int)=((255-n.val:Nat):Int):=by decide
theorem yf (b:UInt8):bits .u8 .xor 255 (b.toNat:Int)=((kC b).toNat:Int):=by
 have:=xq ⟨b.toNat,b.toNat_lt⟩
 rw[this]
 unfold kC
 simp only[UInt8.toNat_ofNat']
 have:=b.toNat_lt
 omega
theorem zv{α:Type}{l:List α}{i:Nat}{x:α} (h:l[i]?=some x):l.set i x=l:=by
 apply BV
 intro j
 rw[B2]
 split
 ·rename_i e
  subst e
  rw[if_pos (oh h),h]
 ·rfl
theorem vV (m:Nat) (bs:List UInt8) (σ:List Ob) (h:bs.length≤140737488355328) (hx:σ[m]?=some (.arr 5 1 (bs.map eB))):
  Ok Try.prog 28 [.sl m bs.length 0 bs.length] σ (.ret (.tup [])) (σ.set m (.arr 5 1 ((bs.map kC).map eB))):=by
 refine Ok.of_body ae Try.func28 rfl (by decide) (by simp[Try.ntmps28]) fun C hP hn hσ hfix hdd=>?_
 rw[show Try.f28.ntmps=17 from rfl] at hn
 have hL:af C.P L:=hP▸ae
 have hm:C.P.follows .mixedOrders=true:=hP▸ao
 repeat(first|(refine sB hL hn rfl ?_;simp only[go_sem,seval])|refine sN rfl ?_|refine sC ?_)
 refine SW.lpg (fun k:Nat=>⟨[(0,.sl m bs.length 0 bs.length),(2,.int .i64 k)],σ.set m (.arr 5 1 (((bs.take k).map kC++bs.drop k).map eB))⟩) (fun k=>bs.length-k) (fun k=>k≤bs.length) 0 (by omega) (.of (by simpa using zv hx) ⟨rfl,rfl,trivial⟩) ?_
 intro k hk
 have hml:=oh hx
 have g:∀x:Ob,(σ.set m x)[m]?=some x:=fun x=>by rw[B2,if_pos rfl,if_pos hml]
 have gs:∀x y:Ob,(σ.set m x).set m y=σ.set m y:=fun x y=>by simp
 by_cases hlt:k<bs.length
 ·have e1:decide ((k:Int)<(bs.length:Int))=true:=decide_eq_true (by omega)
  have e2:(0≤(k:Int)∧(k:Int)<(bs.length:Int)):=by omega
  have w1:IntKind.i64.wrap ((k:Int)+1)=((k+1:Nat):Int):=wi (by omega) (by omega)
  have hl:(((bs.take k).map kC++bs.drop k).map eB).length=bs.length:=by simp;omega
  have hg:(((bs.take k).map kC++bs.drop k).map eB)[k]?=some (eB bs[k]):=by
   rw[AQ,AT (by simp;omega)]
   simp[Bk,BE (Nat.le_of_lt hlt),hlt]
  obtain⟨Y,hY⟩:∃Y,Y=((bs.take k).map kC++bs.drop k).map eB:=⟨_,rfl⟩
  rw[←hY] at hl hg
  have hs:Y.set k (.int .u8 ((kC bs[k]).toNat:Int))=((bs.take (k+1)).map kC++bs.drop (k+1)).map eB:=by
   rw[hY]
   apply BV
   intro j
   rw[B2]
   have hl2:(((bs.take k).map kC++bs.drop k).map eB).length=bs.length:=by simp;omega
   by_cases hj:k=j
   ·subst hj
    rw[if_pos rfl,if_pos (by omega),AQ,AJ (by simp;omega)]
    simp[hlt,eB]
   ·rw[if_neg hj,AQ,AQ]
    congr 1
    rcases Bp j k with h'|h'
    ·rw[AJ (by simp;omega),AJ (by simp;omega)]
     simp[h',show j<k+1 by omega]
    ·rw[AT (by simp;omega),AT (by simp;omega)]
     simp only[AN,Bi,Bk]
     congr 1
     omega
  have nb:=yf bs[k]
  have mx:IntKind.u8.max=255:=rfl
  have sg:IntKind.u8.signed=false:=rfl
  rw[←hY]
  simp only[eB] at hg
  repeat(first|(refine sB hL hn rfl ?_;simp only[go_sem,seval,e2,g,gs,hl,hg,nb,mx,sg,w1])|refine sN rfl ?_|refine sC ?_)
  exact Lp.nextg (k+1) (by omega) (by omega) (.of (by rw[←hs];rfl) ⟨rfl,rfl,trivial⟩)
 ·have e1:decide ((k:Int)<(bs.length:Int))=false:=decide_eq_false (by omega)
  obtain rfl:k=bs.length:=by omega
  repeat(first|(refine sB hL hn rfl ?_;simp only[go_sem,seval,e1])|refine sN rfl ?_|refine sC ?_)
  rw[Co,List.drop_length,AK]
  exact⟨_,_,_,ai.refl _ _,rfl,ag.refl _ _ _,rfl⟩
def dU (f:Nat→Nat) (B:Nat→List UInt8) (σ:List Ob):Nat→List Ob
 |0=>σ
 |k+1=>(dU f B σ k).set (f k) (.arr 5 1 (((B k).map kC).map eB))
theorem gh (f:Nat→Nat) (B:Nat→List UInt8) (σ:List Ob) (i:Nat):∀k,(∀j,j<k→f j≠i)→(dU f B σ k)[i]?=σ[i]?
 |0,_=>rfl
 |k+1,h=>by
  rw[dU,B2,if_neg (h k (by omega))]
  exact gh f B σ i k fun j hj=>h j (by omega)
theorem oP (ps:List Pg) (l:Nat) (σ:List Ob) (hn0:ps.length≤1048576) (hbl:∀p∈ps,p.2.length≤134217728) (hl:σ[l]?=some (.arr 67 1 (eQ l ps))) (hB:∀j p,ps[j]?=some p→σ[l+(1+2*j)]?=some (.arr 5 1 (p.2.map eB))):
  Ok Try.prog 8 [.sl l ps.length 0 ps.length] σ (.ret (.tup [])) (dU (fun j=>l+(1+2*j)) (fun j=>((ps[j]?).getD (0,[])).2) σ ps.length):=by
 obtain⟨n,hnn⟩:∃n,n=ps.length:=⟨_,rfl⟩
 obtain⟨f,hf⟩:∃f:Nat→Nat,f=fun j=>l+(1+2*j):=⟨_,rfl⟩
 obtain⟨B,hBB⟩:∃B:Nat→List UInt8,B=fun j=>((ps[j]?).getD (0,[])).2:=⟨_,rfl⟩
 rw[←hf,←hBB,←hnn]
 obtain⟨X,hX⟩:∃X,X=eQ l ps:=⟨_,rfl⟩
 have hXl:X.length=n:=by rw[hX,iz,hnn]
 rw[←hX] at hl
 refine Ok.of_body ae Try.func8 rfl (by decide) (by simp[Try.ntmps8]) fun C hP hn hσ hfix hdd=>?_
 rw[show Try.f8.ntmps=14 from rfl] at hn
 have hL:af C.P L:=hP▸ae
 have hm:C.P.follows .mixedOrders=true:=hP▸ao
 repeat(first|(refine sB hL hn rfl ?_;simp only[go_sem,seval])|refine sN rfl ?_|refine sC ?_)
 refine SW.lpg (fun k:Nat=>⟨[(0,.sl l n 0 n),(2,.int .i64 k)],dU f B σ k⟩) (fun k=>n-k) (fun k=>k≤n) 0 (by omega) (.of rfl ⟨rfl,rfl,trivial⟩) ?_
 intro k hk
 by_cases hlt:k<n
 ·have e1:decide ((k:Int)<(n:Int))=true:=decide_eq_true (by omega)
  have e2:(0≤(k:Int)∧(k:Int)<(n:Int)):=by omega
  obtain⟨p,hp⟩:∃p,ps[k]?=some p:=⟨_,AI (by omega)⟩
  have hBk:B k=p.2:=by rw[hBB];simp[hp]
  have e3:X[k]?=some (.sl (f k) p.2.length 0 p.2.length):=by rw[hX,nT l ps hp,hf];rfl
  have w1:IntKind.i64.wrap ((k:Int)+1)=((k+1:Nat):Int):=wi (by omega) (by omega)
  have g1:(dU f B σ k)[l]?=some (.arr 67 1 X):=(gh f B σ l k fun j hj=>by rw[hf];dsimp only;omega).trans hl
  have g2:(dU f B σ k)[f k]?=some (.arr 5 1 (p.2.map eB)):=(gh f B σ (f k) k fun j hj=>by rw[hf];dsimp only;omega).trans (by rw[hf];exact hB k p hp)
  have hsp:=vV (f k) p.2 (dU f B σ k) (by have:=hbl p (AM hp);omega) g2
  have hnx:(dU f B σ k).set (f k) (.arr 5 1 ((p.2.map kC).map eB))=dU f B σ (k+1):=by
   show _=(dU f B σ k).set (f k) (.arr 5 1 (((B k).map kC).map eB))
   rw[hBk]
  rw[hnx] at hsp
  repeat(first|(refine sB hL hn rfl ?_;simp only[go_sem,seval,g1,e2,e3,hXl])|refine sN rfl ?_|refine sC ?_)
  refine sK hP hL hn rfl rfl (hsp) rfl rfl rfl rfl ?_;simp (maxSteps:=2000000) only[go_sem,seval]
  repeat(first|(refine sB hL hn rfl ?_;simp only[go_sem,seval,w1])|refine sN rfl ?_|refine sC ?_)
  exact Lp.nextg (k+1) (by omega) (by omega) (.of rfl ⟨rfl,rfl,trivial⟩)
 ·have e1:decide ((k:Int)<(n:Int))=false:=decide_eq_false (by omega)
  obtain rfl:k=n:=by omega
  repeat(first|(refine sB hL hn rfl ?_;simp only[go_sem,seval,e1])|refine sN rfl ?_|refine sC ?_)
  exact⟨_,_,_,ai.refl _ _,rfl,ag.refl _ _ _,rfl⟩
theorem p7 (σ:List Ob):Ok Try.prog 8 [.nils] σ (.ret (.tup [])) σ:=by
 refine Ok.of_body ae Try.func8 rfl (by decide) (by simp[Try.ntmps8]) fun C hP hn hσ hfix hdd=>?_
 rw[show Try.f8.ntmps=14 from rfl] at hn
 have hL:af C.P L:=hP▸ae
 have hm:C.P.follows .mixedOrders=true:=hP▸ao
 repeat(first|(refine sB hL hn rfl ?_;simp only[go_sem,seval])|refine sN rfl ?_|refine sC ?_)
 refine SW.lpg (fun k:Nat=>⟨[(0,.nils),(2,.int .i64 0)],σ⟩) (fun k=>0) (fun k=>True) 0 trivial (.of rfl ⟨rfl,rfl,trivial⟩) ?_
 intro k hk
 repeat(first|(refine sB hL hn rfl ?_;simp only[go_sem,seval])|refine sN rfl ?_|refine sC ?_)
 exact⟨_,_,_,ai.refl _ _,rfl,ag.refl _ _ _,rfl⟩
theorem n8 (ps:List Pg):∀(n:Nat) (at_ level:Int) (lo hi:Option Int) (w:WS),bX (ps.map pg0) n at_ level lo hi w=bX ps n at_ level lo hi w
 |0,_,_,_,_,_=>rfl
 |n+1,at_,level,lo,hi,w=>by
  have e:=gS ps at_
  unfold ef at e
  have hf:(fun k a b w=>bX (ps.map pg0) n k (level+1) a b w)=fun k a b w=>bX ps n k (level+1) a b w:=by
   funext k a b w
   exact n8 ps n k (level+1) a b w
  simp only[bX,AN,e,hf]
theorem nN (ps:List Pg) (root:Int):bT (ps.map pg0) root=bT ps root:=by
 unfold bT
 simp only[AN,n8]
theorem mC{ps:List Pg} (hb9:∀p∈ps,p.2.length≤134217728) (root:Int) (x:It):∃(ps':List Pg) (q e:Int),(∀p∈ps',p.1=0)∧∀(qs:List Pg),qs.map pg0=ps.map pg0→∀(c:Nat) (σ:List Ob),Ok Try.prog 7 [stD c qs,.int .i64 root,eT x] σ (.ret (o6 ps' q e)) σ:=by
 obtain⟨e,he⟩:∃e,e=(bT ps root).2:=⟨_,rfl⟩
 have hqe:∀qs:List Pg,qs.map pg0=ps.map pg0→(bT qs root).2=e:=fun qs h=>by rw[he,←nN qs,h,nN]
 have hql:∀qs:List Pg,qs.map pg0=ps.map pg0→qs.length=ps.length:=fun qs h=>by simpa using congrArg Cr h
 have hqb:∀qs:List Pg,qs.map pg0=ps.map pg0→∀p∈qs,p.2.length≤134217728:=fun qs h p hp=>by
  have h1:Go.VL.pg0 p∈qs.map pg0:=List.mem_map_of_mem hp
  rw[h] at h1
  obtain⟨y,hy,hy2⟩:=Ba.1 h1
  have:p.2=y.2:=by simpa[Go.VL.pg0] using(congrArg Prod.snd hy2).symm
  rw[this];exact hb9 y hy
 have hck:∀qs:List Pg,qs.map pg0=ps.map pg0→∀c σ,Ok Try.prog 20 [stD c qs,.int .i64 root] σ (.ret (.int .i64 e)) σ:=fun qs h c σ=>by
  rw[←hqe qs h];unfold stD
  split
  ·rename_i h;subst h;exact vg root σ
  ·exact rA c qs root σ
 have hS:∀(qs:List Pg) c n,Low n (stD c qs):=fun qs c n=>by
  unfold stD
  split
  ·simp[aH,fQ]
  ·have:=gn n c qs
   rw[aH];simpa using this
 have hagg:∀(qs:List Pg) c,∃l,stD c qs=.agg [l]:=fun qs c=>by
  unfold stD
  split
  ·exact⟨_,rfl⟩
  ·exact⟨_,rfl⟩
 by_cases h0:e=0
 ·rw[he] at h0
  obtain⟨hl,hr⟩:=xE h0
  obtain⟨R,hok,hT⟩:=xD x (w:=⟨ps.map Go.VL.pg0,0⟩) ⟨BD _,by simpa using hl,fun p hp=>by obtain⟨y,_,rfl⟩:=Ba.1 hp;rfl⟩ (root:=root) (hr.imp id fun⟨d,hv⟩=>⟨d,hv.pg0⟩)
  have htr:∀qs:List Pg,qs.map pg0=ps.map pg0→∀c,e=0→∀σ b,σ[b]?=some (.arr 27 2 [eT x])→Ok Try.prog 23 [stD c qs,.int .i64 root,.int .u64 x.1,.fn 24 [.ptr b 1 0 0]] σ (.ret (nu σ.length R)) (σ++l9 R):=fun qs hqs c _ σ b hb=>by
   rw[←hqs] at hT
   unfold stD
   split
   ·rename_i h;subst h;exact rR hb hT
   ·rename_i h;exact um c (List.length_pos_iff.2 h) (hqb qs hqs) (by rw[hql qs hqs];exact hl) hb hT
  rw[←he] at h0
  cases R with
  |none=>exact⟨[],0,51,fun p hp=>(by cases hp),fun qs hqs c σ=>(my (hS qs c) (hagg qs c) (hck qs hqs c) (htr qs hqs c) σ).2.1 h0 rfl⟩
  |some r=>
   obtain⟨w,q⟩:=r
   exact⟨w.ps,q,0,(hok w q rfl).2.2,fun qs hqs c σ=>(my (hS qs c) (hagg qs c) (hck qs hqs c) (htr qs hqs c) σ).2.2 w q h0 rfl⟩
 ·exact⟨[],0,e,fun p hp=>(by cases hp),fun qs hqs c σ=>(my (R:=none) (hS qs c) (hagg qs c) (hck qs hqs c) (fun h=>absurd h h0) σ).1 h0⟩
def pg1 (p:Pg):Pg:=(1,p.2)
theorem Ay{ps:List Pg}{q e:Int} (h:∀p∈ps,p.1=0):Cl 1 (fun _=>True) (o6 ps q e):=by
 refine .tup fun x hx=>?_
 simp only[Bh,Bw,or_false] at hx
 rcases hx with rfl|rfl|rfl
 ·refine .agg fun x hx=>?_
  rw[BX.1 hx]
  refine .vec (by decide) fun z hz=>?_
  obtain⟨p,hp,rfl⟩:=Ba.1 hz
  unfold ePg
  rw[h p hp]
  exact kj _ _
 ·exact .int
 ·exact .int
theorem qm{m j:Nat}{qs:List Pg}{x y:DV} (hx:(eQ m qs)[0+j]?=some x) (hy:((qs.map pg1).map ePg)[j]?=some y):∃p,qs[j]?=some p∧x=.sl (m+(1+2*j)) p.2.length 0 p.2.length∧y=.vec 1 1 (p.2.map eB):=by
 rw[Bc] at hx
 have hj:j<qs.length:=by have:=(AH.1 hx).1;rwa [iz] at this
 obtain⟨p,hp⟩:∃p,qs[j]?=some p:=⟨_,AI hj⟩
 refine⟨p,hp,?_,?_⟩
 ·rw[nT m qs hp] at hx;cases hx;rfl
 ·rw[AQ,AQ,hp] at hy;cases hy;rfl
theorem ya{qs:List Pg}{root:Int}{x:It}{D:DV} (hput:Ok Try.prog 7 [.agg [pgsD 1 (qs.map pg1)],.int .i64 root,eT x] [] (.ret D) []) (hD:Cl 1 (fun _=>True) D){σ:List Ob}{m:Nat} (hm:σ[m]?=some (.arr 67 1 (eQ m qs))) (hr:∀j p,qs[j]?=some p→σ[m+(1+2*j)]?=some (.arr 5 1 (p.2.map eB))):
  Ok Try.prog 7 [.agg [.sl m qs.length 0 qs.length],.int .i64 root,eT x] σ (.ret D) σ:=by
 refine Ok.lendF (c:=1) hput rfl (fun i x y hx hy=>?_) hD
 match i,hx,hy with
 |0,hx,hy=>
  cases hx;cases hy
  refine .agg rfl fun i x y hx hy=>?_
  match i,hx,hy with
  |0,hx,hy=>
   cases hx;cases hy
   have:=Fz.sl (O:=σ) (c:=1) (off:=0) (l:=qs.length) (k:=1) (ys:=(qs.map pg1).map ePg) hm (by simp) (fun j x y hj hx hy=>?_) (fun j i x y d D hj hx hy hd hD=>?_)
   ·rw[iz] at this;exact this
   ·obtain⟨p,_,rfl,rfl⟩:=qm hx hy
    rfl
   ·obtain⟨p,hp,rfl,rfl⟩:=qm hx hy
    match i,hd,hD with
    |0,hd,hD=>cases hd;cases hD;exact Fz.bytes rfl (hr j p hp)
    |i+1,hd,_=>simp[DV.cells] at hd
  |i+1,hx,_=>simp at hx
 |1,hx,hy=>cases hx;cases hy;exact .int
 |2,hx,hy=>cases hx;cases hy;exact .low (cD 0 _)
 |i+3,hx,_=>simp at hx
end Go.VL
