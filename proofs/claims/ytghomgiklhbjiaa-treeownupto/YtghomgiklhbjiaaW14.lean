/- Proved: TreeOwn: whatever tree, root and item come in (together of bulk at most 1048576), the call returns true and they read as they did; no other condition. This text is part 14 of 18. -/
import Derived.Test.YtghomgiklhbjiaaW13
set_option linter.unusedSimpArgs false
set_option linter.unusedVariables false
set_option maxRecDepth 10000
set_option maxHeartbeats 2000000
open List renaming append_assoc → AR,cons_append → Bq,getD_eq_getElem?_getD → AZ,getElem?_eq_getElem → AI,getElem?_eq_some_iff → AH,getElem?_map → AQ,getElem?_set_ne → A6,getElem_mem → BS,length_append → AP,length_cons → A5,length_eq_zero_iff → B1,length_map → AN,length_nil → Bj,length_singleton → Ca,mem_cons → Bh,nil_append → Be,replicate → AO,take_append_of_le_length → BL,take_of_length_le → AV
open Nat renaming add_zero → Bt,le_refl → AU,reduceAdd → Dg,zero_add → Bc
open Int renaming toNat → Ce
namespace Go.VL
open Go Go.Proofs
open Nat (reduceAdd reduceEqDiff reduceSub reduceMul reduceLeDiff)
section
noncomputable def iY:Code:=match Try.f39.body with
 |some (.seq _ (.seq _ (.seq _ t)))=>t
 |_=>.skip
section
variable{a m5 m10 J g len:Nat}{pt:aE}{I:DV}{c:Nat}{K:List DV}{q low0:Int}{R:List DV}{ob:List Ob} (C:Ctx) (hP:C.P=Try.prog) (hn:C.n=80) (h5:ob[m5]?=some (.arr 91 2 [ePt pt])) (h10:ob[m10]?=some (.arr 95 2 [.agg [I,.vec c 1 K]]))
 (hJ:ob[J]?=some (.arr 91 2 (.agg [.int .i64 q,.int .u64 low0]::R))) (hg:g=R.length+1) (n5:m5≠J) (n10:m10≠J) (hlen:0<len) (hlg:len≤g)
include hP hn h5 h10 hJ hg n5 n10 hlen hlg
theorem xH (hK:K=[]):SW C iY ⟨[(0,.ptr a 1 0 0),(5,.ptr m5 1 0 0),(8,.sl J g 0 len),(10,.ptr m10 1 0 0)],ob⟩ (lE C L Try.f39.results.toList (.ret (.tup [.sl J g 0 len,.bool false])) (ob.set J (.arr 91 2 (.agg [.int .i64 q,.int .u64 pt.2]::R)))):=by
 have _:=n5;have _:=hlg
 have hL:af C.P L:=hP▸ae
 have hm:C.P.follows .mixedOrders=true:=hP▸ao
 obtain⟨pt1,pt2⟩:=pt
 simp only[ePt] at h5
 have d1:((len:Int)==0)=false:=beq_eq_false_iff_ne.2 (by omega)
 have e0:((0:Int)<(len:Int))=True:=eq_true (by omega)
 have g10:∀z,(ob.set J z)[m10]?=some (.arr 95 2 [.agg [I,.vec c 1 K]]):=fun z=>by rw[A6 (Ne.symm n10)];exact h10
 have t0:Ce 0=0:=rfl
 subst hK
 show SW C ((Code.seq _ _).seq (Code.seq _ (Code.seq _ _))) _ _
 repeat(first|(refine sB hL hn rfl ?_;simp only[go_sem,seval,d1,h5,hJ,e0,g10,hg,t0])|refine sN rfl ?_|refine sC ?_)
 exact⟨_,_,_,ai.refl _ _,rfl,ag.refl _ _ _,rfl⟩
theorem xF (hK:0<K.length) (h1:len=1):SW C iY ⟨[(0,.ptr a 1 0 0),(5,.ptr m5 1 0 0),(8,.sl J g 0 len),(10,.ptr m10 1 0 0)],ob⟩ (lE C L Try.f39.results.toList (.ret (.tup [.sl J g 0 1,.bool true])) (ob.set J (.arr 91 2 (.agg [.int .i64 q,.int .u64 pt.2]::R)))):=by
 have _:=n5;have _:=hlen;have _:=hlg
 have hL:af C.P L:=hP▸ae
 have hm:C.P.follows .mixedOrders=true:=hP▸ao
 obtain⟨pt1,pt2⟩:=pt
 simp only[ePt] at h5
 have d1:((len:Int)==0)=false:=beq_eq_false_iff_ne.2 (by omega)
 have e0:((0:Int)<(len:Int))=True:=eq_true (by omega)
 have g10:∀z,(ob.set J z)[m10]?=some (.arr 95 2 [.agg [I,.vec c 1 K]]):=fun z=>by rw[A6 (Ne.symm n10)];exact h10
 have t0:Ce 0=0:=rfl
 have d2:((K.length:Int)==0)=false:=beq_eq_false_iff_ne.2 (by omega)
 have d3:((len:Int)==1)=true:=by rw[h1];rfl
 rw[show DV.sl J g 0 1=.sl J g 0 len by rw[h1]]
 show SW C ((Code.seq _ _).seq (Code.seq _ (Code.seq _ _))) _ _
 repeat(first|(refine sB hL hn rfl ?_;simp only[go_sem,seval,d1,d2,d3,h5,hJ,e0,g10,hg,t0])|refine sN rfl ?_|refine sC ?_)
 exact⟨_,_,_,ai.refl _ _,rfl,ag.refl _ _ _,rfl⟩
theorem xG (hK:0<K.length) (h1:2≤len){d:DV}{ob2:List Ob} (ht:Ok Try.prog 40 [.ptr a 1 0 0,.sl J g 0 len] (ob.set J (.arr 91 2 (.agg [.int .i64 q,.int .u64 pt.2]::R))) (.ret d) ob2):SW C iY ⟨[(0,.ptr a 1 0 0),(5,.ptr m5 1 0 0),(8,.sl J g 0 len),(10,.ptr m10 1 0 0)],ob⟩ (lE C L Try.f39.results.toList (.ret (.tup [d,.bool false])) ob2):=by
 have _:=n5;have _:=hlen;have _:=hlg
 have hL:af C.P L:=hP▸ae
 have hm:C.P.follows .mixedOrders=true:=hP▸ao
 obtain⟨pt1,pt2⟩:=pt
 simp only[ePt] at h5
 have d1:((len:Int)==0)=false:=beq_eq_false_iff_ne.2 (by omega)
 have e0:((0:Int)<(len:Int))=True:=eq_true (by omega)
 have g10:∀z,(ob.set J z)[m10]?=some (.arr 95 2 [.agg [I,.vec c 1 K]]):=fun z=>by rw[A6 (Ne.symm n10)];exact h10
 have t0:Ce 0=0:=rfl
 have d2:((K.length:Int)==0)=false:=beq_eq_false_iff_ne.2 (by omega)
 have d3:((len:Int)==1)=false:=beq_eq_false_iff_ne.2 (by omega)
 rw[hg] at ht
 show SW C ((Code.seq _ _).seq (Code.seq _ (Code.seq _ _))) _ _
 repeat(first|(refine sB hL hn rfl ?_;simp only[go_sem,seval,d1,d2,d3,h5,hJ,e0,g10,hg,t0])|refine sN rfl ?_|refine sC ?_)
 refine sK hP hL hn rfl rfl (ht) rfl rfl rfl rfl ?_;simp (maxSteps:=2000000) only[go_sem,seval]
 repeat(first|(refine sB hL hn rfl ?_;simp only[go_sem,seval])|refine sN rfl ?_|refine sC ?_)
 exact⟨_,_,_,ai.refl _ _,rfl,ag.refl _ _ _,rfl⟩
theorem zq (hK:0<K.length) (h1:2≤len){d:DV}{ob2:List Ob} (ht:Ok Try.prog 40 [.ptr a 1 0 0,.sl J g 0 len] (ob.set J (.arr 91 2 (.agg [.int .i64 q,.int .u64 pt.2]::R))) (.pan d) ob2):SW C iY ⟨[(0,.ptr a 1 0 0),(5,.ptr m5 1 0 0),(8,.sl J g 0 len),(10,.ptr m10 1 0 0)],ob⟩ (lE C L Try.f39.results.toList (.pan d) ob2):=by
 have _:=n5;have _:=hlen;have _:=hlg
 have hL:af C.P L:=hP▸ae
 have hm:C.P.follows .mixedOrders=true:=hP▸ao
 obtain⟨pt1,pt2⟩:=pt
 simp only[ePt] at h5
 have d1:((len:Int)==0)=false:=beq_eq_false_iff_ne.2 (by omega)
 have e0:((0:Int)<(len:Int))=True:=eq_true (by omega)
 have g10:∀z,(ob.set J z)[m10]?=some (.arr 95 2 [.agg [I,.vec c 1 K]]):=fun z=>by rw[A6 (Ne.symm n10)];exact h10
 have t0:Ce 0=0:=rfl
 have d2:((K.length:Int)==0)=false:=beq_eq_false_iff_ne.2 (by omega)
 have d3:((len:Int)==1)=false:=beq_eq_false_iff_ne.2 (by omega)
 rw[hg] at ht
 show SW C ((Code.seq _ _).seq (Code.seq _ (Code.seq _ _))) _ _
 repeat(first|(refine sB hL hn rfl ?_;simp only[go_sem,seval,d1,d2,d3,h5,hJ,e0,g10,hg,t0])|refine sN rfl ?_|refine sC ?_)
 refine aa.callp hP (by rw[hn];rfl) (ht) rfl rfl rfl rfl ?_;simp (maxSteps:=2000000) only[go_sem,seval]
 exact⟨_,ag.refl _ _ _,rfl⟩
end
end
section
def fg (l:List aE) (low:Int):List aE:=match l with
 | []=> []
 |q::r=>(q.1,low)::r
theorem g8 (l:List aE) (low:Int):(fg l low).length=l.length:=by cases l<;>rfl
section
variable{σ:List Ob}{a p b:Nat}{w:Wr}{pt:aE}{x:It} (h2:Two σ a p) (hw:w.ok) (hb:σ[b]?=some (.arr 27 2 [eT x])) (hba:b≠a) (hbp:b≠p) (hpt:okAt w.ps pt.1) (key:Int)
include h2 hw hb hba hbp hpt
theorem ua:Ok Try.prog 54 [.ptr a 1 0 0,.int .i64 pt.1] (wS2 σ a p w++[.arr 91 2 [ePt pt]]) (.ret (.agg [.sl (σ.length+1) (bn w.ps pt.1).length 0 (bn w.ps pt.1).length,.vec 0 1 ((bD w.ps pt.1).map eI)])) (wS2 σ a p w++[.arr 91 2 [ePt pt],.arr 27 2 ((bn w.ps pt.1).map eT)]):=by
 have _:=x;have _:=hb;have _:=hba;have _:=hbp
 have:=sz (σ:=wS2 σ a p w++[.arr 91 2 [ePt pt]]) (ca h2 w _) hpt.1 hpt.2.1 (by have:=hw.2;omega) hpt.2.2
 rw[aT h2,AP,am,AR] at this
 exact this
theorem tT (hk:bD w.ps pt.1=[]):
  (∀l w',iV w (gk (bn w.ps pt.1) x)=some (l,w')→Ok Try.prog 39 [.ptr a 1 0 0,ePt pt,.int .u64 key,.fn 24 [.ptr b 1 0 0]] (wS2 σ a p w) (.ret (.tup [.sl σ.length l.length 0 l.length,.bool false])) (wS2 σ a p w'++[prG (fg l pt.2) 0]))∧
  (iV w (gk (bn w.ps pt.1) x)=none→∃w',Ok Try.prog 39 [.ptr a 1 0 0,ePt pt,.int .u64 key,.fn 24 [.ptr b 1 0 0]] (wS2 σ a p w) (.pan (be 51)) (wS2 σ a p w')):=by
 have hold:=ua h2 hw hb hba hbp hpt
 obtain⟨f1,f2,_⟩:=hpt.facts
 rw[hk] at hold
 obtain⟨xs,hxs⟩:∃xs,xs=bn w.ps pt.1:=⟨_,rfl⟩
 rw[←hxs] at hold f1 f2⊢
 obtain⟨m,hm⟩:∃m,m=σ.length:=⟨_,rfl⟩
 obtain⟨U,hU⟩:∃U,U=wS2 σ a p w:=⟨_,rfl⟩
 have hUl:U.length=m:=by rw[hU,am,hm]
 obtain⟨B5,hB5⟩:∃B5,B5=Ob.arr 91 2 [ePt pt]:=⟨_,rfl⟩
 obtain⟨N,hN⟩:∃N,N=Ob.arr 95 2 [.agg [.sl (m+1) xs.length 0 xs.length,.vec 0 1 []]]:=⟨_,rfl⟩
 obtain⟨I,hI⟩:∃I,I=Ob.arr 27 2 (xs.map eT):=⟨_,rfl⟩
 obtain⟨X,hX⟩:∃X,X=Ob.arr 27 2 [eT x]:=⟨_,rfl⟩
 obtain⟨pl,hpl⟩:∃pl,pl=gk xs x:=⟨_,rfl⟩
 have hpll:=qt xs x
 rw[←hpl] at hpll⊢
 obtain⟨I',hI'⟩:∃I',I'=Ob.arr 27 2 (pl.map eT):=⟨_,rfl⟩
 have so1:∀(T:List Ob) (k:Nat),(U++T)[m+k]?=T[k]?:=fun T k=>by rw[←hUl];exact ak _ _ _
 have so0:∀(T:List Ob),(U++T)[m]?=T[0]?:=fun T=>by rw[←hUl];exact aL _ _
 have ss1:∀(T:List Ob) (k:Nat) (o:Ob),(U++T).set (m+k) o=U++T.set k o:=fun T k o=>by rw[←hUl];exact ay _ _ _ _
 have lU:∀T:List Ob,(U++T).length=m+T.length:=fun T=>by rw[AP,hUl]
 have hbm:b<m:=by rw[hm];exact(AH.1 hb).1
 have la:=h2.la
 have lp:=h2.lb
 rw[←hU,←hm,←hB5,←hI] at hold
 have hput:=uM (σ:=U++[B5,I,N]) (id:=m+1) (b:=b) (xs:=xs) (x:=x) (by rw[lU];simp) (by omega) (by rw[hU];exact bO hba hbp hb w _) (by omega) (by omega)
 rw[oY (by rw[so1,hI];rfl),←hpl,←hX,show s1 (U++[B5,I,N]) (m+1) (.arr 27 2 (pl.map eT))++[X]=U++[B5,I',N,X] by rw[s1,ss1,hI'];simp] at hput
 obtain⟨V,hV⟩:∃V,V=U++[B5,I',N,X]:=⟨_,rfl⟩
 have hVl:V.length=m+4:=by rw[hV,lU];rfl
 have hVw:V=wS2 V a p w:=by rw[hV,hU,aT h2]
 have hV2:Two V a p:=by rw[hV,hU];exact ca h2 w _
 have hflat:=pu hV2 hw (id:=m+1) (N:=pl.length) (XX:=pl.map eT) (by rw[hV,so1,hI'];rfl) (by omega) (by omega) (by simp) pl (by omega) (AV (by simp)) (AU _)
 rw[←hVw,hVl] at hflat
 have hVw':∀w',wS2 V a p w'=wS2 σ a p w'++[B5,I',N,X]:=fun w'=>by rw[hV,hU,aT h2]
 obtain⟨pt1,pt2⟩:=pt
 simp only at hold
 have hB5':B5=.arr 91 2 [.agg [.int .i64 pt1,.int .u64 pt2]]:=hB5
 refine⟨fun l w' hf=>?_,fun hf=>?_⟩
 ·have hcall:=hflat.1 l w' hf
  have hl1:1≤l.length∧l.length≤2:=by
   have:=eW _ _ _ _ _ hf
   have hg:=mW pl
   simp only[AN,Bj] at this
   have:(dO pl).length≠0:=by
    unfold dO
    rw[if_neg (by omega)]
    split<;>simp
   omega
  rw[fM (by omega),fL (by omega),hVw',hV] at hcall
  match l,hl1 with
  |(q,low0)::rl,hl1=>
   obtain⟨rr,hrr⟩:∃rr,rr=rl.map ePt:=⟨_,rfl⟩
   have hpr:prG ((q,low0)::rl) 0=.arr 91 2 (.agg [.int .i64 q,.int .u64 low0]::rr):=by rw[hrr];simp[prG,ePt]
   have hpr':prG (fg ((q,low0)::rl) pt2) 0=.arr 91 2 (.agg [.int .i64 q,.int .u64 pt2]::rr):=by rw[hrr];simp[prG,fg,ePt]
   have hrl:rr.length=rl.length:=by rw[hrr,AN]
   rw[hpr] at hcall
   obtain⟨W,hW⟩:∃W,W=wS2 σ a p w'++[B5,I',N,X,.arr 91 2 (.agg [.int .i64 q,.int .u64 low0]::rr)]:=⟨_,rfl⟩
   have hW0:∀k,W[m+k]?=[B5,I',N,X,Ob.arr 91 2 (.agg [.int .i64 q,.int .u64 low0]::rr)][k]?:=fun k=>by rw[hW,hm,←am (σ:=σ) (a:=a) (p:=p) w',ak]
   have hWs:W.set (m+4) (.arr 91 2 (.agg [.int .i64 q,.int .u64 pt2]::rr))=wS2 σ a p w'++[B5,I',N,X,prG (fg ((q,low0)::rl) pt2) 0]:=by
    rw[hW,hm,←am (σ:=σ) (a:=a) (p:=p) w',ay,hpr'];rfl
   rw[AR,show [B5,I',N,X]++[Ob.arr 91 2 (.agg [.int .i64 q,.int .u64 low0]::rr)]=[B5,I',N,X,.arr 91 2 (.agg [.int .i64 q,.int .u64 low0]::rr)] from rfl,←hW] at hcall
   have hfull:Ok Try.prog 39 [.ptr a 1 0 0,ePt (pt1,pt2),.int .u64 key,.fn 24 [.ptr b 1 0 0]] U (.ret (.tup [.sl (m+4) (rl.length+1) 0 (rl.length+1),.bool false])) (wS2 σ a p w'++[B5,I',N,X,prG (fg ((q,low0)::rl) pt2) 0]):=by
    rw[←hWs]
    unfold ePt
    rw[hB5'] at hold
    rw[hB5',hN] at hput
    rw[hB5',hN] at hcall
    refine Ok.of_body ae Try.func39 rfl (by decide) (by simp[Try.ntmps39]) fun C hP hn hσ hfix hdd=>?_
    rw[show Try.f39.ntmps=80 from rfl] at hn
    have hL:af C.P L:=hP▸ae
    have hm:C.P.follows .mixedOrders=true:=hP▸ao
    repeat(first|(refine sB hL hn rfl ?_;simp only[go_sem,seval,hUl,so0])|refine sN rfl ?_|refine sC ?_)
    refine sK hP hL hn rfl rfl (hold) rfl rfl rfl rfl ?_;simp (maxSteps:=2000000) only[go_sem,seval,hUl,so1,ss1]
    repeat(first|(refine sB hL hn rfl ?_;simp only[go_sem,seval,so1])|refine sN rfl ?_|refine sC ?_)
    refine sK hP hL hn rfl rfl (hput) rfl rfl rfl rfl ?_;simp (maxSteps:=2000000) only[go_sem,seval]
    refine sK hP hL hn rfl rfl (hcall) rfl rfl rfl rfl ?_;simp (maxSteps:=2000000) only[go_sem,seval]
    refine aa.nil ?_
    simp only[ap]
    refine SW.keep [(0,.ptr a 1 0 0),(5,.ptr m 1 0 0),(8,.sl (m+4) (rl.length+1) 0 (rl.length+1)),(10,.ptr (m+2) 1 0 0)] (by exact⟨rfl,rfl,rfl,rfl,trivial⟩) ?_
    exact xH (a:=a) (m5:=m) (m10:=m+2) (J:=m+4) (g:=rl.length+1) (len:=rl.length+1) (pt:=(pt1,pt2)) (c:=0) (q:=q) (low0:=low0) (R:=rr) C hP hn (by have:=hW0 0;rw[Bt] at this;rw[this,hB5];rfl) (by rw[hW0,hN];rfl) (by rw[hW0];rfl) (by rw[hrl]) (by omega) (by omega) (by omega) (AU _) rfl
   have hJ:(wS2 σ a p w'++[B5,I',N,X,prG (fg ((q,low0)::rl) pt2) 0])[m+4]?=some (prG (fg ((q,low0)::rl) pt2) 0):=by
    rw[hm,←am (σ:=σ) (a:=a) (p:=p) w',ak];rfl
   have hlen:(wS2 σ a p w).length=σ.length:=am w
   rw[hU] at hfull
   have:=Ok.tidy (c:=0) (D:=.tup [.sl σ.length (rl.length+1) 0 (rl.length+1),.bool false]) (some (m+4)) hfull (cO h2 _ _) (by
    rw[hlen]
    exact .tup2 (.own rfl) (.low ((j8 _).2 trivial))) (fun i hi=>by
    cases hi
    exact⟨by rw[hlen];omega,_,_,_,hJ,j6 _ _ _⟩)
   simp only[df,AZ,hJ] at this
   exact this
 ·obtain⟨w',hcall⟩:=hflat.2 hf
  refine⟨w',?_⟩
  rw[hVw',hV] at hcall
  have hfull:Ok Try.prog 39 [.ptr a 1 0 0,ePt (pt1,pt2),.int .u64 key,.fn 24 [.ptr b 1 0 0]] U (.pan (be 51)) (wS2 σ a p w'++[B5,I',N,X]):=by
   unfold ePt
   rw[hB5'] at hold
   rw[hB5',hN] at hput
   rw[hB5',hN] at hcall
   rw[hB5',hN]
   refine Ok.of_body ae Try.func39 rfl (by decide) (by simp[Try.ntmps39]) fun C hP hn hσ hfix hdd=>?_
   rw[show Try.f39.ntmps=80 from rfl] at hn
   have hL:af C.P L:=hP▸ae
   have hm:C.P.follows .mixedOrders=true:=hP▸ao
   repeat(first|(refine sB hL hn rfl ?_;simp only[go_sem,seval,hUl,so0])|refine sN rfl ?_|refine sC ?_)
   refine sK hP hL hn rfl rfl (hold) rfl rfl rfl rfl ?_;simp (maxSteps:=2000000) only[go_sem,seval,hUl,so1,ss1]
   repeat(first|(refine sB hL hn rfl ?_;simp only[go_sem,seval,so1])|refine sN rfl ?_|refine sC ?_)
   refine sK hP hL hn rfl rfl (hput) rfl rfl rfl rfl ?_;simp (maxSteps:=2000000) only[go_sem,seval]
   refine aa.callp hP (by rw[hn];rfl) (hcall) rfl rfl rfl rfl ?_;simp (maxSteps:=2000000) only[go_sem,seval]
   exact⟨_,ag.refl _ _ _,rfl⟩
  rw[hU] at hfull
  exact dJ h2 hfull
end
end
section
theorem uj (xs:List It) (ks:List Int) (key:Int) (hl:xs.length≤1048576) (σ:List Ob) (id t:Nat) (h:σ[id]?=some (.arr t 2 (xs.map eT))):Ok Try.prog 41 [.agg [.sl id xs.length 0 xs.length,.vec 0 1 (ks.map eI)],.int .u64 key] σ (.ret (.int .i64 (gG xs key))) σ:=by
 refine Ok.lendF (c:=1) (vL 1 0 xs ks key hl []) rfl (fun i x y hx hy=>?_) .int
 match i,hx,hy with
 |0,hx,hy=>
  cases hx;cases hy
  refine .agg rfl fun i x y hx hy=>?_
  match i,hx,hy with
  |0,hx,hy=>cases hx;cases hy;exact Fz.list eT (cD 0) h
  |1,hx,hy=>cases hx;cases hy;exact .low (dL _ _ ks)
  |i+2,hx,_=>simp at hx
 |1,hx,hy=>cases hx;cases hy;exact .int
 |i+2,hx,_=>simp at hx
section
variable{σ:List Ob}{a p b:Nat}{w:Wr}{pt:aE}{x:It} (h2:Two σ a p) (hw:w.ok) (hb:σ[b]?=some (.arr 27 2 [eT x])) (hba:b≠a) (hbp:b≠p) (hpt:okAt w.ps pt.1) (key:Int) (hk:(bD w.ps pt.1).length=(bn w.ps pt.1).length+1)
def jn (m:Nat) (w:Wr) (pt:aE):List Ob:=[.arr 91 2 [ePt pt],.arr 27 2 ((bn w.ps pt.1).map eT),.arr 95 2 [.agg [.sl (m+1) (bn w.ps pt.1).length 0 (bn w.ps pt.1).length,.vec 0 1 ((bD w.ps pt.1).map eI)]],prG (eS (bn w.ps pt.1) (bD w.ps pt.1) pt.2) 0]
include h2 hw hb hba hbp hpt hk
theorem iG{i n:Nat} (hi:i=gG (bn w.ps pt.1) key) (hn4:n=(bD w.ps pt.1).length){q:aE} (hq:(eS (bn w.ps pt.1) (bD w.ps pt.1) pt.2)[i]?=some q){out:Out}{ob':List Ob}
  (hR:(∃d,out=.pan d∧Ok Try.prog 39 [.ptr a 1 0 0,ePt q,.int .u64 key,.fn 24 [.ptr b 1 0 0]] (wS2 σ a p w++jn σ.length w pt) (.pan d) ob')∨
   ∃(J g1 l1:Nat) (th:Bool) (M3:List Ob),Ok Try.prog 39 [.ptr a 1 0 0,ePt q,.int .u64 key,.fn 24 [.ptr b 1 0 0]] (wS2 σ a p w++jn σ.length w pt) (.ret (.tup [.sl J g1 0 l1,.bool th])) M3∧
    ((th=false∧∃(g3 l3:Nat) (M4:List Ob),Ok Try.prog 57 [.sl (σ.length+3) n 0 n,.int .i64 (i:Int),.int .i64 ((i+1:Nat):Int),.sl J g1 0 l1] M3 (.ret (.sl (σ.length+3) g3 0 l3)) M4∧
      ∀C:Ctx,C.P=Try.prog→C.n=80→SW C iY ⟨[(0,.ptr a 1 0 0),(5,.ptr σ.length 1 0 0),(8,.sl (σ.length+3) g3 0 l3),(10,.ptr (σ.length+2) 1 0 0)],M4⟩ (lE C L Try.f39.results.toList out ob'))∨
     (th=true∧((∃(g3 l3:Nat) (M4:List Ob),Ok Try.prog 56 [.ptr a 1 0 0,.sl (σ.length+3) n 0 n,.int .i64 (i:Int),.sl J g1 0 l1] M3 (.ret (.sl (σ.length+3) g3 0 l3)) M4∧
      ∀C:Ctx,C.P=Try.prog→C.n=80→SW C iY ⟨[(0,.ptr a 1 0 0),(5,.ptr σ.length 1 0 0),(8,.sl (σ.length+3) g3 0 l3),(10,.ptr (σ.length+2) 1 0 0)],M4⟩ (lE C L Try.f39.results.toList out ob'))∨
      (∃d,out=.pan d∧Ok Try.prog 56 [.ptr a 1 0 0,.sl (σ.length+3) n 0 n,.int .i64 (i:Int),.sl J g1 0 l1] M3 (.pan d) ob'))))):
  Ok Try.prog 39 [.ptr a 1 0 0,ePt pt,.int .u64 key,.fn 24 [.ptr b 1 0 0]] (wS2 σ a p w) out ob':=by
 have hold:=ua h2 hw hb hba hbp hpt
 obtain⟨f1,f2,_⟩:=hpt.facts
 have hwl:=jK (bn w.ps pt.1) key
 unfold jn at hR
 obtain⟨xs,hxs⟩:∃xs,xs=bn w.ps pt.1:=⟨_,rfl⟩
 obtain⟨ks,hks⟩:∃ks,ks=bD w.ps pt.1:=⟨_,rfl⟩
 rw[←hxs,←hks] at hold hk hR hq
 rw[←hxs] at f1 f2 hwl hi
 rw[←hks] at hn4
 obtain⟨m,hm⟩:∃m,m=σ.length:=⟨_,rfl⟩
 obtain⟨U,hU⟩:∃U,U=wS2 σ a p w:=⟨_,rfl⟩
 have hUl:U.length=m:=by rw[hU,am,hm]
 obtain⟨I,hI⟩:∃I,I=Ob.arr 27 2 (xs.map eT):=⟨_,rfl⟩
 obtain⟨K,hK⟩:∃K,K=ks.map eI:=⟨_,rfl⟩
 obtain⟨PX,hPX⟩:∃PX,PX=(eS xs ks pt.2).map ePt:=⟨_,rfl⟩
 have hPG:prG (eS xs ks pt.2) 0=.arr 91 2 PX:=by rw[hPX];simp[prG]
 have hKl:K.length=n:=by rw[hK,AN,hn4]
 have hPl:PX.length=n:=by rw[hPX,AN,eR,hn4]
 rw[←hm,←hU,hPG,←hI,←hK] at hR
 rw[←hm,←hU,←hI,←hK] at hold
 rw[←hU]
 have so1:∀(T:List Ob) (k:Nat),(U++T)[m+k]?=T[k]?:=fun T k=>by rw[←hUl];exact ak _ _ _
 have so0:∀(T:List Ob),(U++T)[m]?=T[0]?:=fun T=>by rw[←hUl];exact aL _ _
 have ss1:∀(T:List Ob) (k:Nat) (o:Ob),(U++T).set (m+k) o=U++T.set k o:=fun T k o=>by rw[←hUl];exact ay _ _ _ _
 have lU:∀T:List Ob,(U++T).length=m+T.length:=fun T=>by rw[AP,hUl]
 obtain⟨pt1,pt2⟩:=pt
 obtain⟨q1,q2⟩:=q
 simp only at hold hPX
 simp only[ePt] at hold hR⊢
 obtain⟨N,hN⟩:∃N,N=Ob.arr 95 2 [.agg [.sl (m+1) xs.length 0 xs.length,.vec 0 1 K]]:=⟨_,rfl⟩
 have hpar:=mE (σ:=U++[.arr 91 2 [.agg [.int .i64 pt1,.int .u64 pt2]],I,N]) (id:=m+1) (c:=0) (xs:=xs) (ks:=ks) pt2 (by rw[so1,hI];rfl) hk f2
 rw[lU,AR,←hPX,←hK,←hn4] at hpar
 have hway:=uj xs ks key (by omega) (U++[.arr 91 2 [.agg [.int .i64 pt1,.int .u64 pt2]],I,N,.arr 91 2 PX]) (m+1) 27 (by rw[so1,hI];rfl)
 rw[←hK,←hi] at hway
 rw[hN] at hpar hway
 simp only[Bq,Be,A5,Bj,Bc,Dg] at hpar
 have hin:i<n:=by omega
 have e0:(0≤(i:Int))=True:=eq_true (by omega)
 have e2:((i:Int)<(n:Int))=True:=eq_true (by omega)
 have e3:PX[i]?=some (.agg [.int .i64 q1,.int .u64 q2]):=by rw[hPX,AQ,hq];rfl
 have d1:((n:Int)==0)=false:=beq_eq_false_iff_ne.2 (by omega)
 have w1:IntKind.i64.wrap ((i:Int)+1)=((i+1:Nat):Int):=wi (by omega) (by omega)
 have hm':=hm
 rcases hR with⟨d,rfl,hrec⟩|⟨J,g1,l1,th,M3,hrec,⟨rfl,g3,l3,M4,hrep,htl⟩|⟨rfl,⟨g3,l3,M4,hrep,htl⟩|⟨d,rfl,hrep⟩⟩⟩
 ·skip
  refine Ok.of_body ae Try.func39 rfl (by decide) (by simp[Try.ntmps39]) fun C hP hn hσ hfix hdd=>?_
  rw[show Try.f39.ntmps=80 from rfl] at hn
  have hL:af C.P L:=hP▸ae
  have hm:C.P.follows .mixedOrders=true:=hP▸ao
  repeat(first|(refine sB hL hn rfl ?_;simp only[go_sem,seval,hUl,so0])|refine sN rfl ?_|refine sC ?_)
  refine sK hP hL hn rfl rfl (hold) rfl rfl rfl rfl ?_;simp (maxSteps:=2000000) only[go_sem,seval,hUl,so1,ss1]
  repeat(first|(refine sB hL hn rfl ?_;simp only[go_sem,seval,so0,so1,hKl,d1])|refine sN rfl ?_|refine sC ?_)
  refine sK hP hL hn rfl rfl (hpar) rfl rfl rfl rfl ?_;simp (maxSteps:=2000000) only[go_sem,seval]
  repeat(first|(refine sB hL hn rfl ?_;simp only[go_sem,seval,so1])|refine sN rfl ?_|refine sC ?_)
  refine sK hP hL hn rfl rfl (hway) rfl rfl rfl rfl ?_;simp (maxSteps:=2000000) only[go_sem,seval]
  repeat(first|(refine sB hL hn rfl ?_;simp only[go_sem,seval,so1,e0,e2,e3,hPl])|refine sN rfl ?_|refine sC ?_)
  refine aa.callp hP (by rw[hn];rfl) (hrec) rfl rfl rfl rfl ?_;simp (maxSteps:=2000000) only[go_sem,seval]
  exact⟨_,ag.refl _ _ _,rfl⟩
 ·skip
  refine Ok.of_body ae Try.func39 rfl (by decide) (by simp[Try.ntmps39]) fun C hP hn hσ hfix hdd=>?_
  rw[show Try.f39.ntmps=80 from rfl] at hn
  have hL:af C.P L:=hP▸ae
  have hm:C.P.follows .mixedOrders=true:=hP▸ao
  repeat(first|(refine sB hL hn rfl ?_;simp only[go_sem,seval,hUl,so0])|refine sN rfl ?_|refine sC ?_)
  refine sK hP hL hn rfl rfl (hold) rfl rfl rfl rfl ?_;simp (maxSteps:=2000000) only[go_sem,seval,hUl,so1,ss1]
  repeat(first|(refine sB hL hn rfl ?_;simp only[go_sem,seval,so0,so1,hKl,d1])|refine sN rfl ?_|refine sC ?_)
  refine sK hP hL hn rfl rfl (hpar) rfl rfl rfl rfl ?_;simp (maxSteps:=2000000) only[go_sem,seval]
  repeat(first|(refine sB hL hn rfl ?_;simp only[go_sem,seval,so1])|refine sN rfl ?_|refine sC ?_)
  refine sK hP hL hn rfl rfl (hway) rfl rfl rfl rfl ?_;simp (maxSteps:=2000000) only[go_sem,seval]
  repeat(first|(refine sB hL hn rfl ?_;simp only[go_sem,seval,so1,e0,e2,e3,hPl])|refine sN rfl ?_|refine sC ?_)
  refine sK hP hL hn rfl rfl (hrec) rfl rfl rfl rfl ?_;simp (maxSteps:=2000000) only[go_sem,seval]
  repeat(first|(refine sB hL hn rfl ?_;simp only[go_sem,seval,w1])|refine sN rfl ?_|refine sC ?_)
  refine sK hP hL hn rfl rfl (hrep) rfl rfl rfl rfl ?_;simp (maxSteps:=2000000) only[go_sem,seval]
  refine aa.nil ?_
  simp only[ap]
  refine SW.keep [(0,.ptr a 1 0 0),(5,.ptr m 1 0 0),(8,.sl (m+3) g3 0 l3),(10,.ptr (m+2) 1 0 0)] (by exact⟨rfl,rfl,rfl,rfl,trivial⟩) ?_
  exact htl C hP hn
 ·skip
  refine Ok.of_body ae Try.func39 rfl (by decide) (by simp[Try.ntmps39]) fun C hP hn hσ hfix hdd=>?_
  rw[show Try.f39.ntmps=80 from rfl] at hn
  have hL:af C.P L:=hP▸ae
  have hm:C.P.follows .mixedOrders=true:=hP▸ao
  repeat(first|(refine sB hL hn rfl ?_;simp only[go_sem,seval,hUl,so0])|refine sN rfl ?_|refine sC ?_)
  refine sK hP hL hn rfl rfl (hold) rfl rfl rfl rfl ?_;simp (maxSteps:=2000000) only[go_sem,seval,hUl,so1,ss1]
  repeat(first|(refine sB hL hn rfl ?_;simp only[go_sem,seval,so0,so1,hKl,d1])|refine sN rfl ?_|refine sC ?_)
  refine sK hP hL hn rfl rfl (hpar) rfl rfl rfl rfl ?_;simp (maxSteps:=2000000) only[go_sem,seval]
  repeat(first|(refine sB hL hn rfl ?_;simp only[go_sem,seval,so1])|refine sN rfl ?_|refine sC ?_)
  refine sK hP hL hn rfl rfl (hway) rfl rfl rfl rfl ?_;simp (maxSteps:=2000000) only[go_sem,seval]
  repeat(first|(refine sB hL hn rfl ?_;simp only[go_sem,seval,so1,e0,e2,e3,hPl])|refine sN rfl ?_|refine sC ?_)
  refine sK hP hL hn rfl rfl (hrec) rfl rfl rfl rfl ?_;simp (maxSteps:=2000000) only[go_sem,seval]
  repeat(first|(refine sB hL hn rfl ?_;simp only[go_sem,seval])|refine sN rfl ?_|refine sC ?_)
  refine sK hP hL hn rfl rfl (hrep) rfl rfl rfl rfl ?_;simp (maxSteps:=2000000) only[go_sem,seval]
  refine aa.nil ?_
  simp only[ap]
  refine SW.keep [(0,.ptr a 1 0 0),(5,.ptr m 1 0 0),(8,.sl (m+3) g3 0 l3),(10,.ptr (m+2) 1 0 0)] (by exact⟨rfl,rfl,rfl,rfl,trivial⟩) ?_
  exact htl C hP hn
 ·skip
  refine Ok.of_body ae Try.func39 rfl (by decide) (by simp[Try.ntmps39]) fun C hP hn hσ hfix hdd=>?_
  rw[show Try.f39.ntmps=80 from rfl] at hn
  have hL:af C.P L:=hP▸ae
  have hm:C.P.follows .mixedOrders=true:=hP▸ao
  repeat(first|(refine sB hL hn rfl ?_;simp only[go_sem,seval,hUl,so0])|refine sN rfl ?_|refine sC ?_)
  refine sK hP hL hn rfl rfl (hold) rfl rfl rfl rfl ?_;simp (maxSteps:=2000000) only[go_sem,seval,hUl,so1,ss1]
  repeat(first|(refine sB hL hn rfl ?_;simp only[go_sem,seval,so0,so1,hKl,d1])|refine sN rfl ?_|refine sC ?_)
  refine sK hP hL hn rfl rfl (hpar) rfl rfl rfl rfl ?_;simp (maxSteps:=2000000) only[go_sem,seval]
  repeat(first|(refine sB hL hn rfl ?_;simp only[go_sem,seval,so1])|refine sN rfl ?_|refine sC ?_)
  refine sK hP hL hn rfl rfl (hway) rfl rfl rfl rfl ?_;simp (maxSteps:=2000000) only[go_sem,seval]
  repeat(first|(refine sB hL hn rfl ?_;simp only[go_sem,seval,so1,e0,e2,e3,hPl])|refine sN rfl ?_|refine sC ?_)
  refine sK hP hL hn rfl rfl (hrec) rfl rfl rfl rfl ?_;simp (maxSteps:=2000000) only[go_sem,seval]
  repeat(first|(refine sB hL hn rfl ?_;simp only[go_sem,seval])|refine sN rfl ?_|refine sC ?_)
  refine aa.callp hP (by rw[hn];rfl) (hrep) rfl rfl rfl rfl ?_;simp (maxSteps:=2000000) only[go_sem,seval]
  exact⟨_,ag.refl _ _ _,rfl⟩
end
end
section
def fU (m:Nat) (w:Wr) (pt:aE) (l:List aE) (r:Nat) (Z:Ob):List Ob:=[.arr 91 2 [ePt pt],.arr 27 2 ((bn w.ps pt.1).map eT),.arr 95 2 [.agg [.sl (m+1) (bn w.ps pt.1).length 0 (bn w.ps pt.1).length,.vec 0 1 ((bD w.ps pt.1).map eI)]],prG l r,Z]
def zb (a m g len:Nat):List (Nat×DV):=[(0,.ptr a 1 0 0),(5,.ptr m 1 0 0),(8,.sl (m+3) g 0 len),(10,.ptr (m+2) 1 0 0)]
section
variable{σ:List Ob}{a p:Nat}{w w2:Wr}{pt:aE}{l:List aE}{r:Nat}{Z:Ob} (h2:Two σ a p) (hw2:w2.ok) (hk:0<(bD w.ps pt.1).length) (hl:0<l.length)
include h2 hw2 hk hl
theorem jC (j:Nat) (T:List Ob):(wS2 σ a p w2++T)[σ.length+j]?=T[j]?:=by have _:=h2;have _:=hw2;have _:=hk;have _:=hl;rw[←am (σ:=σ) (a:=a) (p:=p) w2,ak]
theorem ue (o:Ob) (w1:Wr):(wS2 σ a p w2++fU σ.length w pt l r Z).set (σ.length+3) o=wS2 σ a p w2++[.arr 91 2 [ePt pt],.arr 27 2 ((bn w.ps pt.1).map eT),.arr 95 2 [.agg [.sl (σ.length+1) (bn w.ps pt.1).length 0 (bn w.ps pt.1).length,.vec 0 1 ((bD w.ps pt.1).map eI)]],o,Z]:=by
 have _:=h2;have _:=hw2;have _:=hk;have _:=hl
 rw[←am (σ:=σ) (a:=a) (p:=p) w2,ay];rfl
theorem tc (h1:l.length=1):∀C:Ctx,C.P=Try.prog→C.n=80→SW C iY ⟨zb a σ.length (l.length+r) l.length,wS2 σ a p w2++fU σ.length w pt l r Z⟩ (lE C L Try.f39.results.toList (.ret (.tup [.sl (σ.length+3) (l.length+r) 0 l.length,.bool true])) (wS2 σ a p w2++fU σ.length w pt (fg l pt.2) r Z)):=by
 intro C hP hn
 match l,h1 with
 | [(q,low0)],_=>
  have:=xF (a:=a) (m5:=σ.length) (m10:=σ.length+2) (J:=σ.length+3) (g:=[(q,low0)].length+r) (len:=[(q,low0)].length) (pt:=pt) (c:=0) (q:=q) (low0:=low0) (R:=AO r zP) (ob:=wS2 σ a p w2++fU σ.length w pt [(q,low0)] r Z) C hP hn (by have:=jC h2 hw2 hk hl 0 (fU σ.length w pt [(q,low0)] r Z);rw[Bt] at this;rw[this];rfl) (by rw[jC h2 hw2 hk hl];rfl) (by rw[jC h2 hw2 hk hl];rfl) (by simp;omega) (by omega) (by omega) (by simp) (by simp) (by simpa using hk) rfl
  rw[ue h2 hw2 hk hl _ w] at this
  exact this
theorem nm (h1:2≤l.length) (h5:l.length≤5):
  (∀l' w3,cZ w2 (fg l pt.2)=some (l',w3)→∀C:Ctx,C.P=Try.prog→C.n=80→SW C iY ⟨zb a σ.length (l.length+r) l.length,wS2 σ a p w2++fU σ.length w pt l r Z⟩ (lE C L Try.f39.results.toList (.ret (.tup [.sl (σ.length+5) l'.length 0 l'.length,.bool false])) (wS2 σ a p w3++(fU σ.length w pt (fg l pt.2) r Z++[prG l' 0]))))∧
  (cZ w2 (fg l pt.2)=none→∃w3,∀C:Ctx,C.P=Try.prog→C.n=80→SW C iY ⟨zb a σ.length (l.length+r) l.length,wS2 σ a p w2++fU σ.length w pt l r Z⟩ (lE C L Try.f39.results.toList (.pan (be 51)) (wS2 σ a p w3++fU σ.length w pt (fg l pt.2) r Z))):=by
 obtain⟨V,hV⟩:∃V,V=wS2 σ a p w2++fU σ.length w pt (fg l pt.2) r Z:=⟨_,rfl⟩
 have hVl:V.length=σ.length+5:=by rw[hV,AP,am];rfl
 have hVw:V=wS2 V a p w2:=by rw[hV,aT h2]
 have hV2:Two V a p:=by rw[hV];exact ca h2 w2 _
 have hVw':∀w',wS2 V a p w'=wS2 σ a p w'++fU σ.length w pt (fg l pt.2) r Z:=fun w'=>by rw[hV,aT h2]
 have la:=h2.la
 have lp:=h2.lb
 have hll:=g8 l pt.2
 have htall:=lG hV2 hw2 (id:=σ.length+3) (N:=l.length+r) (XX:=(fg l pt.2).map ePt++AO r zP) (by rw[hV,jC h2 hw2 hk hl];rfl) (by omega) (by omega) (by simp[hll]) (fg l pt.2) (by omega) (by rw[BL (by simp),AV (by simp)]) (by omega)
 rw[←hVw,hVl,hll] at htall
 match l,hl with
 |(q,low0)::rl,_=>
  have hset:=ue (r:=r) (Z:=Z) (w:=w) (pt:=pt) (l:=(q,low0)::rl) h2 hw2 hk (by simp) (.arr 91 2 (.agg [.int .i64 q,.int .u64 pt.2]::(rl.map ePt++AO r zP))) w
  have hE:wS2 σ a p w2++[.arr 91 2 [ePt pt],.arr 27 2 ((bn w.ps pt.1).map eT),.arr 95 2 [.agg [.sl (σ.length+1) (bn w.ps pt.1).length 0 (bn w.ps pt.1).length,.vec 0 1 ((bD w.ps pt.1).map eI)]],.arr 91 2 (.agg [.int .i64 q,.int .u64 pt.2]::(rl.map ePt++AO r zP)),Z]=V:=by rw[hV];rfl
  rw[hE] at hset
  have a0:(wS2 σ a p w2++fU σ.length w pt ((q,low0)::rl) r Z)[σ.length]?=some (.arr 91 2 [ePt pt]):=by
   have:=jC h2 hw2 hk hl 0 (fU σ.length w pt ((q,low0)::rl) r Z)
   rw[Bt] at this;rw[this];rfl
  have a2:(wS2 σ a p w2++fU σ.length w pt ((q,low0)::rl) r Z)[σ.length+2]?=some (.arr 95 2 [.agg [.sl (σ.length+1) (bn w.ps pt.1).length 0 (bn w.ps pt.1).length,.vec 0 1 ((bD w.ps pt.1).map eI)]]):=by rw[jC h2 hw2 hk hl];rfl
  have a3:(wS2 σ a p w2++fU σ.length w pt ((q,low0)::rl) r Z)[σ.length+3]?=some (.arr 91 2 (.agg [.int .i64 q,.int .u64 low0]::(rl.map ePt++AO r zP))):=by rw[jC h2 hw2 hk hl];rfl
  have hg:((q,low0)::rl).length+r=(rl.map ePt++AO r zP).length+1:=by simp;omega
  refine⟨fun l' w3 ht C hP hn=>?_,fun ht=>?_⟩
  ·have htl:=dn (by omega:2≤(fg ((q,low0)::rl) pt.2).length∧(fg ((q,low0)::rl) pt.2).length≤5) ht
   have hcall:=htall.1 l' w3 ht
   rw[fM (by omega),fL (by omega),hVw',AR,←hset] at hcall
   exact xG (a:=a) (m5:=σ.length) (m10:=σ.length+2) (J:=σ.length+3) (len:=((q,low0)::rl).length) (pt:=pt) (c:=0) C hP hn a0 a2 a3 hg (by omega) (by omega) (by simp) (by omega) (by simpa using hk) h1 hcall
  ·obtain⟨w3,hcall⟩:=htall.2 ht
   refine⟨w3,fun C hP hn=>?_⟩
   rw[hVw',←hset] at hcall
   exact zq (a:=a) (m5:=σ.length) (m10:=σ.length+2) (J:=σ.length+3) (len:=((q,low0)::rl).length) (pt:=pt) (c:=0) C hP hn a0 a2 a3 hg (by omega) (by omega) (by simp) (by omega) (by simpa using hk) h1 hcall
end
theorem rz{args:List DV}{σ:List Ob}{a p:Nat} (h2:Two σ a p){w w':Wr}{l:List aE}{r j:Nat}{th:Bool}{G:List Ob} (hG:G[j]?=some (prG l r)) (h:Ok Try.prog 39 args (wS2 σ a p w) (.ret (.tup [.sl (σ.length+j) (l.length+r) 0 l.length,.bool th])) (wS2 σ a p w'++G)):
  Ok Try.prog 39 args (wS2 σ a p w) (.ret (.tup [.sl σ.length (l.length+r) 0 l.length,.bool th])) (wS2 σ a p w'++[prG l r]):=by
 have hJ:(wS2 σ a p w'++G)[σ.length+j]?=some (prG l r):=by rw[←am (σ:=σ) (a:=a) (p:=p) w',ak];exact hG
 have hlen:(wS2 σ a p w).length=σ.length:=am w
 have:=Ok.tidy (c:=0) (D:=.tup [.sl σ.length (l.length+r) 0 l.length,.bool th]) (some (σ.length+j)) h (cO h2 _ _) (by
  rw[hlen]
  exact .tup2 (.own rfl) (.low ((j8 _).2 trivial))) (fun i hi=>by
  cases hi
  exact⟨by rw[hlen];omega,_,_,_,hJ,j6 _ _ _⟩)
 simp only[df,AZ,hJ] at this
 exact this
end
def iL (ps:List Pg):Nat→Int→Prop
 |0,_=>False
 |1,at_=>okAt ps at_∧bD ps at_=[]
 |h+2,at_=>okAt ps at_∧bD ps at_≠ []∧∀k∈bD ps at_,iL ps (h+1) k
theorem tU{rec:Int→Option Int→Option Int→WS→WS×Bool}{xs:List It}{lo hi:Option Int}{Pr:Int→Int→Prop} (hrec:∀k a b w,(rec k a b w).2=true→0<(rec k a b w).1.leaf∧(w.leaf=0∨w.leaf=(rec k a b w).1.leaf)∧Pr (rec k a b w).1.leaf k):∀(ks:List Int) (i:Nat) (w:WS),(d8 rec xs lo hi ks i w).2=true→
  (w.leaf=0∨w.leaf=(d8 rec xs lo hi ks i w).1.leaf)∧(ks≠ []→0<(d8 rec xs lo hi ks i w).1.leaf)∧∀k∈ks,Pr (d8 rec xs lo hi ks i w).1.leaf k
 | [],_,_,_=>⟨.inr rfl,fun h=>absurd rfl h,fun k hk=>by cases hk⟩
 |k0::r,i,w,h=>by
  obtain⟨q,hq⟩:∃q,q=rec k0 (if 0<i then(xs[i-1]?).map (·.1) else lo) (if i<xs.length then(xs[i]?).map (·.1) else hi) w:=⟨_,rfl⟩
  have e:d8 rec xs lo hi (k0::r) i w=if q.2=true then d8 rec xs lo hi r (i+1) q.1 else(q.1,false):=by rw[hq];rfl
  rw[e] at h⊢
  by_cases h2:q.2=true
  ·rw[if_pos h2] at h⊢
   rw[hq] at h2
   obtain⟨a1,a2,a3⟩:=hrec _ _ _ _ h2
   rw[←hq] at a1 a2 a3
   obtain⟨b1,b2,b3⟩:=tU hrec r (i+1) q.1 h
   have hqe:q.1.leaf=(d8 rec xs lo hi r (i+1) q.1).1.leaf:=by
    rcases b1 with b1|b1
    ·omega
    ·exact b1
   refine⟨a2.imp id fun a2=>a2.trans hqe,fun _=>by omega,fun k hk=>?_⟩
   rcases Bh.1 hk with rfl|hk
   ·rw[←hqe];exact a3
   ·exact b3 k hk
  ·rw[if_neg h2] at h;cases h
theorem tL (ps:List Pg):∀(n:Nat) (at_ level:Int) (lo hi:Option Int) (w:WS),0<level→(bX ps n at_ level lo hi w).2=true→
  0<(bX ps n at_ level lo hi w).1.leaf∧(w.leaf=0∨w.leaf=(bX ps n at_ level lo hi w).1.leaf)∧∃d:Nat,(bX ps n at_ level lo hi w).1.leaf=level+d∧iL ps (d+1) at_
 |0,_,_,_,_,_,_,h=>by cases h
 |n+1,at_,level,lo,hi,w,hl,h=>by
  simp only[bX] at h⊢
  split at h
  rotate_left
  ·cases h
  rename_i hg
  rw[if_pos hg]
  split at h
  ·cases h
  rename_i hd
  rw[if_neg hd]
  split at h
  ·cases h
  rename_i hb
  rw[if_neg hb]
  have hok:okAt ps at_:=⟨hg.2.1,hg.2.2.1,Classical.not_not.1 hd⟩
  split at h
  ·rename_i h0
   rw[if_pos h0]
   split at h
   ·rename_i hlf
    rw[if_pos hlf]
    refine⟨hl,hlf,0,by simp,hok,?_⟩
    exact B1.1 h0
   ·cases h
  ·rename_i h0
   rw[if_neg h0]
   obtain⟨c1,c2,c3⟩:=tU (Pr:=fun lf k=>∃d:Nat,lf=level+1+d∧iL ps (d+1) k) (fun k a b w hk=>tL ps n k (level+1) a b w (by omega) hk) _ _ _ h
   have hne:bD ps at_≠ []:=fun e=>h0 (by show(bD ps at_).length=0;rw[e];rfl)
   have c2:=c2 hne
   refine⟨c2,c1,?_⟩
   obtain⟨k0,hk0⟩:=List.exists_mem_of_ne_nil _ hne
   obtain⟨d,e1,e2⟩:=c3 k0 hk0
   refine⟨d+1,by rw[e1];push_cast;omega,hok,hne,fun k hk=>?_⟩
   obtain⟨d',e3,e4⟩:=c3 k hk
   have:d'=d:=by omega
   subst this
   exact e4
theorem xE{ps:List Pg}{root:Int} (h:(bT ps root).2=0):ps.length≤2048∧(root=0∨∃d,iL ps d root):=by
 unfold bT at h
 split at h
 ·cases h
 rename_i hl
 refine⟨by omega,?_⟩
 split at h
 ·exact .inl (by assumption)
 split at h
 ·rename_i h1
  obtain⟨_,_,d,_,hv⟩:=tL ps 16 root 1 none none w0 (by decide) h1
  exact .inr ⟨_,hv⟩
 ·cases h
theorem cM.okAt{ps0 ps:List Pg} (h:cM ps0 ps){at_:Int} (k:okAt ps0 at_):okAt ps at_∧bn ps at_=bn ps0 at_∧bD ps at_=bD ps0 at_:=by
 obtain⟨e,hl⟩:=h.at k.1 k.2.1 k.2.2
 refine⟨⟨k.1,hl,by rw[e];exact k.2.2⟩,?_,?_⟩
 ·unfold bn;rw[e]
 ·unfold bD;rw[e]
theorem fh{ps0:List Pg}{w w':Wr}{l l':List aE} (hw:w.ok) (hk:cM ps0 w.ps) (h:cZ w l=some (l',w')):w'.ok∧cM ps0 w'.ps:=by
 obtain⟨a,b,_⟩:=eg _ _ _ _ _ hw hk h
 exact⟨a,b⟩
def ns (key:Int) (x:It) (pt:aE) (w:Wr) (σ:List Ob) (a p b:Nat) (out:Out) (ob:List Ob):Prop:=
 Ok Try.prog 39 [.ptr a 1 0 0,ePt pt,.int .u64 key,.fn 24 [.ptr b 1 0 0]] (wS2 σ a p w) out ob
structure Env4 (σ:List Ob) (a p b:Nat) (x:It):Prop where
 two:Two σ a p
 hb:σ[b]?=some (.arr 27 2 [eT x])
 ba:b≠a
 bp:b≠p
def xz (ps0:List Pg) (h:Nat) (key:Int) (x:It) (pt:aE) (w:Wr):Prop:=
 (∃(l:List aE) (th:Bool) (r:Nat) (w':Wr),1≤l.length∧l.length≤2∧(th=true→l.length=1∧r≤1∧2≤h)∧w'.ok∧cM ps0 w'.ps∧∀(σ:List Ob) (a p b:Nat),Env4 σ a p b x→ns key x pt w σ a p b (.ret (.tup [.sl σ.length (l.length+r) 0 l.length,.bool th])) (wS2 σ a p w'++[prG l r]))∨
 (∀(σ:List Ob) (a p b:Nat),Env4 σ a p b x→∃w',ns key x pt w σ a p b (.pan (be 51)) (wS2 σ a p w'))
theorem rC{ps0:List Pg}{key:Int}{x:It}{pt:aE}{w:Wr} (hv:iL ps0 1 pt.1) (hw:w.ok) (hkp:cM ps0 w.ps):xz ps0 1 key x pt w:=by
 obtain⟨hok,hk0⟩:=hv
 obtain⟨k1,k2,k3⟩:=hkp.okAt hok
 have hk:bD w.ps pt.1=[]:=by rw[k3];exact hk0
 cases hf:iV w (gk (bn w.ps pt.1) x) with
 |none=>
  refine .inr fun σ a p b e=>?_
  exact(tT e.two hw e.hb e.ba e.bp k1 key hk).2 hf
 |some q=>
  obtain⟨l,w'⟩:=q
  have hlen:=eW _ _ _ _ _ hf
  obtain⟨c1,c2,_⟩:=eg _ _ _ _ _ hw hkp hf
  have hg:=mW (gk (bn w.ps pt.1) x)
  have hg0:(dO (gk (bn w.ps pt.1) x)).length≠0:=by
   have:=qt (bn w.ps pt.1) x
   unfold dO
   rw[if_neg (by omega)]
   split<;>simp
  simp only[AN,Bj] at hlen
  refine .inl ⟨fg l pt.2,false,0,w',by rw[g8];omega,by rw[g8];omega,fun h=>(by cases h),c1,c2,fun σ a p b e=>?_⟩
  have:=(tT e.two hw e.hb e.ba e.bp k1 key hk).1 l w' hf
  unfold ns
  rw[g8]
  exact this
theorem Env4.app{σ:List Ob}{a p b:Nat}{x:It} (e:Env4 σ a p b x) (w:Wr) (T:List Ob):Env4 (wS2 σ a p w++T) a p b x:=
 ⟨ca e.two w T,bO e.ba e.bp e.hb w T,e.ba,e.bp⟩
theorem jv{ps0:List Pg}{h:Nat}{key:Int}{x:It}{pt:aE}{w w2:Wr}{LL:List aE}{r:Nat} (hw2:w2.ok) (hk2:cM ps0 w2.ps) (hk:0<(bD w.ps pt.1).length) (l1:1≤LL.length) (l5:LL.length≤5) (hr:LL.length=1→r≤1)
  (hf:∀(σ:List Ob) (a p b:Nat),Env4 σ a p b x→∃Z,∀out ob',(∀C:Ctx,C.P=Try.prog→C.n=80→SW C iY ⟨zb a σ.length (LL.length+r) LL.length,wS2 σ a p w2++fU σ.length w pt LL r Z⟩ (lE C L Try.f39.results.toList out ob'))→ns key x pt w σ a p b out ob'):xz ps0 (h+2) key x pt w:=by
 have hll:=g8 LL pt.2
 by_cases h1:LL.length=1
 ·refine .inl ⟨fg LL pt.2,true,r,w2,by omega,by omega,fun _=>⟨by omega,hr h1,by omega⟩,hw2,hk2,fun σ a p b e=>?_⟩
  obtain⟨Z,hZ⟩:=hf σ a p b e
  have:=hZ _ _ (tc e.two hw2 hk (by omega) h1)
  unfold ns at this⊢
  rw[←hll] at this
  exact rz (j:=3) e.two rfl this
 ·cases ht:cZ w2 (fg LL pt.2) with
  |none=>
   refine .inr fun σ a p b e=>?_
   obtain⟨Z,hZ⟩:=hf σ a p b e
   obtain⟨w3,h3⟩:=(nm (σ:=σ) (a:=a) (p:=p) (w:=w) (r:=r) (Z:=Z) e.two hw2 hk (by omega) (by omega) l5).2 ht
   have:=hZ _ _ h3
   unfold ns at this⊢
   exact⟨w3,dJ e.two this⟩
  |some q=>
   obtain⟨l',w3⟩:=q
   obtain⟨c1,c2⟩:=fh hw2 hk2 ht
   obtain⟨c3,c4⟩:=dn (by omega) ht
   refine .inl ⟨l',false,0,w3,c3,c4,fun h=>(by cases h),c1,c2,fun σ a p b e=>?_⟩
   obtain⟨Z,hZ⟩:=hf σ a p b e
   have:=hZ _ _ ((nm (σ:=σ) (a:=a) (p:=p) (w:=w) (r:=r) (Z:=Z) e.two hw2 hk (by omega) (by omega) l5).1 _ _ ht)
   unfold ns at this⊢
   exact rz (j:=5) (r:=0) e.two (by simp[fU]) this
theorem rD{ps0:List Pg}{h:Nat}{key:Int}{x:It}{pt:aE}{w:Wr} (hv:iL ps0 (h+2) pt.1) (hw:w.ok) (hkp:cM ps0 w.ps)
  (ih:∀(pt:aE) (w:Wr),iL ps0 (h+1) pt.1→w.ok→cM ps0 w.ps→xz ps0 (h+1) key x pt w):xz ps0 (h+2) key x pt w:=by
 obtain⟨hok,hne,hvk⟩:=hv
 obtain⟨k1,k2,k3⟩:=hkp.okAt hok
 have hkl:(bD w.ps pt.1).length=(bn w.ps pt.1).length+1:=by
  rcases k1.facts.2.2 with h0|h0
  ·rw[k3] at h0;exact absurd (B1.1 h0) hne
  ·exact h0
 obtain⟨x1,x3,_⟩:=k1.facts
 have hk0:0<(bD w.ps pt.1).length:=by omega
 obtain⟨i,hi⟩:∃i,i=gG (bn w.ps pt.1) key:=⟨_,rfl⟩
 obtain⟨n,hn4⟩:∃n,n=(bD w.ps pt.1).length:=⟨_,rfl⟩
 obtain⟨PL,hPL⟩:∃PL,PL=eS (bn w.ps pt.1) (bD w.ps pt.1) pt.2:=⟨_,rfl⟩
 have hPn:PL.length=n:=by rw[hPL,eR,hn4]
 have hil:i<n:=by have:=jK (bn w.ps pt.1) key;omega
 have hget:∀j,j<n→∃s,PL[j]?=some s∧iL ps0 (h+1) s.1:=fun j hj=>by
  have hj':j<(bD w.ps pt.1).length:=by omega
  refine⟨_,by rw[hPL];exact qw _ _ _ j (AI hj'),?_⟩
  exact hvk _ (by rw[←k3];exact BS hj')
 obtain⟨q,hq,hqv⟩:=hget i hil
 rcases ih q w hqv hw hkp with⟨l1,th,r1,w1,a1,a2,a3,hw1,hk1,hrec⟩|hpan
 rotate_left
 ·refine .inr fun σ a p b e=>?_
  obtain⟨w',hp⟩:=hpan _ a p b (e.app w (jn σ.length w pt))
  unfold ns at hp
  rw[aT e.two,aT e.two] at hp
  exact⟨w',dJ e.two (iG e.two hw e.hb e.ba e.bp k1 key hkl hi hn4 (by rw[←hPL];exact hq) (.inl ⟨_,rfl,hp⟩))⟩
 have hrec':∀(σ:List Ob) (a p b:Nat),Env4 σ a p b x→Ok Try.prog 39 [.ptr a 1 0 0,ePt q,.int .u64 key,.fn 24 [.ptr b 1 0 0]] (wS2 σ a p w++jn σ.length w pt) (.ret (.tup [.sl (σ.length+4) (l1.length+r1) 0 l1.length,.bool th])) (wS2 σ a p w1++(jn σ.length w pt++[prG l1 r1])):=fun σ a p b e=>by
  have:=hrec _ a p b (e.app w (jn σ.length w pt))
  unfold ns at this
  rw[aT e.two,aT e.two,AP,am,AR] at this
  exact this
 cases th with
 |false=>
  refine jv (w2:=w1) (LL:=PL.take i++l1++PL.drop (i+1)) (r:=0) hw1 hk1 hk0 (by simp;omega) (by simp;omega) (fun _=>by omega) fun σ a p b e=>⟨prG l1 r1,fun out ob' hTL=>?_⟩
  have hlen:(PL.take i++l1++PL.drop (i+1)).length=n-1+l1.length:=by simp;omega
  have hrep:=x8 (σ:=wS2 σ a p w1++(jn σ.length w pt++[prG l1 r1])) (id:=σ.length+3) (J:=σ.length+4) (n:=n) (g:=l1.length+r1) (i:=i) (k:=l1.length) (r:=r1) (l:=PL) (tl:=l1) (by rw[←am (σ:=σ) (a:=a) (p:=p) w1,ak,hPL];rfl) (by omega) (by rw[←am (σ:=σ) (a:=a) (p:=p) w1,ak];rfl) rfl hPn rfl a1 a2 hil (by omega)
  have hs:s1 (wS2 σ a p w1++(jn σ.length w pt++[prG l1 r1])) (σ.length+3) (prG (PL.take i++l1++PL.drop (i+1)) 0)=wS2 σ a p w1++fU σ.length w pt (PL.take i++l1++PL.drop (i+1)) 0 (prG l1 r1):=by
   unfold s1
   rw[←am (σ:=σ) (a:=a) (p:=p) w1,ay];rfl
  rw[hs] at hrep
  rw[Bt,hlen] at hTL
  exact iG e.two hw e.hb e.ba e.bp k1 key hkl hi hn4 (by rw[←hPL];exact hq) (.inr ⟨_,_,_,_,_,hrec' σ a p b e,.inl ⟨rfl,_,_,_,hrep,hTL⟩⟩)
 |true=>
  obtain⟨b1,b2,b3⟩:=a3 rfl
  obtain⟨y,rfl⟩:∃y,l1=[y]:=List.length_eq_one_iff.1 b1
  obtain⟨h',rfl⟩:∃h',h=h'+1:=⟨h-1,by omega⟩
  have hsis:∀s:aE,iL ps0 (h'+1+1) s.1→okAt w1.ps s.1∧(bD w1.ps s.1).length=(bn w1.ps s.1).length+1:=fun s hs=>by
   obtain⟨s1,s2,s3⟩:=hk1.okAt hs.1
   refine⟨s1,?_⟩
   rcases s1.facts.2.2 with h0|h0
   ·rw[s3] at h0;exact absurd (B1.1 h0) hs.2.1
   ·exact h0
  have hjo:∀{σ:List Ob}{a p b:Nat} (e:Env4 σ a p b x) (w':Wr),wS2 (wS2 σ a p w++(jn σ.length w pt++[prG [y] r1])) a p w'=wS2 σ a p w'++(jn σ.length w pt++[prG [y] r1]):=fun e w'=>aT e.two _ _ _
  by_cases h0:0<i
  ·obtain⟨j,rfl⟩:∃j,i=j+1:=⟨i-1,by omega⟩
   obtain⟨s,hs,hsv⟩:=hget j (by omega)
   obtain⟨o1,o2⟩:=hsis s hsv
   have hjoin:=fun(σ:List Ob) (a p b:Nat) (e:Env4 σ a p b x)=>wL (σ:=wS2 σ a p w++(jn σ.length w pt++[prG [y] r1])) (a:=a) (p:=p) (idl:=σ.length+3) (idb:=σ.length+4) (n:=n) (r:=r1) (w:=w1) (PL:=PL) (y:=y) (s:=s) (ca e.two _ _) hw1 (by have:=e.two.la;omega) (by have:=e.two.lb;omega) (by have:=e.two.la;omega) (by have:=e.two.lb;omega) (by omega) (by rw[←am (σ:=σ) (a:=a) (p:=p) w,ak,hPL];rfl) hPn (by omega) (by rw[←am (σ:=σ) (a:=a) (p:=p) w,ak];rfl) o1 o2 hil hs
   cases ht:cZ w1 (eS (bn w1.ps s.1) (bD w1.ps s.1) s.2++[y]) with
   |none=>
    refine .inr fun σ a p b e=>?_
    obtain⟨w',hj⟩:=(hjoin σ a p b e).2 ht
    rw[hjo e,hjo e] at hj
    exact⟨w',dJ e.two (iG e.two hw e.hb e.ba e.bp k1 key hkl hi hn4 (by rw[←hPL];exact hq) (.inr ⟨_,_,_,_,_,hrec' σ a p b e,.inr ⟨rfl,.inr ⟨_,rfl,hj⟩⟩⟩))⟩
   |some t=>
    obtain⟨tl,w2⟩:=t
    have hll:2≤(eS (bn w1.ps s.1) (bD w1.ps s.1) s.2++[y]).length∧(eS (bn w1.ps s.1) (bD w1.ps s.1) s.2++[y]).length≤5:=by
     have:=o1.facts
     rw[AP,eR,Ca]
     omega
    obtain⟨t1,t2⟩:=dn hll ht
    obtain⟨c1,c2⟩:=fh hw1 hk1 ht
    have hlen:(PL.take j++tl++PL.drop (j+2)).length=n-2+tl.length:=by simp;omega
    refine jv (w2:=w2) (LL:=PL.take j++tl++PL.drop (j+2)) (r:=2-tl.length) c1 c2 hk0 (by omega) (by omega) (fun _=>by omega) fun σ a p b e=>⟨prG [y] r1,fun out ob' hTL=>?_⟩
    have hj:=(hjoin σ a p b e).1 tl w2 ht
    rw[←dI (by have:=e.two.la;omega) (by have:=e.two.lb;omega),hjo e,hjo e] at hj
    have hset:(wS2 σ a p w2++(jn σ.length w pt++[prG [y] r1])).set (σ.length+3) (prG (PL.take j++tl++PL.drop (j+2)) (2-tl.length))=wS2 σ a p w2++fU σ.length w pt (PL.take j++tl++PL.drop (j+2)) (2-tl.length) (prG [y] r1):=by
     rw[←am (σ:=σ) (a:=a) (p:=p) w2,ay];rfl
    rw[hset] at hj
    rw[hlen,show n-2+tl.length+(2-tl.length)=n by omega] at hTL
    exact iG e.two hw e.hb e.ba e.bp k1 key hkl hi hn4 (by rw[←hPL];exact hq) (.inr ⟨_,_,_,_,_,hrec' σ a p b e,.inr ⟨rfl,.inl ⟨_,_,_,hj,hTL⟩⟩⟩)
  ·obtain rfl:i=0:=by omega
   obtain⟨s,hs,hsv⟩:=hget 1 (by omega)
   obtain⟨o1,o2⟩:=hsis s hsv
   have hjoin:=fun(σ:List Ob) (a p b:Nat) (e:Env4 σ a p b x)=>wN (σ:=wS2 σ a p w++(jn σ.length w pt++[prG [y] r1])) (a:=a) (p:=p) (idl:=σ.length+3) (idb:=σ.length+4) (n:=n) (r:=r1) (w:=w1) (PL:=PL) (y:=y) (s:=s) (ca e.two _ _) hw1 (by have:=e.two.la;omega) (by have:=e.two.lb;omega) (by have:=e.two.la;omega) (by have:=e.two.lb;omega) (by omega) (by rw[←am (σ:=σ) (a:=a) (p:=p) w,ak,hPL];rfl) hPn (by omega) (by rw[←am (σ:=σ) (a:=a) (p:=p) w,ak];rfl) o1 o2 (by omega) b2 hs
   cases ht:cZ w1 (y::eS (bn w1.ps s.1) (bD w1.ps s.1) s.2) with
   |none=>
    refine .inr fun σ a p b e=>?_
    obtain⟨w',B,hj⟩:=(hjoin σ a p b e).2 ht
    rw[←dI (by have:=e.two.la;omega) (by have:=e.two.lb;omega),hjo e,hjo e,←am (σ:=σ) (a:=a) (p:=p) w',ay,am] at hj
    exact⟨w',dJ e.two (iG e.two hw e.hb e.ba e.bp k1 key hkl hi hn4 (by rw[←hPL];exact hq) (.inr ⟨_,_,_,_,_,hrec' σ a p b e,.inr ⟨rfl,.inr ⟨_,rfl,hj⟩⟩⟩))⟩
   |some t=>
    obtain⟨tl,w2⟩:=t
    have hll:2≤(y::eS (bn w1.ps s.1) (bD w1.ps s.1) s.2).length∧(y::eS (bn w1.ps s.1) (bD w1.ps s.1) s.2).length≤5:=by
     have:=o1.facts
     rw[A5,eR]
     omega
    obtain⟨t1,t2⟩:=dn hll ht
    obtain⟨c1,c2⟩:=fh hw1 hk1 ht
    have hlen:(tl++PL.drop 2).length=n-2+tl.length:=by simp;omega
    refine jv (w2:=w2) (LL:=tl++PL.drop 2) (r:=2-tl.length) c1 c2 hk0 (by omega) (by omega) (fun _=>by omega) fun σ a p b e=>?_
    obtain⟨B,hj⟩:=(hjoin σ a p b e).1 tl w2 ht
    refine⟨prG B 0,fun out ob' hTL=>?_⟩
    rw[←dI (by have:=e.two.la;omega) (by have:=e.two.lb;omega),←dI (by have:=e.two.la;omega) (by have:=e.two.lb;omega),hjo e,hjo e] at hj
    have hset:((wS2 σ a p w2++(jn σ.length w pt++[prG [y] r1])).set (σ.length+4) (prG B 0)).set (σ.length+3) (prG (tl++PL.drop 2) (2-tl.length))=wS2 σ a p w2++fU σ.length w pt (tl++PL.drop 2) (2-tl.length) (prG B 0):=by
     rw[←am (σ:=σ) (a:=a) (p:=p) w2,ay,ay];rfl
    rw[hset] at hj
    rw[hlen,show n-2+tl.length+(2-tl.length)=n by omega] at hTL
    exact iG e.two hw e.hb e.ba e.bp k1 key hkl hi hn4 (by rw[←hPL];exact hq) (.inr ⟨_,_,_,_,_,hrec' σ a p b e,.inr ⟨rfl,.inl ⟨_,_,_,hj,hTL⟩⟩⟩)
theorem oC{ps0:List Pg} (key:Int) (x:It):∀(h:Nat) (pt:aE) (w:Wr),iL ps0 h pt.1→w.ok→cM ps0 w.ps→xz ps0 h key x pt w
 |0,_,_,hv,_,_=>hv.elim
 |1,_,_,hv,hw,hk=>rC hv hw hk
 |h+2,_,_,hv,hw,hk=>rD hv hw hk fun pt w a b c=>oC key x (h+1) pt w a b c
end Go.VL
