/- Proved: TreeOwn: whatever tree, root and item come in (together of bulk at most 1048576), the call returns true and they read as they did; no other condition. This text is part 15 of 18. -/
import Derived.Test.YtghomgiklhbjiaaW14
set_option linter.unusedSimpArgs false
set_option linter.unusedVariables false
set_option maxRecDepth 10000
set_option maxHeartbeats 2000000
open List renaming append_assoc → AR,append_nil → AK,cons_append → Bq,ext_getElem? → BV,getD_eq_getElem?_getD → AZ,getElem?_append_left → AJ,getElem?_append_right → AT,getElem?_cons_succ → BH,getElem?_cons_zero → AY,getElem?_drop → Bk,getElem?_eq_getElem → AI,getElem?_eq_some_iff → AH,getElem?_map → AQ,getElem?_set → B2,getElem?_set_ne → A6,getElem?_set_self → Ds,headD_cons → Cd,length_append → AP,length_cons → A5,length_map → AN,length_nil → Bj,length_take → Bi,mem_cons → Bh,mem_map → Ba,mem_of_getElem? → AM,nil_append → Be,not_mem_nil → Bw,replicate → AO,set_cons_zero → Dj,take_append_of_le_length → BL,take_of_length_le → AV
open Nat renaming le_refl → AU,lt_or_ge → Bp,min_eq_left → BE,reduceAdd → Dg,reduceLT → Bv,zero_add → Bc
open Int renaming toNat → Ce
namespace Go.VL
open Go Go.Proofs
open Nat (reduceAdd reduceEqDiff reduceSub reduceMul reduceLeDiff)
def di37_5:List DI:=[⟨[1],[],false,[0],some 17,[]⟩,⟨[17],[0],false,[0],some 18,[0]⟩,⟨[3],[],false,[0],some 19,[]⟩,⟨[4],[],false,[0],some 20,[]⟩,⟨[20],[3],false,[0],some 21,[3]⟩,⟨[18,19],rg 0 5,false,[0],some 22,([1,2]++rg 0 5)⟩,⟨[21,22],rg 0 6,true,[],none,([5,4,4]++rg 0 5)⟩]
def pg0 (p:Pg):Pg:=(0,p.2)
theorem xi (c:Nat) (ps:List Pg) (h0:0<ps.length) (h1:ps.length≤1048576) (hb:∀p∈ps,p.2.length≤134217728) (σ:List Ob):
  Ok Try.prog 37 [.agg [pgsD c ps]] σ (.ret (.agg [.sl σ.length ps.length 0 ps.length])) (σ++[.arr 67 1 ((ps.map pg0).map ePg)]):=by
 have hcl:=vd c ps h0 h1
 unfold pgsD
 obtain⟨X,hX⟩:∃X,X=ps.map ePg:=⟨_,rfl⟩
 have hXl:X.length=ps.length:=by rw[hX,AN]
 rw[←hX] at hcl⊢
 obtain⟨N,hN⟩:∃N,N=ps.length:=⟨_,rfl⟩
 rw[←hN] at hXl hcl h0 h1⊢
 obtain⟨P,hPP⟩:∃P:Nat→List DV,P=fun k=>((ps.take k).map pg0++ps.drop k).map ePg:=⟨_,rfl⟩
 have hP0:P 0=X:=by rw[hPP,hX];simp
 have hPN:P N=(ps.map pg0).map ePg:=by rw[hPP];simp[hN]
 have hPl:∀k,k≤N→(P k).length=N:=fun k hk=>by rw[hPP];simp;omega
 have so:∀(T:List Ob) (k:Nat),(σ++T)[σ.length+k]?=T[k]?:=fun T k=>ak _ _ _
 have so0:∀(T:List Ob),(σ++T)[σ.length]?=T[0]?:=fun T=>aL _ _
 have ss1:∀(T:List Ob) (k:Nat) (o:Ob),(σ++T).set (σ.length+k) o=σ++T.set k o:=fun T k o=>ay _ _ _ _
 have ss0:∀(T:List Ob) (o:Ob),(σ++T).set σ.length o=σ++T.set 0 o:=fun T o=>gV _ _ _
 obtain⟨O,hO⟩:∃O:Nat→List Ob,O=fun k=> [.arr 29 1 [.agg [.sl (σ.length+2) N 0 N]],.arr 29 1 [.agg [.nils]],.arr 67 1 (P k)]:=⟨_,rfl⟩
 have hfull:Ok Try.prog 37 [.agg [.vec c 1 X]] σ (.ret (.agg [.sl (σ.length+2) N 0 N])) (σ++[.arr 29 1 [.agg [.sl (σ.length+2) N 0 N]],.arr 29 1 [.agg [.sl (σ.length+2) N 0 N]],.arr 67 1 (P N)]):=by
  have hcl':=fun σ=>hcl σ
  rw[←hP0] at hcl'⊢
  refine Ok.of_body ae Try.func37 rfl (by decide) (by simp[Try.ntmps37]) fun C hP hn hσ hfix hdd=>?_
  rw[show Try.f37.ntmps=25 from rfl] at hn
  have hL:af C.P L:=hP▸ae
  have hm:C.P.follows .mixedOrders=true:=hP▸ao
  repeat(first|(refine sB hL hn rfl ?_;simp only[go_sem,seval,so0])|refine sN rfl ?_|refine sC ?_)
  refine sK hP hL hn rfl rfl (hcl' _) rfl rfl rfl rfl ?_;simp (maxSteps:=2000000) only[go_sem,seval,so0,ss0,AP,A5,Bj]
  repeat(first|(refine sB hL hn rfl ?_;simp only[go_sem,seval,so0])|refine sN rfl ?_|refine sC ?_)
  refine SW.lpg (fun k:Nat=>⟨[(1,.ptr σ.length 1 0 0),(2,.ptr (σ.length+1) 1 0 0),(10,.sl (σ.length+2) N 0 N),(11,.int .i64 N),(12,.int .i64 k)],σ++O k⟩) (fun k=>N-k) (fun k=>k≤N) 0 (by omega) (.of (by rw[hO]) (by simp[aC,lk])) ?_
  intro k hk
  by_cases hlt:k<N
  ·have e1:decide ((k:Int)<(N:Int))=true:=decide_eq_true (by omega)
   have e2:(0≤(k:Int)∧(k:Int)<(N:Int)):=by omega
   obtain⟨p,hp⟩:∃p,ps[k]?=some p:=⟨_,AI (by omega)⟩
   have hcb:=oA p.1 p.2 (hb p (AM hp))
   obtain⟨B,hB⟩:∃B,B=p.2.map eB:=⟨_,rfl⟩
   rw[←hB] at hcb
   have l1:=hPl k hk
   have e3:(P k)[k]?=some (.vec p.1 1 B):=by
    rw[hPP,AQ,AT (by simp;omega)]
    rw[AN,Bi,BE (by omega)];simp[hp,ePg,hB]
   have e4:(P k)[k]?.getD .undef=.vec p.1 1 B:=by rw[e3];rfl
   have w2:IntKind.i64.wrap ((k:Int)+1)=((k+1:Nat):Int):=wi (by omega) (by omega)
   have hPs:(P k).set k (.vec 0 1 B)=P (k+1):=by
    rw[hPP]
    apply BV
    intro j
    rw[B2]
    by_cases hj:k=j
    ·subst hj
     rw[if_pos rfl,if_pos (by simp;omega),AQ,AJ (by simp;omega)]
     simp[hp,pg0,ePg,hB]
    ·rw[if_neg hj,AQ,AQ]
     congr 1
     rcases Bp j k with h'|h'
     ·rw[AJ (by simp;omega),AJ (by simp;omega)]
      simp[h',show j<k+1 by omega]
     ·rw[AT (by simp;omega),AT (by simp;omega)]
      simp only[AN,Bi,Bk]
      congr 1
      omega
   rw[hO]
   simp only
   repeat(first|(refine sB hL hn rfl ?_;simp only[go_sem,seval,e2,e3,l1,so])|refine sN rfl ?_|refine sC ?_)
   obtain⟨M,hM⟩:∃M,M=σ++[Ob.arr 29 1 [.agg [.sl (σ.length+2) N 0 N]],.arr 29 1 [.agg [.nils]],.arr 67 1 (P k)]:=⟨_,rfl⟩
   obtain⟨M',hM'⟩:∃M',M'=σ++[Ob.arr 29 1 [.agg [.sl (σ.length+2) N 0 N]],.arr 29 1 [.agg [.nils]],.arr 67 1 (P (k+1))]:=⟨_,rfl⟩
   have ma:M[σ.length]?=some (.arr 29 1 [.agg [.sl (σ.length+2) N 0 N]]):=by rw[hM,so0];rfl
   have mp:M[σ.length+2]?=some (.arr 67 1 (P k)):=by rw[hM,so];rfl
   have mM:M.set (σ.length+2) (.arr 67 1 (P (k+1)))=M':=by rw[hM,ss1,hM'];rfl
   have e5:(0≤(k:Int))=True:=eq_true (by omega)
   have e6:((k:Int)<(N:Int))=True:=eq_true (by omega)
   rw[←hM]
   refine(?_:SW C _ _ _);refine sM hL hm hn di37_5 [M,M'] rfl rfl rfl ?_
   unfold di37_5
   repeat(rw[ah];simp (maxSteps:=2000000) only[go_sem,seval,ma])
   try rw[aj]
   try simp only[go_sem,seval,ma,mp,l1,e5,e6,e3,e4]
   refine aI.pure hP (fun q hq=>(by obtain rfl:q=0:=(by simpa using hq);exact hcb M)) rfl rfl rfl rfl ?_;repeat(simp (maxSteps:=2000000) only[go_sem,seval,mp,l1,e5,e6,e3,hPs,mM,AU,Cd];first|rw[ah]|rw[aj])
   try simp only[go_sem,seval]
   repeat(first|(refine sB hL hn rfl ?_;simp only[go_sem,seval,w2])|refine sN rfl ?_|refine sC ?_)
   exact Lp.nextg (k+1) (by show k+1≤_;omega) (by show N-(k+1)<_;omega) (.of (by rw[hM']) (by simp[aC,lk]))
  ·have e1:decide ((k:Int)<(N:Int))=false:=decide_eq_false (by omega)
   obtain rfl:k=N:=by omega
   rw[hO]
   simp only
   repeat(first|(refine sB hL hn rfl ?_;simp only[go_sem,seval,e1,so,so0,ss1])|refine sN rfl ?_|refine sC ?_)
   refine⟨_,(.agg [.sl (σ.length+2) k 0 k]),_,ai.refl _ _,?_,ag.refl _ _ _,rfl⟩
   show aF L _ [Go.ResultVar.cell 2 29]=_
   simp only[aF,cA,aV,go_sem,seval,so]
 rw[hPN] at hfull
 have hJ:(σ++[Ob.arr 29 1 [.agg [.sl (σ.length+2) N 0 N]],.arr 29 1 [.agg [.sl (σ.length+2) N 0 N]],.arr 67 1 ((ps.map pg0).map ePg)])[σ.length+2]?=some (.arr 67 1 ((ps.map pg0).map ePg)):=so _ 2
 have:=Ok.tidy (c:=0) (D:=.agg [.sl σ.length N 0 N]) (some (σ.length+2)) hfull (er.refl σ) (by
  refine .agg rfl fun i x y hx hy=>?_
  match i,hx,hy with
  |0,hx,hy=>cases hx;cases hy;exact .own rfl
  |i+1,hx,_=>simp at hx) (fun i hi=>by
  cases hi
  refine⟨by omega,_,_,_,hJ,fun z hz=>?_⟩
  obtain⟨x,_,rfl⟩:=Ba.1 hz
  exact aW _ x.1 x.2)
 simp only[df,AZ,hJ] at this
 exact this
theorem ve (σ:List Ob):Ok Try.prog 37 [.agg [.nils]] σ (.ret (.agg [.nils])) (σ++[.arr 29 1 [.agg [.nils]],.arr 29 1 [.agg [.nils]]]):=by
 have so:∀(T:List Ob) (k:Nat),(σ++T)[σ.length+k]?=T[k]?:=fun T k=>ak _ _ _
 have so0:∀(T:List Ob),(σ++T)[σ.length]?=T[0]?:=fun T=>aL _ _
 have ss1:∀(T:List Ob) (k:Nat) (o:Ob),(σ++T).set (σ.length+k) o=σ++T.set k o:=fun T k o=>ay _ _ _ _
 have ss0:∀(T:List Ob) (o:Ob),(σ++T).set σ.length o=σ++T.set 0 o:=fun T o=>gV _ _ _
 have hn0:∀σ,Ok Try.prog 49 [.nils] σ (.ret .nils) σ:=fun σ=>by
  refine Ok.of_body ae Try.func49 rfl (by decide) (by simp[Try.ntmps49]) fun C hP hn hσ hfix hdd=>?_
  rw[show Try.f49.ntmps=8 from rfl] at hn
  have hL:af C.P L:=hP▸ae
  have hm:C.P.follows .mixedOrders=true:=hP▸ao
  repeat(first|(refine sB hL hn rfl ?_;simp only[go_sem,seval])|refine sN rfl ?_|refine sC ?_)
  exact⟨_,_,_,ai.refl _ _,rfl,ag.refl _ _ _,rfl⟩
 have e1:decide ((0:Int)<((0:Nat):Int))=false:=rfl
 refine Ok.of_body ae Try.func37 rfl (by decide) (by simp[Try.ntmps37]) fun C hP hn hσ hfix hdd=>?_
 rw[show Try.f37.ntmps=25 from rfl] at hn
 have hL:af C.P L:=hP▸ae
 have hm:C.P.follows .mixedOrders=true:=hP▸ao
 repeat(first|(refine sB hL hn rfl ?_;simp only[go_sem,seval,so0])|refine sN rfl ?_|refine sC ?_)
 refine sK hP hL hn rfl rfl (hn0 _) rfl rfl rfl rfl ?_;simp (maxSteps:=2000000) only[go_sem,seval,so0,ss0]
 repeat(first|(refine sB hL hn rfl ?_;simp only[go_sem,seval,so0])|refine sN rfl ?_|refine sC ?_)
 refine SW.lpg (fun k:Nat=>⟨[(1,.ptr σ.length 1 0 0),(2,.ptr (σ.length+1) 1 0 0),(10,.nils),(11,.int .i64 0),(12,.int .i64 0)],σ++[.arr 29 1 [.agg [.nils]],.arr 29 1 [.agg [.nils]]]⟩) (fun k=>0) (fun k=>True) 0 trivial (.of rfl (by simp[aC,lk])) ?_
 intro k hk
 repeat(first|(refine sB hL hn rfl ?_;simp only[go_sem,seval,so,so0,ss1])|refine sN rfl ?_|refine sC ?_)
 refine⟨_,(.agg [.nils]),_,ai.refl _ _,?_,ag.refl _ _ _,rfl⟩
 show aF L _ [Go.ResultVar.cell 2 29]=_
 simp only[aF,cA,aV,go_sem,seval,so]
theorem rS (e t at_:Nat) (σ:List Ob):DefOk Try.prog 35 [.ptr e 1 0 0,.ptr t 1 0 0,.ptr at_ 1 0 0] .ret σ .ret σ:=by
 refine dF (stop:=false) (st':=⟨[],σ⟩) ae Try.func35 rfl (by decide) (by simp[Try.ntmps35]) (fun C hP hn c₀ cs a w u hr=>?_) rfl
 rw[show Try.f35.ntmps=6 from rfl] at hn
 refine wpS_seq (dH (wpS_region ?_) (Q:=tf C c₀ cs false .ret ⟨[(0,.ptr e 1 0 0),(1,.ptr t 1 0 0),(2,.ptr at_ 1 0 0),(3,.nili),(4,.bool false)],σ⟩) ?_)
 ·refine dK (o:=_) rfl rfl (by rw[hn];decide) rfl (fun a w u hr=>?_) hr
  refine gX (f:=36) (caps:=[]) (d:=.bool false) (ob':=σ) rfl rfl (by rw[hn];decide) rfl ?_ ?_ (fun a w u hr=>?_) hr
  ·rfl
  ·exact mc e σ
  exact⟨rfl,u,rfl,hr.weak (Weak.of_agree rfl ⟨rfl,rfl,rfl,rfl,rfl,trivial⟩)⟩
 ·rintro ex a1 cs1 w1 ⟨rfl,u1,rfl,hr1⟩
  have hv:a1.eval (.tmp 4)=.bool false:=by
   obtain⟨F,μ,h1,_⟩:=hr1
   have:=bb h1 (.tmp 4)
   generalize a1.eval (.tmp 4)=v at this
   cases this
   rfl
  refine wpS_cond hv ?_
  exact wpS_of_wp (wp_skip ⟨rfl,u1,rfl,hr1.weak (Weak.of_agree (l:=[]) rfl trivial)⟩)
theorem rT (n:Int) (e t at_:Nat) (x y:Int) (d:DV) (σ:List Ob) (he:σ[e]?=some (.arr 31 1 [.int .i64 x])) (ht:σ[t]?=some (.arr 29 1 [.agg [d]])) (ha:σ[at_]?=some (.arr 3 1 [.int .i64 y])) (h1:e≠t) (h2:e≠at_) (h3:t≠at_):
  DefOk Try.prog 35 [.ptr e 1 0 0,.ptr t 1 0 0,.ptr at_ 1 0 0] (.pan (be n)) σ (.rcv (be n)) (((σ.set e (.arr 31 1 [.int .i64 n])).set t (.arr 29 1 [.agg [.nils]])).set at_ (.arr 3 1 [.int .i64 0])):=by
 obtain⟨σ1,hσ1⟩:∃σ1,σ1=σ.set e (.arr 31 1 [.int .i64 n]):=⟨_,rfl⟩
 obtain⟨σ2,hσ2⟩:∃σ2,σ2=σ1.set t (.arr 29 1 [.agg [.nils]]):=⟨_,rfl⟩
 obtain⟨σ3,hσ3⟩:∃σ3,σ3=σ2.set at_ (.arr 3 1 [.int .i64 0]):=⟨_,rfl⟩
 have ht1:σ1[t]?=some (.arr 29 1 [.agg [d]]):=by rw[hσ1,A6 h1];exact ht
 have ha2:σ2[at_]?=some (.arr 3 1 [.int .i64 y]):=by rw[hσ2,A6 h3,hσ1,A6 h2];exact ha
 have htold:=mf n e x σ he
 rw[←hσ1] at htold⊢
 rw[←hσ2,←hσ3]
 refine dF (stop:=false) (st':=⟨[],σ3⟩) ae Try.func35 rfl (by decide) (by simp[Try.ntmps35]) (fun C hP hn c₀ cs a w u hr=>?_) rfl
 rw[show Try.f35.ntmps=6 from rfl] at hn
 refine wpS_seq (dH (wpS_region ?_) (Q:=tf C c₀ cs false (.rcv (be n)) ⟨[(0,.ptr e 1 0 0),(1,.ptr t 1 0 0),(2,.ptr at_ 1 0 0),(3,be n),(4,.bool true)],σ1⟩) ?_)
 ·refine dK (o:=_) rfl rfl (by rw[hn];decide) rfl (fun a w u hr=>?_) hr
  refine gX (f:=36) (caps:=[]) (d:=.bool true) (ob':=σ1) rfl rfl (by rw[hn];decide) rfl ?_ ?_ (fun a w u hr=>?_) hr
  ·rfl
  ·exact htold
  exact⟨rfl,u,rfl,hr.weak (Weak.of_agree rfl ⟨rfl,rfl,rfl,rfl,rfl,trivial⟩)⟩
 ·rintro ex a1 cs1 w1 ⟨rfl,u1,rfl,hr1⟩
  have hv:a1.eval (.tmp 4)=.bool true:=by
   obtain⟨F,μ,h1,_⟩:=hr1
   have:=bb h1 (.tmp 4)
   generalize a1.eval (.tmp 4)=v at this
   cases this
   rfl
  refine wpS_cond hv (wpS_region ?_)
  obtain⟨env0,henv0⟩:∃env0:List (Nat×DV),env0=[(0,.ptr e 1 0 0),(1,.ptr t 1 0 0),(2,.ptr at_ 1 0 0),(3,be n),(4,.bool true)]:=⟨_,rfl⟩
  have hb:sop L ⟨[(0,.ptr e 1 0 0),(1,.ptr t 1 0 0),(2,.ptr at_ 1 0 0),(3,be n),(4,.bool true)],σ1⟩ (.build 29 #[])=some (.agg [.nils],σ1):=rfl
  refine fN (P:=Try.prog) (o:=_) hP rfl rfl (by rw[hn];decide) (ar.of_sop ae hb) (fun a w u hr=>?_) hr1
  have hst:sop L ⟨[(0,.ptr e 1 0 0),(1,.ptr t 1 0 0),(2,.ptr at_ 1 0 0),(3,be n),(4,.bool true),(5,.agg [.nils])],σ1⟩ (.store 29 (.tmp 1) (.tmp 5))=some (.undef,σ2):=by
   rw[hσ2]
   simp only[go_sem,ht1,Bv,reduceCtorEq]
   rfl
  refine fN (P:=Try.prog) (o:=_) hP rfl rfl (by rw[hn];decide) (ar.of_sop ae hst) (fun a w u hr=>?_) hr
  have hst2:sop L ⟨[(0,.ptr e 1 0 0),(1,.ptr t 1 0 0),(2,.ptr at_ 1 0 0),(3,be n),(4,.bool true),(5,.agg [.nils])],σ2⟩ (.store 3 (.tmp 2) (.const (.int .i64 0)))=some (.undef,σ3):=by
   rw[hσ3]
   simp only[go_sem,ha2,Nat.reduceEqDiff,Bv,reduceCtorEq]
   rfl
  refine fN (P:=Try.prog) (o:=_) hP rfl rfl (by rw[hn];decide) (ar.of_sop ae hst2) (fun a w u hr=>?_) hr
  exact⟨rfl,u,rfl,hr.weak (Weak.of_agree (l:=[]) rfl trivial)⟩
def di23_11:List DI:=[⟨[11],[],false,[0],some 46,[]⟩,⟨[46],[0],false,[0],some 47,[0]⟩,⟨[47],[0,1],false,[0],some 48,[1]⟩,⟨[48],[0,1,2],false,[0],some 49,[2]⟩,⟨[9],[],false,[0,1],some 50,[]⟩,⟨[8,49],rg 0 4,true,[],none,([3]++rg 0 4)⟩,⟨[9,50],rg 0 6,true,[],none,([4,5]++rg 0 6)⟩,⟨[10],rg 0 7,true,[],none,([6]++rg 0 7)⟩]
noncomputable def pZ:Code:=match Try.f23.body with
 |some (.seq _ (.seq _ (.seq _ (.seq _ (.seq _ (.seq _ t))))))=>t
 |_=>.skip
theorem xC{M M1 M2:List Ob}{t at_ e a p J g len N:Nat}{n q low:Int}{R:List DV} (hJ:M[J]?=some (.arr 91 2 (.agg [.int .i64 q,.int .u64 low]::R))) (hg:g=R.length+1) (hlen:0<len) (hlg:len≤g)
  (hat:M[at_]?=some (.arr 3 1 [.int .i64 0])) (ht:M[t]?=some (.arr 29 1 [.agg [.nils]])) (he:M[e]?=some (.arr 31 1 [.int .i64 0])) (ha:M[a]?=some (.arr 85 2 [.agg [.sl p N 0 N,.int .i64 n]]))
  (e1:e≠t) (e2:e≠at_) (e3:t≠at_) (a1:a≠at_) (a2:a≠t) (h1:M1=M.set at_ (.arr 3 1 [.int .i64 q])) (h2:M2=M1.set t (.arr 29 1 [.agg [.sl p N 0 N]])) (C:Ctx) (hP:C.P=Try.prog) (hn:C.n=51){K:XE→St→Prop}
  (hK:∀env,lk env 8=.ptr t 1 0 0→lk env 9=.ptr at_ 1 0 0→lk env 10=.ptr e 1 0 0→K .ret ⟨env,M2⟩):
  SW C pZ ⟨[(8,.ptr t 1 0 0),(9,.ptr at_ 1 0 0),(10,.ptr e 1 0 0),(11,.ptr a 1 0 0),(12,.sl J g 0 len)],M⟩ K:=by
 have l1:=(AH.1 hat).1
 have l2:=(AH.1 ht).1
 have b1:M1[at_]?=some (.arr 3 1 [.int .i64 q]):=by rw[h1,Ds l1]
 have b2:M1[t]?=some (.arr 29 1 [.agg [.nils]]):=by rw[h1,A6 (Ne.symm e3)];exact ht
 have b3:M1[a]?=some (.arr 85 2 [.agg [.sl p N 0 N,.int .i64 n]]):=by rw[h1,A6 (Ne.symm a1)];exact ha
 have b4:M1[e]?=some (.arr 31 1 [.int .i64 0]):=by rw[h1,A6 (Ne.symm e2)];exact he
 have c1:M2[at_]?=some (.arr 3 1 [.int .i64 q]):=by rw[h2,A6 e3];exact b1
 have c2:M2[e]?=some (.arr 31 1 [.int .i64 0]):=by rw[h2,A6 (Ne.symm e1)];exact b4
 have c3:M2[a]?=some (.arr 85 2 [.agg [.sl p N 0 N,.int .i64 n]]):=by rw[h2,A6 (Ne.symm a2)];exact b3
 have s1:M2.set at_ (.arr 3 1 [.int .i64 q])=M2:=by
  obtain⟨hl,e⟩:=AH.1 c1
  rw[←e,List.set_getElem_self]
 have s2:M2.set e (.arr 31 1 [.int .i64 0])=M2:=by
  obtain⟨hl,e⟩:=AH.1 c2
  rw[←e,List.set_getElem_self]
 have hL:af C.P L:=hP▸ae
 have hm:C.P.follows .mixedOrders=true:=hP▸ao
 have d1:decide (((len:Nat):Int)>0)=true:=decide_eq_true (by omega)
 have e0:((0:Int)<(len:Int))=True:=eq_true (by omega)
 have t0:Ce 0=0:=rfl
 show SW C ((Code.seq _ _).seq (Code.seq _ _)) _ _
 repeat(first|(refine sB hL hn rfl ?_;simp only[go_sem,seval,hJ,e0,hg,t0,hat,Cd,←h1])|refine sN rfl ?_|refine sC ?_)
 refine(?_:SW C _ _ _);first|refine sL hL hm hn di23_11 [M1,M2,M2,M2] rfl rfl rfl ?_|refine sM hL hm hn di23_11 [M1,M2,M2,M2] rfl rfl rfl ?_
 unfold di23_11
 repeat(rw[ah];simp (maxSteps:=2000000) only[go_sem,seval,b1,b2,b3,c1,c2,Cd,←h2,s1,s2])
 try rw[aj]
 try simp only[go_sem,seval]
 repeat(first|(refine sB hL hn rfl ?_;simp only[go_sem,seval])|refine sN rfl ?_|refine sC ?_)
 exact hK _ rfl rfl rfl
section
structure Cells (V:List Ob) (a p t at_ e:Nat):Prop where
 two:Two V a p
 ht:V[t]?=some (.arr 29 1 [.agg [.nils]])
 hat:V[at_]?=some (.arr 3 1 [.int .i64 0])
 he:V[e]?=some (.arr 31 1 [.int .i64 0])
 et:e≠t
 eat:e≠at_
 tat:t≠at_
 ta:t≠a
 tp:t≠p
 ata:at_≠a
 atp:at_≠p
 ea:e≠a
 ep:e≠p
structure TrnK (V:List Ob) (a p t at_ e:Nat) (K:XE→St→Prop) (R:Option (Wr×Int)):Prop where
 ret:∀(w:Wr) (q:Int),R=some (w,q)→∀(env:List (Nat×DV)) (T:List Ob),lk env 8=.ptr t 1 0 0→lk env 9=.ptr at_ 1 0 0→lk env 10=.ptr e 1 0 0→K .ret ⟨env,((wS2 V a p w++T).set at_ (.arr 3 1 [.int .i64 q])).set t (.arr 29 1 [.agg [.sl p w.ps.length 0 w.ps.length]])⟩
 pan:R=none→∀(env:List (Nat×DV)) (w:Wr) (T:List Ob),lk env 8=.ptr t 1 0 0→lk env 9=.ptr at_ 1 0 0→lk env 10=.ptr e 1 0 0→K (.panic (be 51)) ⟨env,wS2 V a p w++T⟩
def qS (w:Wr) (l:List aE):Option (Wr×Int):=some (w,(l.headD (0,0)).1)
def qM (w:Wr) (l:List aE):Option (Wr×Int):=if l.length=1 then qS w l else(cZ w l).bind fun q=>qS q.2 q.1
section
variable{V:List Ob}{a p t at_ e:Nat} (hc:Cells V a p t at_ e){K:XE→St→Prop}{R:Option (Wr×Int)} (hK:TrnK V a p t at_ e K R) (C:Ctx) (hP:C.P=Try.prog) (hn:C.n=51)
include hc hK hP hn
theorem pY{w:Wr}{T:List Ob}{J r:Nat}{l:List aE} (hJ:(wS2 V a p w++T)[J]?=some (prG l r)) (hl:1≤l.length) (hR:R=qS w l):
  SW C pZ ⟨[(8,.ptr t 1 0 0),(9,.ptr at_ 1 0 0),(10,.ptr e 1 0 0),(11,.ptr a 1 0 0),(12,.sl J (l.length+r) 0 l.length)],wS2 V a p w++T⟩ K:=by
 match l,hl with
 |(q,low)::l,_=>
  exact xC (q:=q) (low:=low) (R:=l.map ePt++AO r zP) hJ (by simp;omega) (by simp) (by omega) (bO hc.ata hc.atp hc.hat w T) (bO hc.ta hc.tp hc.ht w T) (bO hc.ea hc.ep hc.he w T) (vY hc.two _ _ _) hc.et hc.eat hc.tat hc.ata.symm hc.ta.symm rfl rfl C hP hn fun env h8 h9 h10=>hK.ret w q hR env T h8 h9 h10
noncomputable def jO:Code:=match Try.f23.body with
 |some (.seq _ (.seq _ (.seq _ (.seq _ (.seq _ t)))))=>t
 |_=>.skip
theorem tu{w:Wr} (hw:w.ok){T:List Ob}{J r:Nat}{l:List aE} (hJ:(wS2 V a p w++T)[J]?=some (prG l r)) (hl:1≤l.length) (hl2:l.length≤2) (ja:J≠a) (jp:J≠p) (hR:R=qM w l):
  SW C jO ⟨[(8,.ptr t 1 0 0),(9,.ptr at_ 1 0 0),(10,.ptr e 1 0 0),(11,.ptr a 1 0 0),(12,.sl J (l.length+r) 0 l.length)],wS2 V a p w++T⟩ K:=by
 have htl:R=qS w l→SW C pZ ⟨[(8,.ptr t 1 0 0),(9,.ptr at_ 1 0 0),(10,.ptr e 1 0 0),(11,.ptr a 1 0 0),(12,.sl J (l.length+r) 0 l.length)],wS2 V a p w++T⟩ K:=fun h=>pY hc hK C hP hn hJ hl h
 have hL:af C.P L:=hP▸ae
 have hm:C.P.follows .mixedOrders=true:=hP▸ao
 show SW C (Code.seq (Code.seq _ (Code.cond _ _ _)) pZ) _ _
 obtain⟨TL,hTL⟩:∃c,c=pZ:=⟨_,rfl⟩
 rw[←hTL] at htl⊢
 by_cases h1:l.length=1
 ·have d1:decide (((l.length:Nat):Int)>1)=false:=decide_eq_false (by omega)
  repeat(first|(refine sB hL hn rfl ?_;simp only[go_sem,seval,d1])|refine sN rfl ?_|refine sC ?_)
  refine SW.keep [(8,.ptr t 1 0 0),(9,.ptr at_ 1 0 0),(10,.ptr e 1 0 0),(11,.ptr a 1 0 0),(12,.sl J (l.length+r) 0 l.length)] (by exact⟨rfl,rfl,rfl,rfl,rfl,trivial⟩) ?_
  exact htl (by rw[hR];unfold qM;rw[if_pos h1])
 ·have d1:decide (((l.length:Nat):Int)>1)=true:=decide_eq_true (by omega)
  obtain⟨M,hM⟩:∃M,M=wS2 V a p w++T:=⟨_,rfl⟩
  have hMw:∀w',wS2 M a p w'=wS2 V a p w'++T:=fun w'=>by rw[hM,aT hc.two]
  have hM2:Two M a p:=by rw[hM];exact ca hc.two w T
  have htall:=lG hM2 hw (id:=J) (N:=l.length+r) (XX:=l.map ePt++AO r zP) (by rw[hM];exact hJ) ja jp (by simp) l (by omega) (by rw[BL (by simp),AV (by simp)]) (by omega)
  rw[hMw,←hM] at htall
  rw[←hM]
  cases ht:cZ w l with
  |none=>
   obtain⟨w',hp⟩:=htall.2 ht
   rw[hMw] at hp
   repeat(first|(refine sB hL hn rfl ?_;simp only[go_sem,seval,d1])|refine sN rfl ?_|refine sC ?_)
   refine aa.callp hP (by rw[hn];rfl) (hp) rfl rfl rfl rfl ?_;simp (maxSteps:=2000000) only[go_sem,seval]
   exact hK.pan (by rw[hR];unfold qM;rw[if_neg h1,ht];rfl) _ _ _ rfl rfl rfl
  |some q=>
   obtain⟨l',w'⟩:=q
   have hq:=htall.1 l' w' ht
   obtain⟨g1,g2⟩:=dn (by omega) ht
   rw[fM (by omega),fL (by omega),hMw,AR] at hq
   repeat(first|(refine sB hL hn rfl ?_;simp only[go_sem,seval,d1])|refine sN rfl ?_|refine sC ?_)
   refine sK hP hL hn rfl rfl (hq) rfl rfl rfl rfl ?_;simp (maxSteps:=2000000) only[go_sem,seval]
   repeat(first|(refine sB hL hn rfl ?_;simp only[go_sem,seval])|refine sN rfl ?_|refine sC ?_)
   refine SW.keep [(8,.ptr t 1 0 0),(9,.ptr at_ 1 0 0),(10,.ptr e 1 0 0),(11,.ptr a 1 0 0),(12,.sl M.length l'.length 0 l'.length)] (by exact⟨rfl,rfl,rfl,rfl,rfl,trivial⟩) ?_
   have hl0:(wS2 V a p w'++(T++[prG l' 0]))[M.length]?=some (prG l' 0):=by
    rw[hM,AP,am,←AR,←am (σ:=V) (a:=a) (p:=p) w',←AP,List.getElem?_concat_length]
   rw[hTL]
   exact pY hc hK C hP hn (r:=0) hl0 g1 (by rw[hR];unfold qM;rw[if_neg h1,ht];rfl)
end
end
noncomputable def p4:Code:=match Try.f23.body with
 |some (.seq _ (.seq _ (.seq _ t)))=>t
 |_=>.skip
theorem uY{w:Wr}{x:It}{l:List aE}{w':Wr} (hw:w.ok) (h:iV w [x]=some (l,w')):l.length=1∧w'.ok:=by
 have hlen:=eW _ _ _ _ _ h
 obtain⟨c1,c2,_⟩:=eg (ps0:=w.ps) _ _ _ _ _ hw (cM.refl _) h
 refine⟨?_,c1⟩
 rw[hlen];rfl
theorem tO{w:Wr}{l:List aE} (hw:w.ok) (hl:1≤l.length∧l.length≤2){w':Wr}{q:Int} (h:qM w l=some (w',q)):w'.ok:=by
 unfold qM qS at h
 split at h
 ·cases h;exact hw
 ·cases ht:cZ w l with
  |none=>rw[ht] at h;cases h
  |some r=>
   obtain⟨l',w2⟩:=r
   rw[ht] at h
   cases h
   exact(fh (ps0:=w.ps) hw (cM.refl _) ht).1
def xu (x:It) (w:Wr) (root:Int) (R:Option (Wr×Int)):Prop:=
 ∀(V:List Ob) (a p t at_ e b:Nat),Cells V a p t at_ e→V[b]?=some (.arr 27 2 [eT x])→b≠a→b≠p→∀(K:XE→St→Prop),TrnK V a p t at_ e K R→∀C:Ctx,C.P=Try.prog→C.n=51→
  SW C p4 ⟨[(1,.int .i64 root),(2,.int .u64 x.1),(3,.fn 24 [.ptr b 1 0 0]),(8,.ptr t 1 0 0),(9,.ptr at_ 1 0 0),(10,.ptr e 1 0 0),(11,.ptr a 1 0 0)],wS2 V a p w⟩ K
theorem vM (x:It){w:Wr} (hw:w.ok):∃R,(∀w' q,R=some (w',q)→w'.ok)∧xu x w 0 R:=by
 cases hf:iV w [x] with
 |none=>
  refine⟨none,fun _ _ h=>(by cases h),fun V a p t at_ e b hc hb ba bp K hK C hP hn=>?_⟩
  have hL:af C.P L:=hP▸ae
  have hm:C.P.follows .mixedOrders=true:=hP▸ao
  show SW C (Code.seq _ (Code.seq (Code.seq _ (Code.cond _ _ _)) jO)) _ _
  obtain⟨MD,hMD⟩:∃c,c=jO:=⟨_,rfl⟩
  rw[←hMD]
  obtain⟨M,hM⟩:∃M,M=wS2 V a p w:=⟨_,rfl⟩
  have hMl:M.length=V.length:=by rw[hM,am]
  have la:=hc.two.la
  have lp:=hc.two.lb
  have d1:((0:Int)==0)=true:=rfl
  have hbM:M[b]?=some (.arr 27 2 [eT x]):=by
   have:=bO ba bp hb w []
   rwa [AK,←hM] at this
  have hput:=nZ hbM
  obtain⟨M1,hM1⟩:∃M1,M1=M++[.arr 27 2 [eT x],.arr 27 2 [eT x]]:=⟨_,rfl⟩
  have hM1w:∀w',wS2 M1 a p w'=wS2 V a p w'++[.arr 27 2 [eT x],.arr 27 2 [eT x]]:=fun w'=>by rw[hM1,hM,aT hc.two]
  have hM12:Two M1 a p:=by rw[hM1,hM];exact ca hc.two w _
  have hflat:=pu hM12 hw (id:=M.length+1) (N:=1) (XX:=[eT x]) (by rw[hM1,ak];rfl) (by omega) (by omega) rfl [x] (by simp) rfl (by simp)
  rw[hM1w,←hM,←hM1] at hflat
  rw[←hM1] at hput
  rw[←hM]
  have hM1l:M1.length=V.length+2:=by rw[hM1,AP,hMl];rfl
  obtain⟨w',hp⟩:=hflat.2 hf
  rw[hM1w] at hp
  repeat(first|(refine sB hL hn rfl ?_;simp only[go_sem,seval,d1])|refine sN rfl ?_|refine sC ?_)
  refine sK hP hL hn rfl rfl (hput) rfl rfl rfl rfl ?_;simp (maxSteps:=2000000) only[go_sem,seval]
  refine aa.callp hP (by rw[hn];rfl) (hp) rfl rfl rfl rfl ?_;simp (maxSteps:=2000000) only[go_sem,seval]
  exact hK.pan rfl _ _ _ rfl rfl rfl
 |some q=>
  obtain⟨l,w'⟩:=q
  obtain⟨g1,g2⟩:=uY hw hf
  refine⟨qM w' l,fun _ _ h=>tO g2 (by omega) h,fun V a p t at_ e b hc hb ba bp K hK C hP hn=>?_⟩
  have hL:af C.P L:=hP▸ae
  have hm:C.P.follows .mixedOrders=true:=hP▸ao
  show SW C (Code.seq _ (Code.seq (Code.seq _ (Code.cond _ _ _)) jO)) _ _
  obtain⟨MD,hMD⟩:∃c,c=jO:=⟨_,rfl⟩
  rw[←hMD]
  obtain⟨M,hM⟩:∃M,M=wS2 V a p w:=⟨_,rfl⟩
  have hMl:M.length=V.length:=by rw[hM,am]
  have la:=hc.two.la
  have lp:=hc.two.lb
  have d1:((0:Int)==0)=true:=rfl
  have hbM:M[b]?=some (.arr 27 2 [eT x]):=by
   have:=bO ba bp hb w []
   rwa [AK,←hM] at this
  have hput:=nZ hbM
  obtain⟨M1,hM1⟩:∃M1,M1=M++[.arr 27 2 [eT x],.arr 27 2 [eT x]]:=⟨_,rfl⟩
  have hM1w:∀w',wS2 M1 a p w'=wS2 V a p w'++[.arr 27 2 [eT x],.arr 27 2 [eT x]]:=fun w'=>by rw[hM1,hM,aT hc.two]
  have hM12:Two M1 a p:=by rw[hM1,hM];exact ca hc.two w _
  have hflat:=pu hM12 hw (id:=M.length+1) (N:=1) (XX:=[eT x]) (by rw[hM1,ak];rfl) (by omega) (by omega) rfl [x] (by simp) rfl (by simp)
  rw[hM1w,←hM,←hM1] at hflat
  rw[←hM1] at hput
  rw[←hM]
  have hM1l:M1.length=V.length+2:=by rw[hM1,AP,hMl];rfl
  have hmid:=fun(T:List Ob) (J r:Nat)=>tu hc hK C hP hn (T:=T) (J:=J) (r:=r) (w:=w') (l:=l) g2
  rw[←hMD] at hmid
  have hq:=hflat.1 l w' hf
  rw[fM (by omega),fL (by omega),hM1w,AR] at hq
  repeat(first|(refine sB hL hn rfl ?_;simp only[go_sem,seval,d1])|refine sN rfl ?_|refine sC ?_)
  refine sK hP hL hn rfl rfl (hput) rfl rfl rfl rfl ?_;simp (maxSteps:=2000000) only[go_sem,seval]
  refine sK hP hL hn rfl rfl (hq) rfl rfl rfl rfl ?_;simp (maxSteps:=2000000) only[go_sem,seval]
  repeat(first|(refine sB hL hn rfl ?_;simp only[go_sem,seval])|refine sN rfl ?_|refine sC ?_)
  refine SW.keep [(8,.ptr t 1 0 0),(9,.ptr at_ 1 0 0),(10,.ptr e 1 0 0),(11,.ptr a 1 0 0),(12,.sl M1.length l.length 0 l.length)] (by exact⟨rfl,rfl,rfl,rfl,rfl,trivial⟩) ?_
  refine hmid _ M1.length 0 ?_ (by omega) (by omega) (by omega) (by omega) rfl
  rw[hM1l,←am (σ:=V) (a:=a) (p:=p) w',ak];rfl
theorem vN (x:It){w:Wr} (hw:w.ok){root:Int} (h0:root≠0){d:Nat} (hv:iL w.ps d root):∃R,(∀w' q,R=some (w',q)→w'.ok)∧xu x w root R:=by
 have d1:(root==0)=false:=by simpa using h0
 have hbd:bf L 91 [(0,.int .i64 root)]=some (.agg [.int .i64 root,.int .u64 0]):=rfl
 rcases oC (ps0:=w.ps) x.1 x d (root,0) w hv hw (cM.refl _) with⟨l,th,r,w',a1,a2,a3,hw',_,hrec⟩|hpan
 ·refine⟨qM w' l,fun _ _ h=>tO hw' ⟨a1,a2⟩ h,fun V a p t at_ e b hc hb ba bp K hK C hP hn=>?_⟩
  have hmid:=fun(T:List Ob) (J r:Nat)=>tu hc hK C hP hn (T:=T) (J:=J) (r:=r) (w:=w') (l:=l) hw'
  have hL:af C.P L:=hP▸ae
  have hm:C.P.follows .mixedOrders=true:=hP▸ao
  show SW C (Code.seq _ (Code.seq (Code.seq _ (Code.cond _ _ _)) jO)) _ _
  obtain⟨MD,hMD⟩:∃c,c=jO:=⟨_,rfl⟩
  rw[←hMD]
  obtain⟨M,hM⟩:∃M,M=wS2 V a p w:=⟨_,rfl⟩
  have hMl:M.length=V.length:=by rw[hM,am]
  have la:=hc.two.la
  have lp:=hc.two.lb
  rw[←hMD] at hmid
  have hq:=hrec V a p b ⟨hc.two,hb,ba,bp⟩
  unfold ns ePt at hq
  rw[←hM] at hq⊢
  repeat(first|(refine sB hL hn rfl ?_;simp only[go_sem,seval,d1,hbd])|refine sN rfl ?_|refine sC ?_)
  refine sK hP hL hn rfl rfl (hq) rfl rfl rfl rfl ?_;simp (maxSteps:=2000000) only[go_sem,seval]
  repeat(first|(refine sB hL hn rfl ?_;simp only[go_sem,seval])|refine sN rfl ?_|refine sC ?_)
  refine SW.keep [(8,.ptr t 1 0 0),(9,.ptr at_ 1 0 0),(10,.ptr e 1 0 0),(11,.ptr a 1 0 0),(12,.sl V.length (l.length+r) 0 l.length)] (by exact⟨rfl,rfl,rfl,rfl,rfl,trivial⟩) ?_
  refine hmid _ V.length r ?_ (by omega) (by omega) (by omega) (by omega) rfl
  rw[←am (σ:=V) (a:=a) (p:=p) w',aL];rfl
 ·refine⟨none,fun _ _ h=>(by cases h),fun V a p t at_ e b hc hb ba bp K hK C hP hn=>?_⟩
  have hL:af C.P L:=hP▸ae
  have hm:C.P.follows .mixedOrders=true:=hP▸ao
  show SW C (Code.seq _ (Code.seq (Code.seq _ (Code.cond _ _ _)) jO)) _ _
  obtain⟨MD,hMD⟩:∃c,c=jO:=⟨_,rfl⟩
  rw[←hMD]
  obtain⟨M,hM⟩:∃M,M=wS2 V a p w:=⟨_,rfl⟩
  have hMl:M.length=V.length:=by rw[hM,am]
  have la:=hc.two.la
  have lp:=hc.two.lb
  obtain⟨w',hp⟩:=hpan V a p b ⟨hc.two,hb,ba,bp⟩
  unfold ns ePt at hp
  rw[←hM] at hp⊢
  repeat(first|(refine sB hL hn rfl ?_;simp only[go_sem,seval,d1,hbd])|refine sN rfl ?_|refine sC ?_)
  refine aa.callp hP (by rw[hn];rfl) (hp) rfl rfl rfl rfl ?_;simp (maxSteps:=2000000) only[go_sem,seval]
  have:=fun env=>hK.pan rfl env w' []
  simp only[AK] at this
  exact this _ rfl rfl rfl
theorem xD (x:It){w:Wr} (hw:w.ok){root:Int} (hr:root=0∨∃d,iL w.ps d root):∃R,(∀w' q,R=some (w',q)→w'.ok)∧xu x w root R:=by
 by_cases h0:root=0
 ·subst h0;exact vM x hw
 ·obtain⟨d,hv⟩:=hr.resolve_left h0
  exact vN x hw h0 hv
section
def nu (n:Nat) (R:Option (Wr×Int)):DV:=match R with
 |some (w,q)=>.tup [.agg [.sl n w.ps.length 0 w.ps.length],.int .i64 q,.int .i64 0]
 |none=>.tup [.agg [.nils],.int .i64 0,.int .i64 51]
def l9 (R:Option (Wr×Int)):List Ob:=match R with
 |some (w,_)=> [wrP w.ps]
 |none=> []
section
variable{σ:List Ob}{G:List Ob}{a p:Nat}{K:XE→St→Prop}
theorem nM{R:Option (Wr×Int)}{S:Ob}{H:Wr→List Ob}{ip:Nat} (hHp:∀w,(H w)[ip]?=some (wrP w.ps)){V:List Ob} (hH:∀w,wS2 V a p w=σ++(S::.arr 29 1 [.agg [.nils]]::.arr 3 1 [.int .i64 0]::.arr 31 1 [.int .i64 0]::H w)) (hp:p=σ.length+(ip+4)):
  TrnK V a p (σ.length+1) (σ.length+2) (σ.length+3) (pM Try.prog L Try.f23.results.toList 35 [.ptr (σ.length+3) 1 0 0,.ptr (σ.length+1) 1 0 0,.ptr (σ.length+2) 1 0 0] (Tid σ 0 fun o O=>o=.ret (nu σ.length R)∧O=σ++l9 R)) R:=by
 constructor
 ·rintro w q rfl env T h8 h9 h10
  have hf:((wS2 V a p w++T).set (σ.length+2) (.arr 3 1 [.int .i64 q])).set (σ.length+1) (.arr 29 1 [.agg [.sl p w.ps.length 0 w.ps.length]])=σ++(S::.arr 29 1 [.agg [.sl p w.ps.length 0 w.ps.length]]::.arr 3 1 [.int .i64 q]::.arr 31 1 [.int .i64 0]::(H w++T)):=by
   rw[hH,AR,ay,ay];rfl
  rw[hf]
  refine⟨_,_,_,rfl,rS (σ.length+3) (σ.length+1) (σ.length+2) _,.inl ⟨rfl,.tup [.agg [.sl p w.ps.length 0 w.ps.length],.int .i64 q,.int .i64 0],?_,?_⟩⟩
  ·show aF L ⟨env,_⟩ [.cell 8 29,.cell 9 3,.cell 10 31]=_
   have j1:=ak σ (S::.arr 29 1 [.agg [.sl p w.ps.length 0 w.ps.length]]::.arr 3 1 [.int .i64 q]::.arr 31 1 [.int .i64 0]::(H w++T)) 1
   have j2:=ak σ (S::.arr 29 1 [.agg [.sl p w.ps.length 0 w.ps.length]]::.arr 3 1 [.int .i64 q]::.arr 31 1 [.int .i64 0]::(H w++T)) 2
   have j3:=ak σ (S::.arr 29 1 [.agg [.sl p w.ps.length 0 w.ps.length]]::.arr 3 1 [.int .i64 q]::.arr 31 1 [.int .i64 0]::(H w++T)) 3
   simp only[BH,AY] at j1 j2 j3
   simp only[aF,cA,aV,h8,h9,h10,go_sem,j1,j2,j3]
   rfl
  ·refine Tid.own (id:=ip+4) (t:=67) (k:=1) (xs:=w.ps.map ePg) ?_ (fun z hz=>?_) ?_ ⟨rfl,rfl⟩
   ·show(H w++T)[ip]?=_
    rw[AJ (AH.1 (hHp w)).1,hHp];rfl
   ·obtain⟨y,_,rfl⟩:=Ba.1 hz
    exact aW _ y.1 y.2
   ·refine .tup rfl fun i x y hx hy=>?_
    match i,hx,hy with
    |0,hx,hy=>
     cases hx;cases hy
     refine .agg rfl fun i x y hx hy=>?_
     match i,hx,hy with
     |0,hx,hy=>cases hx;cases hy;exact .own (by rw[hp])
     |i+1,hx,_=>simp at hx
    |1,hx,hy=>cases hx;cases hy;exact .low ((ax _ _).2 trivial)
    |2,hx,hy=>cases hx;cases hy;exact .low ((ax _ _).2 trivial)
    |i+3,hx,_=>simp at hx
 ·rintro rfl env w T h8 h9 h10
  rw[hH,AR]
  refine⟨_,_,_,rfl,rT 51 (σ.length+3) (σ.length+1) (σ.length+2) 0 0 .nils _ (by rw[ak];rfl) (by rw[ak];rfl) (by rw[ak];rfl) (by omega) (by omega) (by omega),.inl ⟨rfl,.tup [.agg [.nils],.int .i64 0,.int .i64 51],?_,?_⟩⟩
  ·rw[ay,ay,ay]
   show aF L ⟨env,_⟩ [.cell 8 29,.cell 9 3,.cell 10 31]=_
   have j1:=ak σ (S::.arr 29 1 [.agg [.nils]]::.arr 3 1 [.int .i64 0]::.arr 31 1 [.int .i64 51]::(H w++T)) 1
   have j2:=ak σ (S::.arr 29 1 [.agg [.nils]]::.arr 3 1 [.int .i64 0]::.arr 31 1 [.int .i64 51]::(H w++T)) 2
   have j3:=ak σ (S::.arr 29 1 [.agg [.nils]]::.arr 3 1 [.int .i64 0]::.arr 31 1 [.int .i64 51]::(H w++T)) 3
   simp only[BH,AY] at j1 j2 j3
   simp only[Bq,List.set_cons_succ,Dj]
   simp only[aF,cA,aV,h8,h9,h10,go_sem,j1,j2,j3]
   rfl
  ·rw[ay,ay,ay]
   exact Tid.none (.low (by simp[eh,aH,ax,fQ])) ⟨rfl,by simp[l9]⟩
end
theorem pK (σ G:List Ob) (i j:Nat) (x y:Ob):s2 (σ++G) (σ.length+i) (σ.length+j) x y=σ++s2 G i j x y:=by
 unfold s2;rw[ay,ay]
theorem um (c:Nat){ps:List Pg} (h0:0<ps.length) (hb9:∀p∈ps,p.2.length≤134217728) (hl:ps.length≤2048){σ:List Ob}{b:Nat}{x:It} (hb:σ[b]?=some (.arr 27 2 [eT x])){root:Int}{R:Option (Wr×Int)} (hT:xu x ⟨ps.map pg0,0⟩ root R):
  Ok Try.prog 23 [.agg [pgsD c ps],.int .i64 root,.int .u64 x.1,.fn 24 [.ptr b 1 0 0]] σ (.ret (nu σ.length R)) (σ++l9 R):=by
 have hcl:=xi c ps h0 (by omega) hb9
 unfold pgsD at hcl⊢
 obtain⟨X,hX⟩:∃X,X=ps.map ePg:=⟨_,rfl⟩
 rw[←hX] at hcl⊢
 obtain⟨N,hN⟩:∃N,N=ps.length:=⟨_,rfl⟩
 rw[←hN] at hcl
 obtain⟨P,hPP⟩:∃P,P=(ps.map pg0).map ePg:=⟨_,rfl⟩
 rw[←hPP] at hcl
 have hbl:=(AH.1 hb).1
 refine(OkE.tidy (c:=0) (R:=fun o O=>o=.ret (nu σ.length R)∧O=σ++l9 R) ?_).ok fun o O h=>h
 obtain⟨n,hnl⟩:∃n,n=σ.length:=⟨_,rfl⟩
 obtain⟨x1,x2⟩:=x
 obtain⟨V,hV⟩:∃V,V=σ++[.arr 29 1 [.agg [.vec c 1 X]],.arr 29 1 [.agg [.nils]],.arr 3 1 [.int .i64 0],.arr 31 1 [.int .i64 0],.arr 67 1 P,.arr 85 2 [.agg [.sl (n+4) N 0 N,.int .i64 0]]]:=⟨_,rfl⟩
 have hVl:V.length=n+6:=by rw[hV,hnl];simp
 have hc:Cells V (n+5) (n+4) (n+1) (n+2) (n+3):=⟨⟨by omega,by omega,by omega⟩,by rw[hV,hnl,ak];rfl,by rw[hV,hnl,ak];rfl,by rw[hV,hnl,ak];rfl,by omega,by omega,by omega,by omega,by omega,by omega,by omega,by omega,by omega⟩
 have hbV:V[b]?=some (.arr 27 2 [eT (x1,x2)]):=by rw[hV,AJ hbl];exact hb
 have hw:wS2 V (n+5) (n+4) ⟨ps.map pg0,0⟩=V:=by
  unfold wS2 wrS
  rw[hV,hnl,pK]
  simp only[wrO,wrP,←hPP,AN,←hN]
  rfl
 have hK:=nM (σ:=σ) (R:=R) (a:=n+5) (p:=n+4) (V:=V) (ip:=0) (S:=.arr 29 1 [.agg [.vec c 1 X]]) (H:=fun w=> [wrP w.ps,wrO (n+4) w.ps w.n]) (fun w=>rfl) (fun w=>by
  unfold wS2 wrS
  rw[hV,hnl,pK];rfl) (by omega)
 rw[←hnl] at hK
 have hall:=hT V (n+5) (n+4) (n+1) (n+2) (n+3) b hc hbV (by omega) (by omega) _ hK
 rw[hw] at hall
 refine OkE.of_defer (g:=35) (caps:=[.ptr (n+3) 1 0 0,.ptr (n+1) 1 0 0,.ptr (n+2) 1 0 0]) ae Try.func23 rfl (by decide) (by simp[Try.ntmps23]) fun C hP hn hrd hσ hfix=>?_
 rw[show Try.f23.ntmps=51 from rfl] at hn
 obtain⟨F,hF⟩:∃F,F=DV.fn 24 [.ptr b 1 0 0]:=⟨_,rfl⟩
 refine SWd.seq (s1:=⟨[(1,.int .i64 root),(2,.int .u64 x1),(3,F),(4,.ptr n 1 0 0),(8,.ptr (n+1) 1 0 0),(9,.ptr (n+2) 1 0 0),(10,.ptr (n+3) 1 0 0)],σ++[.arr 29 1 [.agg [.vec c 1 X]],.arr 29 1 [.agg [.nils]],.arr 3 1 [.int .i64 0],.arr 31 1 [.int .i64 0]]⟩) (d1:=[]) ?_ ?_
 ·rw[←hF]
  skip
  refine aJ.part hP hn (fun d h=>by cases h) fun C hP hn=>?_
  have hL:af C.P L:=hP▸ae
  have hm:C.P.follows .mixedOrders=true:=hP▸ao
  repeat(first|(refine sB hL hn rfl ?_;simp only[go_sem,seval])|refine sN rfl ?_|refine sC ?_)
  exact⟨rfl,.of rfl (by simp[aC,lk,hnl])⟩
 refine SWd.seq (s1:=⟨[(1,.int .i64 root),(2,.int .u64 x1),(3,F),(4,.ptr n 1 0 0),(8,.ptr (n+1) 1 0 0),(9,.ptr (n+2) 1 0 0),(10,.ptr (n+3) 1 0 0)],σ++[.arr 29 1 [.agg [.vec c 1 X]],.arr 29 1 [.agg [.nils]],.arr 3 1 [.int .i64 0],.arr 31 1 [.int .i64 0]]⟩) (d1:=[.fn 35 [.ptr (n+3) 1 0 0,.ptr (n+1) 1 0 0,.ptr (n+2) 1 0 0]]) ?_ ?_
 ·refine aJ.region ?_
  refine bC.op rfl (by rw[hn];decide) (bK.op (hP▸ae) rfl) ?_
  refine bC.defer hrd rfl (by rw[hn];decide) rfl rfl rfl ?_
  rintro a w ⟨F,μ,h⟩
  exact⟨rfl,F,μ,h.weak (Weak.of_agree rfl ⟨rfl,rfl,rfl,rfl,rfl,rfl,rfl,trivial⟩)⟩
 refine SWd.end ?_
 obtain⟨C',hC'⟩:∃C',C'=C.at [.fn 35 [.ptr (n+3) 1 0 0,.ptr (n+1) 1 0 0,.ptr (n+2) 1 0 0]]:=⟨_,rfl⟩
 rw[←hC']
 replace hP:C'.P=Try.prog:=by rw[hC'];exact hP
 replace hn:C'.n=51:=by rw[hC'];exact hn
 clear hC' hσ hrd
 have hL:af C'.P L:=hP▸ae
 have hm:C'.P.follows .mixedOrders=true:=hP▸ao
 replace hall:=hall C' hP hn
 rw[←hF] at hall
 show SW C' (Code.seq _ p4) _ _
 obtain⟨AL,hAL⟩:∃c,c=p4:=⟨_,rfl⟩
 rw[←hAL] at hall⊢
 have so0:∀(T:List Ob),(σ++T)[n]?=T[0]?:=fun T=>by rw[hnl];exact aL _ _
 have lT:∀(T:List Ob),(σ++T).length=n+T.length:=fun T=>by rw[AP,hnl]
 have hcl':=hcl (σ++[.arr 29 1 [.agg [.vec c 1 X]],.arr 29 1 [.agg [.nils]],.arr 3 1 [.int .i64 0],.arr 31 1 [.int .i64 0]])
 rw[lT] at hcl'
 simp only[A5,Bj,Bc,Dg,AR,Bq,Be] at hcl'
 have hbd:∀k:Nat,bf L 85 [(0,.agg [.sl k N 0 N])]=some (.agg [.sl k N 0 N,.int .i64 0]):=fun k=>rfl
 repeat(first|(refine sB hL hn rfl ?_;simp only[go_sem,seval,so0])|refine sN rfl ?_|refine sC ?_)
 refine sK hP hL hn rfl rfl (hcl') rfl rfl rfl rfl ?_;simp (maxSteps:=2000000) only[go_sem,seval,hbd,lT,A5,Bj,Bc,Dg]
 refine aa.nil ?_
 simp only[ap]
 refine SW.keep [(1,.int .i64 root),(2,.int .u64 x1),(3,F),(8,.ptr (n+1) 1 0 0),(9,.ptr (n+2) 1 0 0),(10,.ptr (n+3) 1 0 0),(11,.ptr (n+5) 1 0 0)] (by exact⟨rfl,rfl,rfl,rfl,rfl,rfl,rfl,trivial⟩) ?_
 rw[←hV,←hnl]
 exact hall
end
theorem rR{σ:List Ob}{b:Nat}{x:It} (hb:σ[b]?=some (.arr 27 2 [eT x])){root:Int}{R:Option (Wr×Int)} (hT:xu x ⟨[],0⟩ root R):
  Ok Try.prog 23 [.agg [.nils],.int .i64 root,.int .u64 x.1,.fn 24 [.ptr b 1 0 0]] σ (.ret (nu σ.length R)) (σ++l9 R):=by
 have hcl:=ve
 have hbl:=(AH.1 hb).1
 refine(OkE.tidy (c:=0) (R:=fun o O=>o=.ret (nu σ.length R)∧O=σ++l9 R) ?_).ok fun o O h=>h
 obtain⟨n,hnl⟩:∃n,n=σ.length:=⟨_,rfl⟩
 obtain⟨x1,x2⟩:=x
 obtain⟨V,hV⟩:∃V,V=σ++[.arr 29 1 [.agg [.nils]],.arr 29 1 [.agg [.nils]],.arr 3 1 [.int .i64 0],.arr 31 1 [.int .i64 0],.arr 29 1 [.agg [.nils]],.arr 29 1 [.agg [.nils]],.arr 85 2 [.agg [.sl (n+7) 0 0 0,.int .i64 0]],.arr 67 1 []]:=⟨_,rfl⟩
 have hVl:V.length=n+8:=by rw[hV,hnl];simp
 have hc:Cells V (n+6) (n+7) (n+1) (n+2) (n+3):=⟨⟨by omega,by omega,by omega⟩,by rw[hV,hnl,ak];rfl,by rw[hV,hnl,ak];rfl,by rw[hV,hnl,ak];rfl,by omega,by omega,by omega,by omega,by omega,by omega,by omega,by omega,by omega⟩
 have hbV:V[b]?=some (.arr 27 2 [eT (x1,x2)]):=by rw[hV,AJ hbl];exact hb
 have hw:wS2 V (n+6) (n+7) ⟨[],0⟩=V:=by
  unfold wS2 wrS
  rw[hV,hnl,pK]
  rfl
 have hK:=nM (σ:=σ) (R:=R) (a:=n+6) (p:=n+7) (V:=V) (ip:=3) (S:=.arr 29 1 [.agg [.nils]]) (H:=fun w=> [.arr 29 1 [.agg [.nils]],.arr 29 1 [.agg [.nils]],wrO (n+7) w.ps w.n,wrP w.ps]) (fun w=>rfl) (fun w=>by
  unfold wS2 wrS
  rw[hV,hnl,pK];rfl) (by omega)
 rw[←hnl] at hK
 have hall:=hT V (n+6) (n+7) (n+1) (n+2) (n+3) b hc hbV (by omega) (by omega) _ hK
 rw[hw] at hall
 refine OkE.of_defer (g:=35) (caps:=[.ptr (n+3) 1 0 0,.ptr (n+1) 1 0 0,.ptr (n+2) 1 0 0]) ae Try.func23 rfl (by decide) (by simp[Try.ntmps23]) fun C hP hn hrd hσ hfix=>?_
 rw[show Try.f23.ntmps=51 from rfl] at hn
 obtain⟨F,hF⟩:∃F,F=DV.fn 24 [.ptr b 1 0 0]:=⟨_,rfl⟩
 refine SWd.seq (s1:=⟨[(1,.int .i64 root),(2,.int .u64 x1),(3,F),(4,.ptr n 1 0 0),(8,.ptr (n+1) 1 0 0),(9,.ptr (n+2) 1 0 0),(10,.ptr (n+3) 1 0 0)],σ++[.arr 29 1 [.agg [.nils]],.arr 29 1 [.agg [.nils]],.arr 3 1 [.int .i64 0],.arr 31 1 [.int .i64 0]]⟩) (d1:=[]) ?_ ?_
 ·rw[←hF]
  skip
  refine aJ.part hP hn (fun d h=>by cases h) fun C hP hn=>?_
  have hL:af C.P L:=hP▸ae
  have hm:C.P.follows .mixedOrders=true:=hP▸ao
  repeat(first|(refine sB hL hn rfl ?_;simp only[go_sem,seval])|refine sN rfl ?_|refine sC ?_)
  exact⟨rfl,.of rfl (by simp[aC,lk,hnl])⟩
 refine SWd.seq (s1:=⟨[(1,.int .i64 root),(2,.int .u64 x1),(3,F),(4,.ptr n 1 0 0),(8,.ptr (n+1) 1 0 0),(9,.ptr (n+2) 1 0 0),(10,.ptr (n+3) 1 0 0)],σ++[.arr 29 1 [.agg [.nils]],.arr 29 1 [.agg [.nils]],.arr 3 1 [.int .i64 0],.arr 31 1 [.int .i64 0]]⟩) (d1:=[.fn 35 [.ptr (n+3) 1 0 0,.ptr (n+1) 1 0 0,.ptr (n+2) 1 0 0]]) ?_ ?_
 ·refine aJ.region ?_
  refine bC.op rfl (by rw[hn];decide) (bK.op (hP▸ae) rfl) ?_
  refine bC.defer hrd rfl (by rw[hn];decide) rfl rfl rfl ?_
  rintro a w ⟨F,μ,h⟩
  exact⟨rfl,F,μ,h.weak (Weak.of_agree rfl ⟨rfl,rfl,rfl,rfl,rfl,rfl,rfl,trivial⟩)⟩
 refine SWd.end ?_
 obtain⟨C',hC'⟩:∃C',C'=C.at [.fn 35 [.ptr (n+3) 1 0 0,.ptr (n+1) 1 0 0,.ptr (n+2) 1 0 0]]:=⟨_,rfl⟩
 rw[←hC']
 replace hP:C'.P=Try.prog:=by rw[hC'];exact hP
 replace hn:C'.n=51:=by rw[hC'];exact hn
 clear hC' hσ hrd
 have hL:af C'.P L:=hP▸ae
 have hm:C'.P.follows .mixedOrders=true:=hP▸ao
 replace hall:=hall C' hP hn
 rw[←hF] at hall
 show SW C' (Code.seq _ p4) _ _
 obtain⟨AL,hAL⟩:∃c,c=p4:=⟨_,rfl⟩
 rw[←hAL] at hall⊢
 have so0:∀(T:List Ob),(σ++T)[n]?=T[0]?:=fun T=>by rw[hnl];exact aL _ _
 have lT:∀(T:List Ob),(σ++T).length=n+T.length:=fun T=>by rw[AP,hnl]
 have hcl':=hcl (σ++[.arr 29 1 [.agg [.nils]],.arr 29 1 [.agg [.nils]],.arr 3 1 [.int .i64 0],.arr 31 1 [.int .i64 0]])
 simp only[AR,Bq,Be] at hcl'
 have hbd:bf L 85 [(0,.agg [.nils])]=some (.agg [.nils,.int .i64 0]):=rfl
 repeat(first|(refine sB hL hn rfl ?_;simp only[go_sem,seval,so0])|refine sN rfl ?_|refine sC ?_)
 refine sK hP hL hn rfl rfl (hcl') rfl rfl rfl rfl ?_;simp (maxSteps:=2000000) only[go_sem,seval,hbd,lT,A5,Bj,Bc,Dg]
 refine aa.nil ?_
 simp only[ap]
 refine SW.ghost (ai.trans (ai.newNilIn (n+6) 0 67 1 (t:=85) (k:=2) (cs:=[.nils,.int .i64 0]) (by rw[hnl,ak];rfl) rfl) (.of (l:=[(1,.int .i64 root),(2,.int .u64 x1),(3,F),(8,.ptr (n+1) 1 0 0),(9,.ptr (n+2) 1 0 0),(10,.ptr (n+3) 1 0 0),(11,.ptr (n+6) 1 0 0)]) (ob':=V) ?_ ?_)) ?_
 ·rw[hV,hnl,ay,AR]
  simp
 ·simp[aC,lk,hnl]
 rw[←hnl]
 exact hall
theorem gS (ps:List Pg) (at_:Int):ef (ps.map pg0) at_=ef ps at_:=by
 unfold ef
 rw[AQ]
 cases ps[(at_-1).toNat]?<;>rfl
theorem iL.pg0{ps:List Pg}:∀{h:Nat}{at_:Int},iL ps h at_→iL (ps.map pg0) h at_
 |0,_,v=>v
 |1,at_,v=>by
  obtain⟨⟨a,b,c⟩,d⟩:=v
  refine⟨⟨a,by rw[AN];exact b,by rw[gS];exact c⟩,?_⟩
  unfold bD at d⊢
  rw[gS];exact d
 |h+2,at_,v=>by
  obtain⟨⟨a,b,c⟩,d,e⟩:=v
  have hk:bD (ps.map Go.VL.pg0) at_=bD ps at_:=by unfold bD;rw[gS]
  refine⟨⟨a,by rw[AN];exact b,by rw[gS];exact c⟩,by rw[hk];exact d,fun k hk'=>?_⟩
  rw[hk] at hk'
  exact iL.pg0 (e k hk')
def o6 (ps:List Pg) (q e:Int):DV:=.tup [.agg [.vec 0 1 (ps.map ePg)],.int .i64 q,.int .i64 e]
theorem sW{O:List Ob}{d:DV}{ps:List Pg}{q e:Int} (h:Fz O 0 d (.vec 0 1 (ps.map ePg))):Fz O 0 (.tup [.agg [d],.int .i64 q,.int .i64 e]) (o6 ps q e):=by
 refine .tup rfl fun i x y hx hy=>?_
 match i,hx,hy with
 |0,hx,hy=>
  cases hx;cases hy
  refine .agg rfl fun i x y hx hy=>?_
  match i,hx,hy with
  |0,hx,hy=>cases hx;cases hy;exact h
  |i+1,hx,_=>simp at hx
 |1,hx,hy=>cases hx;cases hy;exact .int
 |2,hx,hy=>cases hx;cases hy;exact .int
 |i+3,hx,_=>simp at hx
def stD (c:Nat) (ps:List Pg):DV:=if ps=[] then .agg [.nils] else .agg [pgsD c ps]
theorem vg (root:Int) (σ:List Ob):Ok Try.prog 20 [.agg [.nils],.int .i64 root] σ (.ret (.int .i64 (bT [] root).2)) σ:=by
 refine Ok.lendF (c:=1) (rA 1 [] root []) rfl (fun i x y hx hy=>?_) .int
 match i,hx,hy with
 |0,hx,hy=>
  cases hx;cases hy
  refine .agg rfl fun i x y hx hy=>?_
  match i,hx,hy with
  |0,hx,hy=>cases hx;cases hy;exact .nil
  |i+1,hx,_=>simp at hx
 |1,hx,hy=>cases hx;cases hy;exact .int
 |i+2,hx,_=>simp at hx
theorem my{S:DV}{root:Int}{x:It}{e:Int} (hS:∀n,Low n S) (hagg:∃l,S=.agg [l]) (hck:∀σ,Ok Try.prog 20 [S,.int .i64 root] σ (.ret (.int .i64 e)) σ){R:Option (Wr×Int)}
  (htr:e=0→∀σ b,σ[b]?=some (.arr 27 2 [eT x])→Ok Try.prog 23 [S,.int .i64 root,.int .u64 x.1,.fn 24 [.ptr b 1 0 0]] σ (.ret (nu σ.length R)) (σ++l9 R)) (σ:List Ob):
  (e≠0→Ok Try.prog 7 [S,.int .i64 root,eT x] σ (.ret (o6 [] 0 e)) σ)∧
  (e=0→R=none→Ok Try.prog 7 [S,.int .i64 root,eT x] σ (.ret (o6 [] 0 51)) σ)∧
  (∀w q,e=0→R=some (w,q)→Ok Try.prog 7 [S,.int .i64 root,eT x] σ (.ret (o6 w.ps q 0)) σ):=by
 obtain⟨x1,x2⟩:=x
 obtain⟨l,hl⟩:=hagg
 have hS0:=hS 0
 have harg:∀z∈ [S,.int .i64 root,eT (x1,x2)],Low 0 z:=by
  intro z hz
  simp only[Bh,Bw,or_false] at hz
  rcases hz with rfl|rfl|rfl
  ·exact hS0
  ·exact(ax _ _).2 trivial
  ·exact cD 0 _
 have htr1:e=0→Ok Try.prog 23 [.agg [l],.int .i64 root,.int .u64 x1,.fn 24 [.ptr 1 1 0 0]] [.arr 29 1 [.agg [l]],.arr 27 2 [.agg [.int .u64 x1,.int .u64 x2]],.arr 29 1 [.agg [.nils]]] (.ret (nu 3 R)) ([.arr 29 1 [.agg [l]],.arr 27 2 [.agg [.int .u64 x1,.int .u64 x2]],.arr 29 1 [.agg [.nils]]]++l9 R):=fun he=>by
  rw[←hl]
  exact htr he _ 1 rfl
 have t0:Ce 0=0:=rfl
 have hbd:bf L 29 []=some (.agg [.nils]):=rfl
 refine⟨fun he=>?_,fun he hR=>?_,fun w q he hR=>?_⟩
 ·refine Ok.thaw (c:=0) (O:=[.arr 29 1 [S],.arr 27 2 [eT (x1,x2)],.arr 29 1 [.agg [.nils]]]) (d:=.tup [.agg [.nils],.int .i64 0,.int .i64 e]) ?_ (sW .nil) harg σ
  have d1:(e !=0)=true:=by simpa using he
  subst hl
  unfold eT
  refine Ok.of_body ae Try.func7 rfl (by decide) (by simp[Try.ntmps7]) fun C hP hn hσ hfix hdd=>?_
  rw[show Try.f7.ntmps=26 from rfl] at hn
  have hL:af C.P L:=hP▸ae
  have hm:C.P.follows .mixedOrders=true:=hP▸ao
  repeat(first|(refine sB hL hn rfl ?_;simp only[go_sem,seval])|refine sN rfl ?_|refine sC ?_)
  refine sK hP hL hn rfl rfl (hck _) rfl rfl rfl rfl ?_;simp (maxSteps:=2000000) only[go_sem,seval]
  repeat(first|(refine sB hL hn rfl ?_;simp only[go_sem,seval,d1,hbd])|refine sN rfl ?_|refine sC ?_)
  refine⟨_,(.tup [.agg [.nils],.int .i64 0,.int .i64 e]),_,ai.refl _ _,?_,ag.refl _ _ _,rfl⟩
  show aF L _ [Go.ResultVar.cell 6 29,Go.ResultVar.tmp 7,Go.ResultVar.tmp 8]=_
  simp only[aF,cA,aV,go_sem,seval]
 ·have htr2:=htr1 he
  rw[hR] at htr2
  simp only[nu,l9,AK] at htr2
  refine Ok.thaw (c:=0) (O:=[.arr 29 1 [S],.arr 27 2 [eT (x1,x2)],.arr 29 1 [.agg [.nils]]]) (d:=.tup [.agg [.nils],.int .i64 0,.int .i64 51]) ?_ (sW .nil) harg σ
  have d1:(e !=0)=false:=by simpa using he
  subst hl
  unfold eT
  refine Ok.of_body ae Try.func7 rfl (by decide) (by simp[Try.ntmps7]) fun C hP hn hσ hfix hdd=>?_
  rw[show Try.f7.ntmps=26 from rfl] at hn
  have hL:af C.P L:=hP▸ae
  have hm:C.P.follows .mixedOrders=true:=hP▸ao
  repeat(first|(refine sB hL hn rfl ?_;simp only[go_sem,seval])|refine sN rfl ?_|refine sC ?_)
  refine sK hP hL hn rfl rfl (hck _) rfl rfl rfl rfl ?_;simp (maxSteps:=2000000) only[go_sem,seval]
  repeat(first|(refine sB hL hn rfl ?_;simp only[go_sem,seval,d1])|refine sN rfl ?_|refine sC ?_)
  refine sK hP hL hn rfl rfl (htr2) rfl rfl rfl rfl ?_;simp (maxSteps:=2000000) only[go_sem,seval]
  repeat(first|(refine sB hL hn rfl ?_;simp only[go_sem,seval])|refine sN rfl ?_|refine sC ?_)
  refine⟨_,(.tup [.agg [.nils],.int .i64 0,.int .i64 51]),_,ai.refl _ _,?_,ag.refl _ _ _,rfl⟩
  show aF L _ [Go.ResultVar.cell 6 29,Go.ResultVar.tmp 7,Go.ResultVar.tmp 8]=_
  simp only[aF,cA,aV,go_sem,seval]
 ·have htr2:=htr1 he
  rw[hR] at htr2
  simp only[nu,l9,Bq,Be] at htr2
  refine Ok.thaw (c:=0) (O:=[.arr 29 1 [S],.arr 27 2 [eT (x1,x2)],.arr 29 1 [.agg [.sl 3 w.ps.length 0 w.ps.length]],wrP w.ps]) (d:=.tup [.agg [.sl 3 w.ps.length 0 w.ps.length],.int .i64 q,.int .i64 0]) ?_ (sW (Fz.list ePg (fun p=>aW 0 p.1 p.2) rfl)) harg σ
  have d1:(e !=0)=false:=by simpa using he
  subst hl
  unfold eT
  refine Ok.of_body ae Try.func7 rfl (by decide) (by simp[Try.ntmps7]) fun C hP hn hσ hfix hdd=>?_
  rw[show Try.f7.ntmps=26 from rfl] at hn
  have hL:af C.P L:=hP▸ae
  have hm:C.P.follows .mixedOrders=true:=hP▸ao
  repeat(first|(refine sB hL hn rfl ?_;simp only[go_sem,seval])|refine sN rfl ?_|refine sC ?_)
  refine sK hP hL hn rfl rfl (hck _) rfl rfl rfl rfl ?_;simp (maxSteps:=2000000) only[go_sem,seval]
  repeat(first|(refine sB hL hn rfl ?_;simp only[go_sem,seval,d1])|refine sN rfl ?_|refine sC ?_)
  refine sK hP hL hn rfl rfl (htr2) rfl rfl rfl rfl ?_;simp (maxSteps:=2000000) only[go_sem,seval]
  repeat(first|(refine sB hL hn rfl ?_;simp only[go_sem,seval])|refine sN rfl ?_|refine sC ?_)
  refine⟨_,(.tup [.agg [.sl 3 w.ps.length 0 w.ps.length],.int .i64 q,.int .i64 0]),_,ai.refl _ _,?_,ag.refl _ _ _,rfl⟩
  show aF L _ [Go.ResultVar.cell 6 29,Go.ResultVar.tmp 7,Go.ResultVar.tmp 8]=_
  simp only[aF,cA,aV,go_sem,seval]
end Go.VL
