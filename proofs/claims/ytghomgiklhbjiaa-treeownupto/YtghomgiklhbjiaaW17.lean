/- Proved: TreeOwn: whatever tree, root and item come in (together of bulk at most 1048576), the call returns true and they read as they did; no other condition. This text is part 17 of 18. -/
import Derived.Test.YtghomgiklhbjiaaW16
set_option linter.unusedSimpArgs false
set_option linter.unusedVariables false
set_option maxRecDepth 100000
set_option maxHeartbeats 4000000
open List renaming append_assoc → AR,append_nil → AK,getElem?_append_left → AJ,getElem?_cons_succ → BH,getElem?_eq_some_iff → AH,length_append → AP,length_cons → A5,length_eq_zero_iff → B1,length_nil → Bj,map_map → DW,map_nil → BQ,mem_cons → Bh,not_mem_nil → Bw
open Nat renaming eq_zero_or_pos → B4,reduceAdd → Dg,zero_add → Bc
namespace Go.VL
open Go Go.Proofs
open Nat (reduceAdd reduceEqDiff reduceSub reduceMul reduceLeDiff)
theorem vq:oZ LX FN 100000 5 [] (.bool true)=true:=by kernel_rfl
theorem rJ (σ:List Ob):Ok Try.prog 5 [] σ (.ret (.bool true)) σ:=
 gj jm ao mh vq (by simp) σ
def di3_5:List DI:=[⟨[3],[],false,[0,1],some 27,[]⟩,⟨[27],[0],false,[0,1],some 28,[0]⟩,⟨[1],[],false,[0,1],some 29,[]⟩,⟨[5],[],false,[0,1],some 30,[]⟩,⟨[28,29,30],rg 0 4,false,[0,1],some 31,[1,2,3,1]⟩,⟨[31],rg 0 5,false,[0,1],some 26,[4]⟩,⟨[26],rg 0 6,false,[0,1],some 32,[5]⟩,⟨[26],rg 0 6,false,[0,1,2],some 33,[5]⟩,⟨[26],rg 0 6,false,[0,1,2],some 34,[5]⟩,⟨[],[],true,[],some 11,[]⟩,⟨[11,32],(rg 0 7++[9]),true,[],none,([9,6,4]++rg 0 7++[9])⟩,⟨[33],(rg 0 8++[9,10]),false,[2],some 12,([7,10]++rg 0 8++[9,10])⟩,⟨[34],rg 0 12,false,[2],some 13,([8,11]++rg 0 12)⟩]
theorem uT (m:Nat) (ps:List Pg){σ T:List Ob} (hm:m=σ.length){j:Nat}{p:Pg} (h:ps[j]?=some p):(σ++ll m ps++T)[m+(1+2*j)]?=some (.arr 5 1 (p.2.map eB)):=by
 have hj:=(AH.1 h).1
 subst hm
 rw[AR,ak]
 show(Ob.arr 67 1 (eQ σ.length ps)::(iR σ.length ps++T))[1+2*j]?=_
 rw[Nat.add_comm 1,BH,AJ (by rw[ez];omega)]
 exact uD _ ps h
theorem oM (c:Nat) (ps:List Pg) (h0:0<ps.length) (hps:ps.length≤1048576) (hb:∀p∈ps,p.2.length≤134217728) (root:Int) (x:It):
  ∃O,Ok Try.prog 3 [.agg [pgsD c ps],.int .i64 root,eT x] [] (.ret (.bool true)) O:=by
 obtain⟨ps',q,e,hcol,hput⟩:=mC hb root x
 have hD:=Ay (q:=q) (e:=e) hcol
 have st:∀(f:Pg→Pg) c,(∀p,(f p).2=p.2)→stD c (ps.map f)=.agg [pgsD c (ps.map f)]:=fun f c hf=>by
  unfold stD;rw[if_neg];intro h;simp at h;rw[h] at h0;simp at h0
 have hmap:∀f:Pg→Pg,(∀p,(f p).2=p.2)→(ps.map f).map pg0=ps.map pg0:=fun f hf=>by
  rw[DW];congr 1;funext p;simp[pg0,hf]
 have hput1:=hput (ps.map pg1) (hmap pg1 fun _=>rfl) 1 []
 have hput0:=hput (ps.map mF) (hmap mF fun _=>rfl) 0
 rw[st pg1 1 fun _=>rfl] at hput1
 rw[st mF 0 fun _=>rfl] at hput0
 have hofO:=zF c ps h0 hps hb
 have hof:=of_ok c ps hps hb
 have hsame:=kZ 0 0 ps' ps' rfl
 obtain⟨x1,x2⟩:=x
 have hlend:=fun{σ:List Ob}{m:Nat}=>ya (x:=(x1,x2)) (root:=root) (qs:=ps) (D:=o6 ps' q e) (σ:=σ) (m:=m) hput1 hD
 unfold eT at hput0 hlend⊢
 unfold o6 at hput0 hlend
 obtain⟨A,hA⟩:∃A,A=ps.map ePg:=⟨_,rfl⟩
 obtain⟨B,hB⟩:∃B,B=(ps.map mF).map ePg:=⟨_,rfl⟩
 obtain⟨E,hE⟩:∃E,E=ps'.map ePg:=⟨_,rfl⟩
 obtain⟨N,hN⟩:∃N,N=ps.length:=⟨_,rfl⟩
 obtain⟨M0,hM0⟩:∃M0,M0=[Ob.arr 24 1 [.agg [.vec c 1 A]],.arr 27 2 [.agg [.int .u64 x1,.int .u64 x2]]]++ofG 2 c ps:=⟨_,rfl⟩
 have hofO0:=hofO [Ob.arr 24 1 [.agg [.vec c 1 A]],.arr 27 2 [.agg [.int .u64 x1,.int .u64 x2]]]
 simp only[A5,Bj,Bc,Dg] at hofO0
 rw[←hM0,←hN] at hofO0
 obtain⟨M1,hM1⟩:∃M1,M1=M0++[.arr 29 1 [.agg [.sl 4 N 0 N]]]:=⟨_,rfl⟩
 obtain⟨M2,hM2⟩:∃M2,M2=M1++[.arr 29 1 [.agg [.vec 0 1 E]]]:=⟨_,rfl⟩
 obtain⟨M3,hM3⟩:∃M3,M3=M2++[.arr 29 1 [.agg [.vec 0 1 E]]]:=⟨_,rfl⟩
 have hsplit:∀T,M0++T=([Ob.arr 24 1 [.agg [.vec c 1 A]],.arr 27 2 [.agg [.int .u64 x1,.int .u64 x2]],.arr 24 1 [.agg [pgsD c ps]],.arr 29 1 [.agg [.sl 4 ps.length 0 ps.length]]]++ll 4 ps)++T:=fun T=>by rw[hM0];rfl
 have m4:∀T,(M0++T)[4]?=some (.arr 67 1 (eQ 4 ps)):=fun T=>by rw[hsplit];rfl
 have mr:∀T j p,ps[j]?=some p→(M0++T)[4+(1+2*j)]?=some (.arr 5 1 (p.2.map eB)):=fun T j p h=>by rw[hsplit];exact uT 4 ps rfl h
 have m0:∀T,(M0++T)[0]?=some (.arr 24 1 [.agg [.vec c 1 A]]):=fun T=>by rw[hsplit];rfl
 have m1:∀T,(M0++T)[1]?=some (.arr 27 2 [.agg [.int .u64 x1,.int .u64 x2]]):=fun T=>by rw[hsplit];rfl
 have mM0:M0[0]?=some (.arr 24 1 [.agg [.vec c 1 A]]):=by have:=m0 [];rwa [AK] at this
 have ol:=hlend (σ:=M1) (m:=4) (by rw[hM1];exact m4 _) (by rw[hM1];exact mr _)
 rw[←hN,←hE] at ol
 unfold pgsD at hof hput0 hofO0 hsame⊢
 rw[←hA,←hB] at hof
 rw[←hA] at hofO0⊢
 rw[←hB,←hE] at hput0
 rw[←hE] at hsame
 obtain⟨M4,hM4⟩:∃M4,M4=dU (fun j=>4+(1+2*j)) (fun j=>((ps[j]?).getD (0,[])).2) M3 N:=⟨_,rfl⟩
 have hsp:Ok Try.prog 8 [.sl 4 N 0 N] M3 (.ret (.tup [])) M4:=by
  have:=oP ps 4 M3 (by omega) hb (by rw[hM3,hM2,hM1,AR,AR];exact m4 _) (by rw[hM3,hM2,hM1,AR,AR];exact mr _)
  rw[←hN,←hM4] at this
  exact this
 refine⟨M4,?_⟩
 refine Ok.of_body ae Try.func3 rfl (by decide) (by simp[Try.ntmps3]) fun C hP hn hσ hfix hdd=>?_
 rw[show Try.f3.ntmps=53 from rfl] at hn
 have hL:af C.P L:=hP▸ae
 have hm:C.P.follows .mixedOrders=true:=hP▸ao
 repeat(first|(refine sB hL hn rfl ?_;simp only[go_sem,seval])|refine sN rfl ?_|refine sC ?_)
 refine sK hP hL hn rfl rfl (rJ _) rfl rfl rfl rfl ?_;simp (maxSteps:=2000000) only[go_sem,seval]
 repeat(first|(refine sB hL hn rfl ?_;simp only[go_sem,seval])|refine sN rfl ?_|refine sC ?_)
 refine sK hP hL hn rfl rfl (hofO0) rfl rfl rfl rfl ?_;simp (maxSteps:=2000000) only[go_sem,seval,bH,de,A5,Bj]
 rw[←hM1]
 have f1:M1[M0.length]?=some (.arr 29 1 [.agg [.sl 4 N 0 N]]):=by rw[hM1];exact bH _ _
 have f2:M1[1]?=some (.arr 27 2 [.agg [.int .u64 x1,.int .u64 x2]]):=by rw[hM1];exact m1 _
 refine aa.nil ?_
 simp only[ap]
 refine SW.keep [(1,.int .i64 root),(3,.ptr 0 1 0 0),(5,.ptr 1 1 0 0),(6,.bool false),(7,.ptr M0.length 1 0 0)] (by exact⟨rfl,rfl,rfl,rfl,rfl,trivial⟩) ?_
 repeat(first|(refine sB hL hn rfl ?_;simp only[go_sem,seval,f1,f2])|refine sN rfl ?_|refine sC ?_)
 refine sK hP hL hn rfl rfl (ol) rfl rfl rfl rfl ?_;simp (maxSteps:=2000000) only[go_sem,seval,bH,de]
 rw[←hM2]
 refine aa.nil ?_
 simp only[ap]
 refine SW.keep [(1,.int .i64 root),(3,.ptr 0 1 0 0),(5,.ptr 1 1 0 0),(6,.bool false),(7,.ptr M0.length 1 0 0),(8,.ptr M1.length 1 0 0),(9,.int .i64 q),(10,.int .i64 e)] (by exact⟨rfl,rfl,rfl,rfl,rfl,rfl,rfl,rfl,trivial⟩) ?_
 have g0:M2[0]?=some (.arr 24 1 [.agg [.vec c 1 A]]):=by rw[hM2,hM1,AR];exact m0 _
 have g1:M2[1]?=some (.arr 27 2 [.agg [.int .u64 x1,.int .u64 x2]]):=by rw[hM2,hM1,AR];exact m1 _
 have g2:(M2++[Ob.arr 29 1 [.agg [.nils]]]).set M2.length (.arr 29 1 [.agg [.vec 0 1 E]])=M3:=by rw[hM3];exact de _ _ _
 have g3:(M2++[Ob.arr 29 1 [.agg [.nils]]])[M2.length]?=some (.arr 29 1 [.agg [.nils]]):=bH _ _
 obtain⟨M2',hM2'⟩:∃M2',M2'=M2++[Ob.arr 29 1 [.agg [.nils]]]:=⟨_,rfl⟩
 have g4:M2'[0]?=some (.arr 24 1 [.agg [.vec c 1 A]]):=by rw[hM2',hM2,hM1,AR,AR];exact m0 _
 have g5:M2'[1]?=some (.arr 27 2 [.agg [.int .u64 x1,.int .u64 x2]]):=by rw[hM2',hM2,hM1,AR,AR];exact m1 _
 rw[←hM2'] at g2 g3
 have hofz:∀z,z∈ [0,1]→Ok Try.prog 6 [.agg [.vec c 1 A]] ([M2,M2',M3].getD z []) (.ret (.agg [.vec 0 1 B])) ([M2,M2',M3].getD z []):=fun z _=>hof _
 have hputz:∀z,z∈ [0,1]→Ok Try.prog 7 [.agg [.vec 0 1 B],.int .i64 root,.agg [.int .u64 x1,.int .u64 x2]] ([M2,M2',M3].getD z []) (.ret (.tup [.agg [.vec 0 1 E],.int .i64 q,.int .i64 e])) ([M2,M2',M3].getD z []):=fun z _=>hput0 _
 refine(?_:SW C _ _ _);first|refine sL hL hm hn di3_5 [M2,M2',M3] rfl rfl rfl ?_|refine sM hL hm hn di3_5 [M2,M2',M3] rfl rfl rfl ?_
 unfold di3_5
 repeat(rw[ah];simp (maxSteps:=2000000) only[go_sem,seval,g0,g4])
 try rw[aj]
 try simp only[go_sem,seval,g0,g1,g2,g3,g4,g5,←hM2']
 refine aI.pure hP (hofz) rfl rfl rfl rfl ?_;repeat(simp (maxSteps:=2000000) only[go_sem,seval,g1,g5];first|rw[ah]|rw[aj])
 try simp only[go_sem,seval]
 refine aI.pure hP (hputz) rfl rfl rfl rfl ?_;repeat(simp (maxSteps:=2000000) only[go_sem,seval,g2,g3,←hM2'];first|rw[ah]|rw[aj])
 try simp only[go_sem,seval]
 refine SW.keep [(6,.bool false),(7,.ptr M0.length 1 0 0),(8,.ptr M1.length 1 0 0),(9,.int .i64 q),(10,.int .i64 e),(11,.ptr M2.length 1 0 0),(12,.int .i64 q),(13,.int .i64 e)] (by exact⟨rfl,rfl,rfl,rfl,rfl,rfl,rfl,rfl,trivial⟩) ?_
 have lM0:M0.length=5+2*N:=by rw[hM0];simp[ofG,ll,ez,hN];omega
 have lM1:M1.length=6+2*N:=by rw[hM1,AP,lM0];simp;omega
 have lM2:M2.length=7+2*N:=by rw[hM2,AP,lM1];simp;omega
 have k0:M3[M0.length]?=some (.arr 29 1 [.agg [.sl 4 N 0 N]]):=by
  rw[hM3,hM2,AJ (by simp;omega),AJ (by omega)];exact f1
 have k1:M3[M1.length]?=some (.arr 29 1 [.agg [.vec 0 1 E]]):=by
  rw[hM3,AJ (by omega),hM2];exact bH _ _
 have k2:M3[M2.length]?=some (.arr 29 1 [.agg [.vec 0 1 E]]):=by rw[hM3];exact bH _ _
 have hg:∀i,5+2*N<i→M4[i]?=M3[i]?:=fun i hi=>by rw[hM4];exact gh _ _ _ _ _ fun j hj=>by omega
 have k3:M4[M1.length]?=some (.arr 29 1 [.agg [.vec 0 1 E]]):=by rw[hg _ (by omega)];exact k1
 have k4:M4[M2.length]?=some (.arr 29 1 [.agg [.vec 0 1 E]]):=by rw[hg _ (by omega)];exact k2
 have b1:(e==e)=true:=by simp
 have b2:(q==q)=true:=by simp
 repeat(first|(refine sB hL hn rfl ?_;simp only[go_sem,seval,k0])|refine sN rfl ?_|refine sC ?_)
 refine sK hP hL hn rfl rfl (hsp) rfl rfl rfl rfl ?_;simp (maxSteps:=2000000) only[go_sem,seval]
 repeat(first|(refine sB hL hn rfl ?_;simp only[go_sem,seval,k3,k4,b1,b2])|refine sN rfl ?_|refine sC ?_)
 refine sK hP hL hn rfl rfl (hsame _) rfl rfl rfl rfl ?_;simp (maxSteps:=2000000) only[go_sem,seval]
 repeat(first|(refine sB hL hn rfl ?_;simp only[go_sem,seval])|refine sN rfl ?_|refine sC ?_)
 exact⟨_,_,_,ai.refl _ _,rfl,ag.refl _ _ _,rfl⟩
theorem oL (c:Nat) (root:Int) (x:It):
  ∃O,Ok Try.prog 3 [.agg [pgsD c []],.int .i64 root,eT x] [] (.ret (.bool true)) O:=by
 obtain⟨ps',q,e,hcol,hput⟩:=mC (ps:=[]) (fun p hp=>by cases hp) root x
 have hput0:=hput [] rfl 0
 rw[show stD 0 []=.agg [.nils] from rfl] at hput0
 have hof:=zG c
 have hsame:=kZ 0 0 ps' ps' rfl
 have hsp:=p7
 obtain⟨x1,x2⟩:=x
 unfold eT at hput0⊢
 unfold o6 at hput0
 obtain⟨E,hE⟩:∃E,E=ps'.map ePg:=⟨_,rfl⟩
 unfold pgsD at hof hsame⊢
 rw[←hE] at hput0 hsame
 rw[BQ] at hof⊢
 obtain⟨M2,hM2⟩:∃M2,M2=[Ob.arr 24 1 [.agg [.vec c 1 []]],.arr 27 2 [.agg [.int .u64 x1,.int .u64 x2]],.arr 29 1 [.agg [.nils]],.arr 29 1 [.agg [.vec 0 1 E]]]:=⟨_,rfl⟩
 obtain⟨M2',hM2'⟩:∃M2',M2'=M2++[Ob.arr 29 1 [.agg [.nils]]]:=⟨_,rfl⟩
 obtain⟨M3,hM3⟩:∃M3,M3=M2++[.arr 29 1 [.agg [.vec 0 1 E]]]:=⟨_,rfl⟩
 have g0:M2[0]?=some (.arr 24 1 [.agg [.vec c 1 []]]):=by rw[hM2];rfl
 have g1:M2[1]?=some (.arr 27 2 [.agg [.int .u64 x1,.int .u64 x2]]):=by rw[hM2];rfl
 have g4:M2'[0]?=some (.arr 24 1 [.agg [.vec c 1 []]]):=by rw[hM2',hM2];rfl
 have g5:M2'[1]?=some (.arr 27 2 [.agg [.int .u64 x1,.int .u64 x2]]):=by rw[hM2',hM2];rfl
 have g3:M2'[M2.length]?=some (.arr 29 1 [.agg [.nils]]):=by rw[hM2'];exact bH _ _
 have g2:M2'.set M2.length (.arr 29 1 [.agg [.vec 0 1 E]])=M3:=by rw[hM2',hM3];exact de _ _ _
 have hofz:∀z,z∈ [0,1]→Ok Try.prog 6 [.agg [.vec c 1 []]] ([M2,M2',M3].getD z []) (.ret (.agg [.nils])) ([M2,M2',M3].getD z []):=fun z _=>hof _
 have hputz:∀z,z∈ [0,1]→Ok Try.prog 7 [.agg [.nils],.int .i64 root,.agg [.int .u64 x1,.int .u64 x2]] ([M2,M2',M3].getD z []) (.ret (.tup [.agg [.vec 0 1 E],.int .i64 q,.int .i64 e])) ([M2,M2',M3].getD z []):=fun z _=>hput0 _
 have k0:M3[2]?=some (.arr 29 1 [.agg [.nils]]):=by rw[hM3,hM2];rfl
 have k1:M3[3]?=some (.arr 29 1 [.agg [.vec 0 1 E]]):=by rw[hM3,hM2];rfl
 have k2:M3[M2.length]?=some (.arr 29 1 [.agg [.vec 0 1 E]]):=by rw[hM3];exact bH _ _
 have b1:(e==e)=true:=by simp
 have b2:(q==q)=true:=by simp
 refine⟨M3,?_⟩
 refine Ok.of_body ae Try.func3 rfl (by decide) (by simp[Try.ntmps3]) fun C hP hn hσ hfix hdd=>?_
 rw[show Try.f3.ntmps=53 from rfl] at hn
 have hL:af C.P L:=hP▸ae
 have hm:C.P.follows .mixedOrders=true:=hP▸ao
 repeat(first|(refine sB hL hn rfl ?_;simp only[go_sem,seval])|refine sN rfl ?_|refine sC ?_)
 refine sK hP hL hn rfl rfl (rJ _) rfl rfl rfl rfl ?_;simp (maxSteps:=2000000) only[go_sem,seval]
 repeat(first|(refine sB hL hn rfl ?_;simp only[go_sem,seval])|refine sN rfl ?_|refine sC ?_)
 refine sK hP hL hn rfl rfl (hof _) rfl rfl rfl rfl ?_;simp (maxSteps:=2000000) only[go_sem,seval]
 repeat(first|(refine sB hL hn rfl ?_;simp only[go_sem,seval])|refine sN rfl ?_|refine sC ?_)
 refine sK hP hL hn rfl rfl (hput0 _) rfl rfl rfl rfl ?_;simp (maxSteps:=2000000) only[go_sem,seval]
 rw[←hM2]
 refine aa.nil ?_
 simp only[ap]
 refine SW.keep [(1,.int .i64 root),(3,.ptr 0 1 0 0),(5,.ptr 1 1 0 0),(6,.bool false),(7,.ptr 2 1 0 0),(8,.ptr 3 1 0 0),(9,.int .i64 q),(10,.int .i64 e)] (by exact⟨rfl,rfl,rfl,rfl,rfl,rfl,rfl,rfl,trivial⟩) ?_
 refine(?_:SW C _ _ _);first|refine sL hL hm hn di3_5 [M2,M2',M3] rfl rfl rfl ?_|refine sM hL hm hn di3_5 [M2,M2',M3] rfl rfl rfl ?_
 unfold di3_5
 repeat(rw[ah];simp (maxSteps:=2000000) only[go_sem,seval,g0,g4])
 try rw[aj]
 try simp only[go_sem,seval,g0,g1,g2,g3,g4,g5,←hM2']
 refine aI.pure hP (hofz) rfl rfl rfl rfl ?_;repeat(simp (maxSteps:=2000000) only[go_sem,seval,g1,g5];first|rw[ah]|rw[aj])
 try simp only[go_sem,seval]
 refine aI.pure hP (hputz) rfl rfl rfl rfl ?_;repeat(simp (maxSteps:=2000000) only[go_sem,seval,g2,g3,←hM2'];first|rw[ah]|rw[aj])
 try simp only[go_sem,seval]
 refine SW.keep [(6,.bool false),(7,.ptr 2 1 0 0),(8,.ptr 3 1 0 0),(9,.int .i64 q),(10,.int .i64 e),(11,.ptr M2.length 1 0 0),(12,.int .i64 q),(13,.int .i64 e)] (by exact⟨rfl,rfl,rfl,rfl,rfl,rfl,rfl,rfl,trivial⟩) ?_
 repeat(first|(refine sB hL hn rfl ?_;simp only[go_sem,seval,k0])|refine sN rfl ?_|refine sC ?_)
 refine sK hP hL hn rfl rfl (hsp _) rfl rfl rfl rfl ?_;simp (maxSteps:=2000000) only[go_sem,seval]
 repeat(first|(refine sB hL hn rfl ?_;simp only[go_sem,seval,k1,k2,b1,b2])|refine sN rfl ?_|refine sC ?_)
 refine sK hP hL hn rfl rfl (hsame _) rfl rfl rfl rfl ?_;simp (maxSteps:=2000000) only[go_sem,seval]
 repeat(first|(refine sB hL hn rfl ?_;simp only[go_sem,seval])|refine sN rfl ?_|refine sC ?_)
 exact⟨_,_,_,ai.refl _ _,rfl,ag.refl _ _ _,rfl⟩
theorem treeOwn_ok (c:Nat) (ps:List Pg) (root:Int) (x:It) (hps:ps.length≤1048576) (hb:∀p∈ps,p.2.length≤134217728) (σ:List Ob):
  Ok Try.prog 3 [.agg [pgsD c ps],.int .i64 root,eT x] σ (.ret (.bool true)) σ:=by
 have hlow:=gn 0 c ps
 have harg:∀z∈ [.agg [pgsD c ps],.int .i64 root,eT x],Low 0 z:=by
  intro z hz
  simp only[Bh,Bw,or_false] at hz
  rcases hz with rfl|rfl|rfl
  ·rw[aH];simpa using hlow
  ·exact(ax _ _).2 trivial
  ·exact cD 0 _
 obtain⟨O,h⟩:∃O,Ok Try.prog 3 [.agg [pgsD c ps],.int .i64 root,eT x] [] (.ret (.bool true)) O:=by
  rcases B4 ps.length with h0|h0
  ·rw[B1.1 h0];exact oL c root x
  ·exact oM c ps h0 hps hb root x
 exact Ok.thaw (c:=0) h (.low ((j8 _).2 trivial)) harg σ
end Go.VL
