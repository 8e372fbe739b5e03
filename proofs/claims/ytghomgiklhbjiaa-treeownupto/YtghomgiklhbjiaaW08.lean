/- Proved: TreeOwn: whatever tree, root and item come in (together of bulk at most 1048576), the call returns true and they read as they did; no other condition. This text is part 8 of 18. -/
import Derived.Test.YtghomgiklhbjiaaW07
set_option linter.unusedSimpArgs false
set_option linter.unusedVariables false
set_option maxRecDepth 10000
set_option maxHeartbeats 2000000
open List renaming append_assoc → AR,append_nil → AK,cons_append → Bq,drop_eq_getElem_cons → BW,drop_of_length_le → Cp,ext_getElem? → BV,flatMap_cons → Cx,getD_eq_getElem?_getD → AZ,getElem?_eq_none → BA,getElem?_eq_some_iff → AH,getElem?_map → AQ,getElem?_set → B2,getElem_mem → BS,length_append → AP,length_map → AN,length_replicate → Br,map_append → B8,map_congr_left → Db,map_cons → Bf,map_map → DW,mem_append → BT,mem_cons → Bh,mem_map → Ba,mem_of_getElem? → AM,mem_range → Cw,mem_replicate → BK,mem_singleton → BX,nil_append → Be,not_mem_nil → Bw,range → Bs,replicate → AO,take_append_getElem → BN,take_length → Co
open Nat renaming le_trans → Bl,reduceBEq → CH,reduceLT → Bv,zero_add → Bc,zero_le → BD
open Option renaming map_some → AW,none → DC
open Int renaming fdiv_eq_ediv_of_nonneg → DL,reduceLE → CZ,reduceLT → Cq,toNat → Ce,toNat_natCast → Bg
namespace Go.VL
open Go Go.Proofs
open Nat (reduceAdd reduceEqDiff reduceSub reduceMul reduceLeDiff)
theorem sv (c c':Nat) (ws vs:List Int) (hw:∀w∈ws, -9223372036854775808≤w∧w≤9223372036854775807) (h0:(cd ws vs).2=0) (σ:List Ob):
  Ok Try.prog 76 [.vec c 1 (ws.map eI),.vec c' 1 (vs.map eV)] σ (.ret (.tup [.sl σ.length (cd ws vs).1.length 0 (cd ws vs).1.length,.int .i64 0])) (σ++[.arr 5 1 ((cd ws vs).1.map eB)]):=by
 have h1':ws.length=vs.length:=by
  apply Classical.byContradiction
  intro h
  rw[show cd ws vs=([],3) by simp[cd,h]] at h0
  cases h0
 have h2:¬ 64<ws.length:=by
  intro h
  rw[show cd ws vs=([],3) by simp[cd,h]] at h0
  cases h0
 obtain⟨R,hR⟩:∃R,R=cd ws vs:=⟨_,rfl⟩
 have hR':R=gC (ws.zip vs) []:=by
  rw[hR,cd,if_neg]
  rintro(h|h)
  ·exact h h1'
  ·exact h2 h
 rw[←hR] at h0⊢
 refine Ok.of_body ae Try.func76 rfl (by decide) (by simp[Try.ntmps76]) fun C hP hn hσ hfix hdd=>?_
 rw[show Try.f76.ntmps=45 from rfl] at hn
 have hL:af C.P L:=hP▸ae
 have hm:C.P.follows .mixedOrders=true:=hP▸ao
 refine SW.vlen 0 rfl fun hl0=>?_
 refine SW.vlen 1 rfl fun hl1=>?_
 rw[AN] at hl0 hl1
 have d1:(((ws.length:Nat):Int) !=((vs.length:Nat):Int))=false:=by simp;omega
 have d2:decide (((ws.length:Nat):Int)>64)=false:=decide_eq_false (by omega)
 repeat(first|(refine sB hL hn rfl ?_;simp only[go_sem,seval,AN,d1,d2])|refine sN rfl ?_|refine sC ?_)
 refine SW.ghost (ai.newNil 6 5 1 rfl) ?_
 simp only[up,reduceEqDiff,reduceIte]
 refine SW.lpg (fun x:Nat×List UInt8=>⟨[(1,.vec c' 1 (vs.map eV)),(6,.sl σ.length x.2.length 0 x.2.length),(21,.vec c 1 (ws.map eI)),(22,.int .i64 ws.length),(23,.int .i64 x.1)],σ++[.arr 5 1 (x.2.map eB)]⟩) (fun x=>ws.length-x.1)
  (fun x=>x.1≤ws.length∧gC ((ws.zip vs).drop x.1) x.2=R∧x.2.length≤8*x.1) (0,[]) ⟨by simp,by rw[hR'];rfl,by simp⟩ (.of rfl ⟨rfl,rfl,rfl,rfl,rfl,trivial⟩) ?_
 rintro⟨k,acc⟩ ⟨hk,hrest,hacc⟩
 simp only at hk hrest hacc
 have hzl:(ws.zip vs).length=ws.length:=by rw[List.length_zip];omega
 by_cases hlt:k<ws.length
 ·have e1:decide ((k:Int)<((ws.length:Nat):Int))=true:=decide_eq_true (by omega)
  have e2:(0≤(k:Int)∧(k:Int)<((ws.length:Nat):Int)):=by omega
  have e2':(0≤(k:Int)∧(k:Int)<((vs.length:Nat):Int)):=by omega
  have hw':=hw _ (BS hlt)
  have e3:(ws.map eI)[k]?.getD .undef=.int .i64 (ws[k]'hlt):=by simp[hlt,eI]
  have e4:(vs.map eV)[k]?.getD .undef=.int .u64 (vs[k]'(by omega)):=by simp[show k<vs.length by omega,eV]
  have w1:IntKind.i64.wrap ((k:Int)+1)=((k+1:Nat):Int):=wi (by omega) (by omega)
  have hdrop:(ws.zip vs).drop k=(ws[k]'hlt,vs[k]'(by omega))::(ws.zip vs).drop (k+1):=by
   rw[BW (by omega)]
   simp
  rw[hdrop] at hrest
  simp only[gC] at hrest
  generalize hq:bu (vs[k]'(by omega)) (ws[k]'hlt)=q at hrest
  obtain⟨b,e⟩:=q
  have hbl:b.length≤8:=by have:=iS (vs[k]'(by omega)) (ws[k]'hlt);rw[hq] at this;exact this
  simp only at hrest
  have hp:=wo (vs[k]'(by omega)) (ws[k]'hlt) hw'
  rw[hq] at hp
  obtain⟨A,hA⟩:∃A,A=acc.map eB:=⟨_,rfl⟩
  have hAl:A.length=acc.length:=by rw[hA];simp
  obtain⟨B,hB⟩:∃B,B=b.map eB:=⟨_,rfl⟩
  have aB:(B.all fun y=>y.cells.all DV.one)=true:=by rw[hB];exact kU b
  have hBl:B.length=b.length:=by rw[hB];simp
  simp only[DV.cells] at aB
  rw[←hA]
  rw[←hB] at hp
  have hcap:(acc.length+B.length≤140737488355328)=True:=eq_true (by omega)
  have z0:((0:Int) !=0)=false:=rfl
  have gA:(σ++[Ob.arr 5 1 A])[σ.length]?=some (.arr 5 1 A):=bH _ _
  repeat(first|(refine sB hL hn rfl ?_;simp only[go_sem,seval,AN,e2,e2',e3,e4])|refine sN rfl ?_|refine sC ?_)
  refine sK hP hL hn rfl rfl (hp _) rfl rfl rfl rfl ?_;simp (maxSteps:=2000000) only[go_sem,seval]
  by_cases he0:e=0
  ·subst he0
   rw[if_pos rfl] at hrest
   repeat(first|(refine sB hL hn rfl ?_;simp only[go_sem,seval,aG,aB,gA,de,hAl,hcap,z0,w1])|refine sN rfl ?_|refine sC ?_)
   refine Lp.nextg (k+1,acc++b) ?_ ?_ ?_
   ·exact⟨by show k+1≤_;omega,hrest,by rw[AP];omega⟩
   ·show ws.length-(k+1)<_
    omega
   ·exact .of (by simp[hA,hB]) ⟨rfl,by simp[lk,hBl],rfl,rfl,rfl,trivial⟩
  ·rw[if_neg he0] at hrest
   rw[←hrest] at h0
   exact absurd h0 he0
 ·have e1:decide ((k:Int)<((ws.length:Nat):Int))=false:=decide_eq_false (by omega)
  rw[Cp (by omega)] at hrest
  simp only[gC] at hrest
  subst hrest
  repeat(first|(refine sB hL hn rfl ?_;simp only[go_sem,seval,e1])|refine sN rfl ?_|refine sC ?_)
  exact⟨_,_,_,ai.refl _ _,rfl,ag.refl _ _ _,rfl⟩
def wsF (kind m:Nat):List Int:=[1,1,2]++AO m 8++(if kind=1 then AO m 8 else AO (m+1) 4)
theorem rQ (kind m:Nat):d9 kind m=(wsF kind m).map eI:=by
 unfold d9 wsF
 split<;>simp[eI]
def cy (ks:List Int):Nat:=if 0<ks.length then 2 else 1
def eJ (xs:List It) (ks:List Int):List Int:=[(cy ks:Int),(xs.length:Int),0]++xs.map (·.1)++ks.map IntKind.u64.wrap++(if ks.length=0 then xs.map (·.2) else [])
def rF (xs:List It) (ks:List Int):List UInt8:=(cd (wsF (cy ks) xs.length) (eJ xs ks)).1
def bl (xs:List It) (ks:List Int):List UInt8×Int:=
 if bM xs ks≠0 then([],bM xs ks) else(mj (rF xs ks++AO (60-(rF xs ks).length) 0),0)
theorem qr (n:Int):(bu n 8).2=0:=by simp[bu]
theorem ed (n:Int) (w:Nat) (hw:1≤w∧w<8) (h:0≤n∧n<2^(8*w)):(bu n w).2=0:=by
 have e:(8*(w:Int)).toNat=8*w:=by omega
 have hm:min (8*w) 64=8*w:=by omega
 have hz:n.fdiv (2^(8*w))=0:=by
  rw[DL _ (by exact_mod_cast BD _)]
  exact Int.ediv_eq_zero_of_lt h.1 h.2
 simp only[bu,e,hm,hz]
 rw[if_neg (by omega),if_neg (by simp)]
theorem qA:∀(l:List (Int×Int)) (acc:List UInt8),(∀p∈l,(bu p.2 p.1).2=0)→(gC l acc).2=0
 | [],_,_=>rfl
 |(w,v)::r,acc,h=>by
  simp only[gC]
  rw[if_pos (h (w,v) (by simp))]
  exact qA r _ fun p hp=>h p (by simp[hp])
theorem n7:∀(l:List (Int×Int)) (acc:List UInt8),(gC l acc).1.length≤acc.length+(l.map fun p=>p.1.toNat).sum
 | [],_=>by simp[gC]
 |(w,v)::r,acc=>by
  have hput:(bu v w).1.length≤w.toNat:=by
   unfold bu
   split
   ·simp
   ·split
    ·simp
    ·simp[cC]
  simp only[gC,Bf,List.sum_cons]
  split
  ·have:=n7 r (acc++(bu v w).1)
   rw[AP] at this
   omega
  ·simp
theorem ng:∀(s ks:List Int),pH s ks=true→∀k∈ks,1≤k∧k≤2048
 |_,[],_=>fun k hk=>by simp at hk
 |s,x::r,h=>fun k hk=>by
  simp only[pH] at h
  split at h
  ·cases h
  ·rename_i hx
   rcases Bh.1 hk with rfl|hk
   ·simp only[not_or] at hx
    omega
   ·exact ng _ r h k hk
theorem em{xs:List It}{ks:List Int} (h:bM xs ks=0):1≤xs.length∧xs.length≤3∧(ks.length=0∨ks.length=xs.length+1)∧∀k∈ks,1≤k∧k≤2048:=by
 obtain⟨a,b,c⟩:=rB h
 refine⟨a,b,c,?_⟩
 unfold bM at h
 split at h
 ·cases h
 ·split at h
  ·rename_i h2
   exact ng _ _ h2.2
  ·cases h
theorem tn (xs:List It) (ks:List Int) (h:ks.length=0∨ks.length=xs.length+1):(wsF (cy ks) xs.length).length=(eJ xs ks).length:=by
 unfold wsF eJ cy
 rcases h with h|h
 ·simp[h]
 ·have hp:0<ks.length:=by omega
  have h0:¬ ks.length=0:=by omega
  simp[h]
theorem uO{xs:List It}{ks:List Int} (h:bM xs ks=0):(cd (wsF (cy ks) xs.length) (eJ xs ks)).2=0∧(rF xs ks).length≤52:=by
 obtain⟨h1,h2,h3,h4⟩:=em h
 have hl:=tn xs ks h3
 have hwl:(wsF (cy ks) xs.length).length≤64:=by
  unfold wsF
  split<;>simp<;>omega
 have e:cd (wsF (cy ks) xs.length) (eJ xs ks)=gC ((wsF (cy ks) xs.length).zip (eJ xs ks)) []:=by
  unfold cd
  rw[if_neg]
  rintro(h|h)<;>omega
 obtain⟨T,hT⟩:∃T,T=if cy ks=1 then AO xs.length (8:Int) else AO (xs.length+1) 4:=⟨_,rfl⟩
 obtain⟨U,hU⟩:∃U,U=ks.map IntKind.u64.wrap++(if ks.length=0 then xs.map (·.2) else []):=⟨_,rfl⟩
 have hz:(wsF (cy ks) xs.length).zip (eJ xs ks)=[((1:Int),(cy ks:Int)),(1,(xs.length:Int)),(2,0)]++((AO xs.length (8:Int)).zip (xs.map (·.1))++T.zip U):=by
  unfold wsF eJ
  rw[←hT,AR ([_,_,_]++_),←hU,AR,AR]
  have e1:∀(P Q:List Int),([1,1,2]++P).zip ([(cy ks:Int),(xs.length:Int),0]++Q)=[((1:Int),(cy ks:Int)),(1,(xs.length:Int)),(2,0)]++P.zip Q:=fun _ _=>rfl
  rw[e1,List.zip_append (by simp)]
 have hall:∀p∈(wsF (cy ks) xs.length).zip (eJ xs ks),(bu p.2 p.1).2=0:=by
  intro p hp
  rw[hz] at hp
  have hk:cy ks=1∨cy ks=2:=by unfold cy;split<;>simp
  rcases BT.1 hp with hp|hp
  ·simp only[Bh,Bw,or_false] at hp
   rcases hp with rfl|rfl|rfl
   ·exact ed _ 1 (by omega) (by rcases hk with e|e<;>rw[e]<;>decide)
   ·exact ed _ 1 (by omega) (by constructor<;>omega)
   ·exact ed _ 2 (by omega) (by decide)
  ·rcases BT.1 hp with hp|hp
   ·have:=(List.of_mem_zip (a:=p.1) (b:=p.2) hp).1
    rw[(BK.1 this).2]
    exact qr _
   ·obtain⟨q1,q2⟩:=List.of_mem_zip (a:=p.1) (b:=p.2) hp
    rw[hT] at q1
    rw[hU] at q2
    by_cases hk0:ks.length=0
    ·rw[if_pos (by unfold cy;rw[if_neg (by omega)])] at q1
     rw[(BK.1 q1).2]
     exact qr _
    ·rw[if_neg (by unfold cy;rw[if_pos (by omega)];decide)] at q1
     rw[if_neg hk0,AK] at q2
     obtain⟨k,hk,e2⟩:=Ba.1 q2
     have hr:=h4 k hk
     rw[(BK.1 q1).2,←e2,show IntKind.u64.wrap k=k from wu (by omega) rfl]
     exact ed _ 4 (by omega) (by constructor<;>omega)
 refine⟨by rw[e];exact qA _ _ hall,?_⟩
 unfold rF
 rw[e]
 refine Bl (n7 _ _) ?_
 have hm:((wsF (cy ks) xs.length).zip (eJ xs ks)).map (fun p=>p.1.toNat)=(wsF (cy ks) xs.length).map Ce:=by
  rw[show(fun p:Int×Int=>p.1.toNat)=Ce∘Prod.fst from rfl,←DW,List.map_fst_zip (by omega)]
 rw[hm]
 unfold wsF
 split<;>simp<;>omega
theorem kF (n t:Nat) (l:List Int):cl n (.arr t 1 (l.map eV)):=by
 intro y hy
 obtain⟨x,_,rfl⟩:=Ba.1 hy
 exact zK n x
theorem kN (c c':Nat) (xs:List It) (ks:List Int) (hl:xs.length≤1048576) (hkl:ks.length≤1048576) (σ:List Ob):
  Ok Try.prog 63 [jY c c' xs ks] σ (.ret (.tup [.vec 0 1 ((bl xs ks).1.map eB),.int .i64 (bl xs ks).2])) σ:=by
 have hchk:=pp c c' xs ks hl hkl
 obtain⟨X,hX⟩:∃X,X=xs.map eT:=⟨_,rfl⟩
 have hXl:X.length=xs.length:=by rw[hX,AN]
 obtain⟨Y,hY⟩:∃Y,Y=ks.map eI:=⟨_,rfl⟩
 have hYl:Y.length=ks.length:=by rw[hY,AN]
 have hlow:∀m,Low m (.vec c 2 X):=fun m=>by rw[hX];exact iE m c xs
 have hlowY:∀m,Low m (.vec c' 1 Y):=fun m=>by rw[hY];exact dL m c' ks
 unfold jY at hchk⊢
 rw[←hX,←hY] at hchk⊢
 obtain⟨N,hN⟩:∃N,N=Ob.arr 95 2 [.agg [.vec c 2 X,.vec c' 1 Y]]:=⟨_,rfl⟩
 have hNl:∀m,cl m N:=fun m=>by rw[hN];simp[aH,cl,hlow,hlowY]
 by_cases h0:bM xs ks=0
 rotate_left
 ·rw[show bl xs ks=([],bM xs ks) by unfold bl;rw[if_pos h0]]
  obtain⟨e,he⟩:∃e,e=bM xs ks:=⟨_,rfl⟩
  rw[←he] at hchk h0⊢
  refine Ok.thaw (c:=0) (O:=[.arr 95 2 [.agg [.vec c 2 X,.vec c' 1 Y]]]) (d:=.tup [.nils,.int .i64 e]) ?_ (.two .nil .int) (by simp[aH,hlow,hlowY]) σ
  have d1:(e !=0)=true:=by simpa using h0
  refine Ok.of_body ae Try.func63 rfl (by decide) (by simp[Try.ntmps63]) fun C hP hn hσ hfix hdd=>?_
  rw[show Try.f63.ntmps=92 from rfl] at hn
  have hL:af C.P L:=hP▸ae
  have hm:C.P.follows .mixedOrders=true:=hP▸ao
  repeat(first|((first|refine sA hL hn rfl ?_|refine sB hL hn rfl ?_);simp only[go_sem,reduceAdd,reduceEqDiff,reduceLeDiff,reduceCtorEq])|((first|refine sC ?_|refine sH ?_|refine sI ?_|refine sJ ?_);try simp only[ap,aY,cx,bP,if_true,if_false,reduceEqDiff])|refine sD ?_|refine sE ?_|refine sF rfl ?_|refine sG rfl ?_)
  refine sK hP hL hn rfl rfl (hchk _) rfl rfl rfl rfl ?_;simp (maxSteps:=2000000) only[go_sem,reduceEqDiff,reduceCtorEq]
  repeat(first|((first|refine sA hL hn rfl ?_|refine sB hL hn rfl ?_);simp only[go_sem,reduceEqDiff,reduceCtorEq,d1])|((first|refine sC ?_|refine sH ?_|refine sI ?_|refine sJ ?_);try simp only[ap])|refine sD ?_|refine sE ?_|refine sF rfl ?_|refine sG rfl ?_)
  exact⟨_,_,_,ai.refl _ _,rfl,ag.refl _ _ _,rfl⟩
 obtain⟨f1,f2,f3,f4⟩:=em h0
 obtain⟨g1,g2⟩:=uO h0
 have hws:=tn xs ks f3
 obtain⟨kd,hkd⟩:∃kd,kd=cy ks:=⟨_,rfl⟩
 have hkk:kd=1∨kd=2:=by rw[hkd];unfold cy;split<;>simp
 obtain⟨B,hB⟩:∃B,B=rF xs ks:=⟨_,rfl⟩
 have hwid:=ui kd xs.length hkk ⟨f1,f2⟩
 rw[rQ] at hwid
 obtain⟨W,hW⟩:∃W,W=(wsF kd xs.length).map eI:=⟨_,rfl⟩
 have hwb:∀w∈wsF kd xs.length, -9223372036854775808≤w∧w≤9223372036854775807:=by
  intro w hw
  unfold wsF at hw
  simp only[BT,Bh,Bw,or_false] at hw
  rcases hw with(hw|hw)|hw
  ·omega
  ·have:=(BK.1 hw).2;omega
  ·split at hw
   ·have:=(BK.1 hw).2;omega
   ·have:=(BK.1 hw).2;omega
 have hpack:=sv 0 0 (wsF kd xs.length) (eJ xs ks) hwb (by rw[hkd];exact g1)
 have hBe:(cd (wsF kd xs.length) (eJ xs ks)).1=B:=by rw[hB,hkd];rfl
 rw[hBe,←hW] at hpack
 rw[←hW] at hwid
 have hBl:B.length≤52:=by rw[hB];exact g2
 obtain⟨V,hV⟩:∃V,V=(eJ xs ks).map eV:=⟨_,rfl⟩
 rw[←hV] at hpack
 obtain⟨Bd,hBd⟩:∃Bd,Bd=B.map eB:=⟨_,rfl⟩
 have hBdl:Bd.length=B.length:=by rw[hBd,AN]
 rw[←hBd] at hpack
 obtain⟨Z,hZ⟩:∃Z,Z=B++AO (60-B.length) (0:UInt8):=⟨_,rfl⟩
 have hZl:Z.length=60:=by rw[hZ];simp;omega
 have hseal:=xQ 1 Z (by omega) (by omega)
 obtain⟨Zd,hZd⟩:∃Zd,Zd=Z.map eB:=⟨_,rfl⟩
 have hZdl:Zd.length=60:=by rw[hZd,AN,hZl]
 rw[←hZd] at hseal
 obtain⟨S,hS⟩:∃S,S=(mj Z).map eB:=⟨_,rfl⟩
 rw[←hS] at hseal
 have hsealO:∀σ:List Ob,σ[2]?=some (.arr 5 1 Zd)→Ok Try.prog 78 [.sl 2 60 0 60] σ (.ret (.vec 0 1 S)) σ:=fun σ hσ=>ol hseal (by
  have:=Fz.bytes (O:=σ) (c:=1) (id:=2) (t:=5) (l:=Z) (n:=60) hZl.symm (by rw[←hZd];exact hσ)
  rw[←hZd] at this;exact this) (by rw[hS];exact kj _ _)
 rw[show bl xs ks=(mj Z,0) by unfold bl;rw[if_neg (by simpa using h0),←hB,←hZ],←hS]
 have hSl:Low 0 (.vec 0 1 S):=by rw[hS];exact aW 0 0 _
 rw[h0] at hchk
 refine Ok.thaw (c:=0) (O:=[N,.dead,.arr 5 1 Zd]) ?_ (.low (by simp[eh,ax,hSl])) (by simp[aH,hlow,hlowY]) σ
 have d0:((0:Int) !=0)=false:=rfl
 have wx:IntKind.u64.wrap ((xs.length:Nat):Int)=((xs.length:Nat):Int):=wu (by omega) rfl
 have hcz:AO (60-B.length) (DV.int .u8 0)=(AO (60-B.length) (0:UInt8)).map eB:=by simp[eB]
 have wk1:IntKind.u64.wrap 1=1:=rfl
 have wk2:IntKind.u64.wrap 2=2:=rfl
 have step:∀(A:List Int) (v:Int),(A.map eV++[.int .u64 v])=(A++[v]).map eV:=fun A v=>by simp[eV]
 have hcase:(0<ks.length∧kd=2)∨(ks.length=0∧kd=1):=by
  rw[hkd];unfold cy
  by_cases h:0<ks.length
  ·exact .inl ⟨h,if_pos h⟩
  ·exact .inr ⟨by omega,if_neg h⟩
 have hVe:eJ xs ks=[(kd:Int),(xs.length:Int),0]++xs.map (·.1)++ks.map IntKind.u64.wrap++(if kd=1 then xs.map (·.2) else []):=by
  unfold eJ
  rw[←hkd]
  congr 1
  rcases hcase with⟨h,e⟩|⟨h,e⟩
  ·rw[if_neg (by omega),if_neg (by omega)]
  ·rw[if_pos h,if_pos e]
 have el:∀n:Nat,(n:Int)<(n:Int)+1:=fun n=>by omega
 refine Ok.of_body ae Try.func63 rfl (by decide) (by simp[Try.ntmps63]) fun C hP hn hσ hfix hdd=>?_
 rw[show Try.f63.ntmps=92 from rfl] at hn
 have hL:af C.P L:=hP▸ae
 have hm:C.P.follows .mixedOrders=true:=hP▸ao
 repeat(first|((first|refine sA hL hn rfl ?_|refine sB hL hn rfl ?_);simp only[go_sem,reduceAdd,reduceEqDiff,reduceLeDiff,reduceCtorEq])|((first|refine sC ?_|refine sH ?_|refine sI ?_|refine sJ ?_);try simp only[ap,aY,cx,bP,if_true,if_false,reduceEqDiff])|refine sD ?_|refine sE ?_|refine sF rfl ?_|refine sG rfl ?_)
 refine sK hP hL hn rfl rfl (hchk _) rfl rfl rfl rfl ?_;simp (maxSteps:=2000000) only[go_sem,reduceEqDiff,reduceCtorEq]
 obtain⟨F,hF⟩:∃F:Nat→List DV,F=fun k=>([(kd:Int),(xs.length:Int),0]++(xs.take k).map (·.1)).map eV:=⟨_,rfl⟩
 obtain⟨G,hG⟩:∃G:Nat→List DV,G=fun k=>([(kd:Int),(xs.length:Int),0]++xs.map (·.1)++(ks.take k).map IntKind.u64.wrap).map eV:=⟨_,rfl⟩
 obtain⟨H,hH⟩:∃H:Nat→List DV,H=fun k=>([(kd:Int),(xs.length:Int),0]++xs.map (·.1)++ks.map IntKind.u64.wrap++(if kd=1 then(xs.take k).map (·.2) else [])).map eV:=⟨_,rfl⟩
 obtain⟨M,hM⟩:∃M,M=3+xs.length:=⟨_,rfl⟩
 obtain⟨M2,hM2⟩:∃M2,M2=M+ks.length:=⟨_,rfl⟩
 have hFl:∀k,k≤xs.length→(F k).length=3+k:=fun k hk=>by rw[hF];simp;omega
 have hGl:∀k,k≤ks.length→(G k).length=M+k:=fun k hk=>by rw[hG,hM];simp;omega
 have hHl:∀k,k≤xs.length→(kd=2→k=0)→(H k).length=M2+k:=fun k hk h2=>by
  rw[hH,hM2,hM]
  rcases hkk with e|e
  ·simp[e];omega
  ·simp[e,h2 e];omega
 have hFo:∀m k,∀x∈F k,Low m x:=fun m k=>by rw[hF];exact kF m 0 _
 have hGo:∀m k,∀x∈G k,Low m x:=fun m k=>by rw[hG];exact kF m 0 _
 have hHo:∀m k,∀x∈H k,Low m x:=fun m k=>by rw[hH];exact kF m 0 _
 have hF1:∀k (h:k<xs.length),F k++[.int .u64 (xs[k]'h).1]=F (k+1):=fun k h=>by
  rw[hF];dsimp only
  rw[←BN h,B8 (l₁:=xs.take k),step,AR];rfl
 have hG1:∀k (h:k<ks.length),G k++[.int .u64 (IntKind.u64.wrap (ks[k]'h))]=G (k+1):=fun k h=>by
  rw[hG];dsimp only
  rw[←BN h,B8 (l₁:=ks.take k),step,AR];rfl
 have hH1:∀k (h:k<xs.length),kd=1→H k++[.int .u64 (xs[k]'h).2]=H (k+1):=fun k h e=>by
  rw[hH];dsimp only
  rw[if_pos e,if_pos e,←BN h,B8 (l₁:=xs.take k),step,AR];rfl
 have hFG:F xs.length=G 0:=by rw[hF,hG];simp
 have hGH:G ks.length=H 0:=by rw[hG,hH];simp
 have hHV:∀k,(kd=2→k=0)→(kd=1→k=xs.length)→H k=V:=fun k h1 h2=>by
  rw[hV,hVe,hH];dsimp only
  rcases hkk with e|e
  ·rw[if_pos e,if_pos e,h2 e,Co]
  ·rw[if_neg (by omega),if_neg (by omega)]
 have hF0:F 0=[.int .u64 (kd:Int),.int .u64 (xs.length:Int),.int .u64 0]:=by rw[hF];rfl
 clear hF hG hH hVe
 rcases hcase with⟨hk,e2⟩|⟨hk,e2⟩
 rotate_left
 have dk:decide (((ks.length:Nat):Int)>0)=false:=decide_eq_false (by omega)
 repeat(first|((first|refine sA hL hn rfl ?_|refine sB hL hn rfl ?_);simp only[go_sem,reduceAdd,reduceEqDiff,reduceLeDiff,reduceCtorEq,d0,hYl,dk,cF,wk1,hXl,wx])|((first|refine sC ?_|refine sH ?_|refine sI ?_|refine sJ ?_);try simp only[ap])|refine sD ?_|refine sE ?_|refine sF rfl ?_|refine sG rfl ?_)
 rotate_left
 have dk:decide (((ks.length:Nat):Int)>0)=true:=decide_eq_true (by omega)
 repeat(first|((first|refine sA hL hn rfl ?_|refine sB hL hn rfl ?_);simp only[go_sem,reduceAdd,reduceEqDiff,reduceLeDiff,reduceCtorEq,d0,hYl,dk,cF,wk2,hXl,wx])|((first|refine sC ?_|refine sH ?_|refine sI ?_|refine sJ ?_);try simp only[ap])|refine sD ?_|refine sE ?_|refine sF rfl ?_|refine sG rfl ?_)
 all_goals
  refine SW.lpg (fun k:Nat=>⟨[(1,.ptr 0 1 0 0),(5,.int .i64 (kd:Int)),(6,.sl 1 (3+k) 0 (3+k)),(31,.vec c 2 X),(32,.int .i64 xs.length),(33,.int .i64 k)],[N,.arr 25 1 (F k)]⟩) (fun k=>xs.length-k) (fun k=>k≤xs.length) 0 (by omega) ?_ ?_
  ·exact .of (by rw[hN,hF0,e2];rfl) (by simp[aC,lk,e2])
  intro k hk1
  by_cases hlt:k<xs.length
  ·have e1:decide ((k:Int)<((xs.length:Nat):Int))=true:=decide_eq_true (by omega)
   have e3:(0≤(k:Int)∧(k:Int)<((X.length:Nat):Int)):=by omega
   have h1:=hF1 k hlt
   obtain⟨p,hp⟩:∃p,p=xs[k]'hlt:=⟨_,rfl⟩
   rw[←hp] at h1
   obtain⟨p1,p2⟩:=p
   have e4:X[k]?.getD .undef=.agg [.int .u64 p1,.int .u64 p2]:=by rw[hX];simp[hlt,eT,←hp]
   have w1:IntKind.i64.wrap ((k:Int)+1)=((k+1:Nat):Int):=wi (by omega) (by omega)
   have hl1:=hFl k hk1
   have hcap:((3+(k+1))*8≤140737488355328)=True:=eq_true (by omega)
   rw[hN]
   repeat(first|((first|refine sA hL hn rfl ?_|refine sB hL hn rfl ?_);simp only[go_sem,reduceAdd,reduceEqDiff,Bv,reduceLeDiff,reduceCtorEq,e1,e3,e4,aG,hl1,hcap,w1,h1])|((first|refine sC ?_|refine sH ?_|refine sI ?_|refine sJ ?_);try simp only[ap])|refine sD ?_|refine sE ?_|refine sF rfl ?_|refine sG rfl ?_)
   refine Lp.nextg (k+1) (by omega) (by omega) ?_
   exact ai.keep (σ:=[]) (X:=[Ob.arr 95 2 [.agg [.vec c 2 X,.vec c' 1 Y]],.arr 25 1 (F (k+1)),.arr 27 2 [.agg [.int .u64 p1,.int .u64 p2]],.arr 25 1 [.int .u64 p1]]) 2 _ hσ hfix (by simp[aC,lk]) (by simp[ax,fm,da,eZ,hlow]) ⟨by simp[aH,cl,hlow,hlowY],hFo _ _,trivial⟩ (by simp[ax,aH,cl,cb,ig])
  ·have e1:decide ((k:Int)<((xs.length:Nat):Int))=false:=decide_eq_false (by omega)
   obtain rfl:k=xs.length:=by omega
   rw[hFG,hN]
   repeat(first|((first|refine sA hL hn rfl ?_|refine sB hL hn rfl ?_);simp only[go_sem,reduceEqDiff,reduceLeDiff,reduceCtorEq,e1,hYl])|((first|refine sC ?_|refine sH ?_|refine sI ?_|refine sJ ?_);try simp only[ap,aY,bP,if_true])|refine sD ?_|refine sE ?_|refine sF rfl ?_|refine sG rfl ?_)
   refine SW.lpg (fun k:Nat=>⟨[(1,.ptr 0 1 0 0),(5,.int .i64 (kd:Int)),(6,.sl 1 (M+k) 0 (M+k)),(44,.vec c' 1 Y),(45,.int .i64 ks.length),(46,.int .i64 k)],[N,.arr 25 1 (G k)]⟩) (fun k=>ks.length-k) (fun k=>k≤ks.length) 0 (by omega) ?_ ?_
   ·exact .of (by rw[hN]) (by simp[aC,lk,hM])
   intro k hk1
   by_cases hlt:k<ks.length
   ·have e1:decide ((k:Int)<((ks.length:Nat):Int))=true:=decide_eq_true (by omega)
    have e3:(0≤(k:Int)∧(k:Int)<((Y.length:Nat):Int)):=by omega
    have h1:=hG1 k hlt
    obtain⟨p,hp⟩:∃p,p=ks[k]'hlt:=⟨_,rfl⟩
    have e4:Y[k]?.getD .undef=.int .i64 p:=by rw[hY];simp[hlt,eI,←hp]
    rw[←hp] at h1
    obtain⟨u,hu⟩:∃u,u=IntKind.u64.wrap p:=⟨_,rfl⟩
    rw[←hu] at h1
    have w1:IntKind.i64.wrap ((k:Int)+1)=((k+1:Nat):Int):=wi (by omega) (by omega)
    have hl1:=hGl k hk1
    have hcap:((M+(k+1))*8≤140737488355328)=True:=eq_true (by omega)
    rw[hN]
    repeat(first|((first|refine sA hL hn rfl ?_|refine sB hL hn rfl ?_);simp only[go_sem,reduceAdd,reduceEqDiff,Bv,reduceLeDiff,reduceCtorEq,e1,e3,e4,aG,hl1,←hu,hcap,w1,h1,cF])|((first|refine sC ?_|refine sH ?_|refine sI ?_|refine sJ ?_);try simp only[ap])|refine sD ?_|refine sE ?_|refine sF rfl ?_|refine sG rfl ?_)
    refine Lp.nextg (k+1) (by omega) (by omega) ?_
    exact ai.keep (σ:=[]) (X:=[Ob.arr 95 2 [.agg [.vec c 2 X,.vec c' 1 Y]],.arr 25 1 (G (k+1)),.arr 25 1 [.int .u64 u]]) 2 _ hσ hfix (by simp[aC,lk]) (by simp[ax,fm,da,eZ,hlowY]) ⟨by simp[aH,cl,hlow,hlowY],hGo _ _,trivial⟩ (by simp[ax,cl,cb,ig])
   ·have e1:decide ((k:Int)<((ks.length:Nat):Int))=false:=decide_eq_false (by omega)
    obtain rfl:k=ks.length:=by omega
    rw[hGH,hN]
    repeat(first|((first|refine sA hL hn rfl ?_|refine sB hL hn rfl ?_);simp only[go_sem,reduceEqDiff,e1])|((first|refine sC ?_|refine sH ?_|refine sI ?_|refine sJ ?_);try simp only[ap,aY,bP,if_true])|refine sD ?_|refine sE ?_|refine sF rfl ?_|refine sG rfl ?_)
    refine SW.lpg (fun k:Nat=>⟨[(1,.ptr 0 1 0 0),(5,.int .i64 (kd:Int)),(6,.sl 1 (M2+k) 0 (M2+k)),(11,.int .i64 k)],[N,.arr 25 1 (H k)]⟩) (fun k=>xs.length-k) (fun k=>k≤xs.length∧(kd=2→k=0)) 0 (by omega) ?_ ?_
    ·exact .of (by rw[hN]) (by simp[aC,lk,hM2])
    rintro k ⟨hk1,hk2⟩
    have e1:decide ((k:Int)<((xs.length:Nat):Int))=decide (k<xs.length):=by simp
    by_cases hgo:k<xs.length∧kd=1
    ·obtain⟨hlt,e⟩:=hgo
     have e1:decide ((k:Int)<((xs.length:Nat):Int))=true:=decide_eq_true (by omega)
     have e5:((kd:Int)==1)=true:=by rw[e];rfl
     have e3:(0≤(k:Int)∧(k:Int)<((X.length:Nat):Int)):=by omega
     have e6:((k:Int)<((xs.length:Nat):Int))=True:=eq_true (by omega)
     have h1:=hH1 k hlt e
     obtain⟨p,hp⟩:∃p,p=xs[k]'hlt:=⟨_,rfl⟩
     rw[←hp] at h1
     obtain⟨p1,p2⟩:=p
     have e4:X[k]?.getD .undef=.agg [.int .u64 p1,.int .u64 p2]:=by rw[hX];simp[hlt,eT,←hp]
     have w1:IntKind.i64.wrap ((k:Int)+1)=((k+1:Nat):Int):=wi (by omega) (by omega)
     have hl1:=hHl k hk1 hk2
     have hcap:((M2+(k+1))*8≤140737488355328)=True:=eq_true (by omega)
     rw[hN]
     repeat(first|((first|refine sA hL hn rfl ?_|refine sB hL hn rfl ?_);simp only[go_sem,reduceAdd,reduceEqDiff,Bv,reduceLeDiff,reduceCtorEq,hXl,e5,e6,e3,e4,aG,hl1,hcap,w1,h1])|((first|refine sC ?_|refine sH ?_|refine sI ?_|refine sJ ?_);try simp only[ap])|refine sD ?_|refine sE ?_|refine sF rfl ?_|refine sG rfl ?_)
     refine Lp.nextg (k+1) ?_ ?_ ?_
     ·exact⟨by omega,fun e'=>by omega⟩
     ·omega
     exact ai.keep (σ:=[]) (X:=[Ob.arr 95 2 [.agg [.vec c 2 X,.vec c' 1 Y]],.arr 25 1 (H (k+1)),.arr 25 1 [.int .u64 p2]]) 2 _ hσ hfix (by simp[aC,lk]) (by simp[ax,fm,da,eZ]) ⟨by simp[aH,cl,hlow,hlowY],hHo _ _,trivial⟩ (by simp[ax,cl,cb,ig])
    ·have hVk:H k=V:=hHV k hk2 (fun e=>by
      apply Classical.byContradiction
      intro h
      exact hgo ⟨by omega,e⟩)
     have hVl:M2+k=V.length:=by rw[←hVk];exact(hHl k hk1 hk2).symm
     have hVo:∀m,∀x∈V,Low m x:=fun m=>by rw[←hVk];exact hHo m k
     have hq:(decide ((k:Int)<((xs.length:Nat):Int))=true∧((kd:Int)==1)=false)∨decide ((k:Int)<((xs.length:Nat):Int))=false:=by
      by_cases h:k<xs.length
      ·refine .inl ⟨decide_eq_true (by omega),?_⟩
       simp
       intro e
       exact hgo ⟨h,by omega⟩
      ·exact .inr (decide_eq_false (by omega))
     rw[hN,hVk,hVl]
     have wz:IntKind.i64.wrap (60-((B.length:Nat):Int))=((60-B.length:Nat):Int):=wi (by omega) (by omega)
     have z1:(0≤((60-B.length:Nat):Int))=True:=eq_true (by omega)
     have z2:(((60-B.length:Nat):Int)*1≤1073741824)=True:=eq_true (by omega)
     have z3:(((60-B.length:Nat):Int)≤1073741824)=True:=eq_true (by omega)
     have hZe:Bd++AO (60-B.length) (.int .u8 0)=Zd:=by rw[hZd,hZ,hBd,hcz];simp
     obtain⟨Q,hQ⟩:∃Q,Q=AO (60-B.length) (DV.int .u8 0):=⟨_,rfl⟩
     have hQl:Q.length=60-B.length:=by rw[hQ,Br]
     have aQ:(Q.all fun y=>y.cells.all DV.one)=true:=by rw[hQ,hcz];exact kU _
     have hrep:=hQ.symm
     simp only[DV.cells] at aQ
     have z2':(((60-B.length:Nat):Int)*((1:Nat):Int)≤1073741824)=True:=eq_true (by omega)
     rw[hrep] at hZe
     have hcl:B.length+(60-B.length)=60:=by omega
     have gz:(60-B.length=0)=False:=eq_false (by omega)
     have hXn:∀id,bj id (.vec c 2 X):=fun id=>hlow 0 id (BD _)
     have hYn:∀id,bj id (.vec c' 1 Y):=fun id=>hlowY 0 id (BD _)
     have hVn:∀id,∀x∈V,bj id x:=fun id x hx=>hVo 0 x hx id (BD _)
     refine SW.ghost (ai.giveAt (σ:=[]) (X:=[Ob.arr 95 2 [.agg [.vec c 2 X,.vec c' 1 Y]],.arr 25 1 V]) 0 6 1 [(1,.ptr 0 1 0 0),(5,.int .i64 (kd:Int)),(11,.int .i64 k)] hσ hfix rfl (by simp[aC,lk]) (by simp[mN,kD,iI,iI]) (by simp[eY,jk,c8,c8,hXn,hYn];exact hVn 1) (hVn _)) ?_
     rcases hq with⟨q1,q2⟩|q1
     rotate_left
     repeat(first|((first|refine sA hL hn rfl ?_|refine sB hL hn rfl ?_);simp only[go_sem,reduceAdd,reduceEqDiff,reduceLeDiff,reduceCtorEq,q1,hXl])|((first|refine sC ?_|refine sH ?_|refine sI ?_|refine sJ ?_);try simp only[ap,aY,bP,if_true])|refine sD ?_|refine sE ?_|refine sF rfl ?_|refine sG rfl ?_)
     rotate_left
     repeat(first|((first|refine sA hL hn rfl ?_|refine sB hL hn rfl ?_);simp only[go_sem,reduceAdd,reduceEqDiff,reduceLeDiff,reduceCtorEq,q1,q2,hXl])|((first|refine sC ?_|refine sH ?_|refine sI ?_|refine sJ ?_);try simp only[ap,aY,bP,if_true])|refine sD ?_|refine sE ?_|refine sF rfl ?_|refine sG rfl ?_)
     all_goals
      refine sK hP hL hn rfl rfl (hwid _) rfl rfl rfl rfl ?_;simp (maxSteps:=2000000) only[go_sem,reduceEqDiff]
      refine sK hP hL hn rfl rfl (hpack _) rfl rfl rfl rfl ?_;simp (maxSteps:=2000000) only[go_sem,reduceAdd,reduceEqDiff]
      repeat(first|((first|refine sA hL hn rfl ?_|refine sB hL hn rfl ?_);simp only[go_sem,reduceEqDiff,Bv,reduceLeDiff,wz,hBdl,aG,hrep,aQ,hQl,z1,z2',Bg,hZe,hcl,gz])|((first|refine sC ?_|refine sH ?_|refine sI ?_|refine sJ ?_);try simp only[ap])|refine sD ?_|refine sE ?_|refine sF rfl ?_|refine sG rfl ?_)
      refine sK hP hL hn rfl rfl (hsealO _ rfl) rfl rfl rfl rfl ?_;simp (maxSteps:=2000000) only[go_sem,reduceEqDiff]
      repeat(first|((first|refine sA hL hn rfl ?_|refine sB hL hn rfl ?_);simp only[go_sem,CH,Cq,CZ,reduceAdd,reduceEqDiff,reduceIte,reduceSub,Bv,reduceMul,reduceLeDiff,reduceCtorEq])|((first|refine sC ?_|refine sH ?_|refine sI ?_|refine sJ ?_);try simp only[ap])|refine sD ?_|refine sE ?_|refine sF rfl ?_|refine sG rfl ?_)
      exact⟨_,_,_,ai.refl _ _,rfl,ag.refl _ _ _,rfl⟩
def di70_1:List DI:=[⟨[1],[],false,[0],some 9,[]⟩,⟨[9],[0],false,[0],some 10,[0]⟩,⟨[10],[0,1],false,[0],some 11,[1]⟩,⟨[11],[0,1,2],false,[0],some 12,[2]⟩,⟨[1],[],false,[0],some 13,[]⟩,⟨[13],[4],false,[0],some 14,[4]⟩,⟨[14],[4,5],false,[0],some 15,[5]⟩,⟨[15],[4,5,6],false,[0],some 16,[6]⟩,⟨[16],rg 4 4,false,[0],some 17,[7]⟩,⟨[12],rg 0 4,false,[0],some 3,([3]++rg 0 4)⟩,⟨[17],rg 0 10,false,[0],some 4,([8,9]++rg 0 10)⟩]
def di70_8:List DI:=[⟨[2],[],false,[0,1],some 28,[]⟩,⟨[28],[0],false,[0,1],some 29,[0]⟩,⟨[7],[],false,[0,1],some 30,[]⟩,⟨[6],[],false,[0],some 31,[]⟩,⟨[31],[3],true,[],some 32,[3]⟩,⟨[29,30],rg 0 5,false,[1],some 33,([1,2]++rg 0 5)⟩,⟨[33],rg 0 6,false,[1],some 34,([5]++rg 0 5)⟩,⟨[32,34],rg 0 7,true,[],none,([6,4,4]++rg 0 5)⟩]
def di70_14:List DI:=[⟨[2],[],false,[0,1],some 44,[]⟩,⟨[44],[0],false,[0,1],some 45,[0]⟩,⟨[8],[],false,[0,1],some 46,[]⟩,⟨[6],[],false,[0],some 47,[]⟩,⟨[47],[3],true,[],some 48,[3]⟩,⟨[45,46],rg 0 5,false,[1],some 49,([1,2]++rg 0 5)⟩,⟨[49],rg 0 6,false,[1],some 50,([5]++rg 0 5)⟩,⟨[48,50],rg 0 7,true,[],none,([6,4,4]++rg 0 5)⟩]
def di70_19:List DI:=[⟨[2],[],false,[0,1,2],some 57,[]⟩,⟨[57],[0],false,[0,1,2],some 58,[0]⟩,⟨[6],[],false,[0],some 59,[]⟩,⟨[59],[2],true,[],some 60,[2]⟩,⟨[60],[2,3],false,[1],some 61,[3]⟩,⟨[61],[2,3,4],true,[],some 62,[4]⟩,⟨[58,62],rg 0 6,true,[],some 63,[1,5,3]⟩,⟨[2],rg 0 7,false,[3],some 64,rg 0 7⟩,⟨[63,64],rg 0 8,true,[],none,([7,6,6]++rg 0 7)⟩]
theorem Tid.own{σ G:List Ob}{c:Nat}{R:Out→List Ob→Prop}{d D:DV}{id t k:Nat}{xs:List DV} (hid:G[id]?=some (.arr t k xs)) (hx:∀x∈xs,Low σ.length x) (hz:Gz (σ++G) c σ.length (some (σ.length+id)) d D) (hR:R (.ret D) (σ++[.arr t k xs])):Tid σ c R (.ret d) (σ++G):=by
 have hg:(σ++G)[σ.length+id]?=some (.arr t k xs):=by rw[ak];exact hid
 refine⟨σ,G,some (σ.length+id),d,D,rfl,er.refl σ,hz,fun i hi=>?_,.inl ⟨rfl,?_⟩⟩
 ·cases hi
  exact⟨by omega,t,k,xs,hg,hx⟩
 ·simpa[df,AZ,hg] using hR
theorem Tid.none{σ G:List Ob}{c:Nat}{R:Out→List Ob→Prop}{d D:DV} (hz:Gz (σ++G) c σ.length none d D) (hR:R (.ret D) σ):Tid σ c R (.ret d) (σ++G):=
 ⟨σ,G,DC,d,D,rfl,er.refl σ,hz,(fun i hi=>by cases hi),.inl ⟨rfl,by simpa[df] using hR⟩⟩
theorem Gz.agg2{O:List Ob}{c n:Nat}{J:Option Nat}{a b a' b':DV} (h:Gz O c n J a a') (k:Gz O c n J b b'):Gz O c n J (.agg [a,b]) (.agg [a',b']):=by
 refine .agg rfl fun i x y hx hy=>?_
 match i,hx,hy with
 |0,hx,hy=>cases hx;cases hy;exact h
 |1,hx,hy=>cases hx;cases hy;exact k
 |i+2,hx,_=>simp at hx
theorem Gz.tup2{O:List Ob}{c n:Nat}{J:Option Nat}{a b a' b':DV} (h:Gz O c n J a a') (k:Gz O c n J b b'):Gz O c n J (.tup [a,b]) (.tup [a',b']):=by
 refine .tup rfl fun i x y hx hy=>?_
 match i,hx,hy with
 |0,hx,hy=>cases hx;cases hy;exact h
 |1,hx,hy=>cases hx;cases hy;exact k
 |i+2,hx,_=>simp at hx
theorem Gz.row{O:List Ob}{c n id t k:Nat}{J:Option Nat}{xs:List DV} (hn:n≤id) (hJ:J≠some id) (ho:O[id]?=some (.arr t k xs)) (hx:∀x∈xs,Low n x):Gz O c n J (.sl id xs.length 0 xs.length) (.vec c k xs):=
 .sl hn hJ ho rfl (fun j x y _ h1 h2=>by rw[Bc,h2] at h1;cases h1;rfl) fun j i x y d D _ h1 h2 h3 h4=>by
  rw[Bc,h2] at h1;cases h1
  rw[h3] at h4;cases h4
  exact .low (cI (hx x (AM h2)) h3)
def fil{α:Type} (m k:Nat) (f g:Nat→α):List α:=(Bs m).map fun i=>if i<k then f i else g i
theorem js{α:Type} (m k:Nat) (f g:Nat→α):(fil m k f g).length=m:=by simp[fil]
theorem m6{α:Type} (m:Nat) (f g:Nat→α):fil m 0 f g=(Bs m).map g:=by simp[fil]
theorem ri{α:Type} (m:Nat) (f g:Nat→α):fil m m f g=(Bs m).map f:=by
 unfold fil
 refine Db fun i hi=>?_
 rw[if_pos (Cw.1 hi)]
theorem tZ{α:Type}{m k:Nat} (f g:Nat→α) (h:k<m):(fil m k f g)[k]?=some (g k):=by
 simp[fil,h]
theorem tY{α:Type}{m k:Nat} (f g:Nat→α) (h:k<m):(fil m k f g).set k (f k)=fil m (k+1) f g:=by
 apply BV
 intro j
 rw[B2,js]
 by_cases hj:k=j
 ·subst hj
  simp[h,fil]
 ·rw[if_neg hj]
  simp only[fil,AQ]
  by_cases hjm:j<m
  ·rw[List.getElem?_range hjm]
   simp only[AW]
   by_cases h1:j<k
   ·rw[if_pos h1,if_pos (by omega)]
   ·rw[if_neg h1,if_neg (by omega)]
  ·rw[BA (by simpa using hjm)];rfl
def pa (bs:List UInt8) (at_ size:Nat):Int:=(cq bs at_ size).1
def kdF (bs:List UInt8):Nat:=(bs.getD 0 0).toNat
def xh (bs:List UInt8):Nat:=min (bs.getD 1 0).toNat 3
def zR (bs:List UInt8) (i:Nat):Int:=pa bs (4+8*i) 8
def valF (bs:List UInt8) (m i:Nat):Int:=pa bs (4+8*m+8*i) 8
def kidF (bs:List UInt8) (m i:Nat):Int:=IntKind.i64.wrap (pa bs (4+8*m+4*i) 4)
def cV (bs:List UInt8):List It×List Int:=
 let m:=xh bs
 if kdF bs=1 then((Bs m).map fun i=>(zR bs i,valF bs m i),[])
 else((Bs m).map fun i=>(zR bs i,0),(Bs (m+1)).map (kidF bs m))
theorem yi (c:Nat) (bs:List UInt8) (at_ size:Nat) (h:at_≤1048576∧size≤8) (σ:List Ob) (b a:Nat) (hb:σ[b]?=some (.arr 67 1 [.vec c 1 (bs.map eB)])) (ha:σ[a]?=some (.arr 3 1 [.int .i64 at_])):
  Ok Try.prog 82 [.int .i64 size,.ptr b 1 0 0,.ptr a 1 0 0] σ (.ret (.int .u64 (pa bs at_ size))) (σ.set a (.arr 3 1 [.int .i64 ((at_+size:Nat):Int)])):=by
 have hg:=wV c bs at_ size
 obtain⟨v,hv⟩:∃v,v=cq bs at_ size:=⟨_,rfl⟩
 unfold pa
 rw[←hv] at hg⊢
 obtain⟨v1,v2⟩:=v
 have hl:=(AH.1 ha).1
 have w1:IntKind.i64.wrap ((at_:Int)+size)=((at_+size:Nat):Int):=wi (by omega) (by omega)
 refine Ok.of_body ae Try.func82 rfl (by decide) (by simp[Try.ntmps82]) fun C hP hn hσ hfix hdd=>?_
 rw[show Try.f82.ntmps=18 from rfl] at hn
 have hL:af C.P L:=hP▸ae
 have hm:C.P.follows .mixedOrders=true:=hP▸ao
 repeat(first|(refine sB hL hn rfl ?_;simp only[go_sem,seval,hb,ha])|refine sN rfl ?_|refine sC ?_)
 refine sK hP hL hn rfl rfl (hg _ (by omega)) rfl rfl rfl rfl ?_;simp (maxSteps:=2000000) only[go_sem,seval,eN]
 repeat(first|(refine sB hL hn rfl ?_;simp only[go_sem,seval,ha,w1])|refine sN rfl ?_|refine sC ?_)
 exact⟨_,_,_,ai.refl _ _,rfl,ag.refl _ _ _,rfl⟩
theorem qQ (c:Nat) (bs:List UInt8) (hl:bs.length=60) (σ:List Ob):
  Ok Try.prog 70 [.vec c 1 (bs.map eB)] σ (.ret (.agg [.sl σ.length (cV bs).1.length 0 (cV bs).1.length,.vec 0 1 ((cV bs).2.map eI)])) (σ++[.arr 27 2 ((cV bs).1.map eT)]):=by
 obtain⟨m,hmc⟩:∃m,m=xh bs:=⟨_,rfl⟩
 have hm3:m≤3:=by rw[hmc];unfold xh;omega
 have hnext:=fun at_ size h=>yi c bs at_ size h
 obtain⟨X,hX⟩:∃X,X=bs.map eB:=⟨_,rfl⟩
 have hXl:X.length=60:=by rw[hX,AN,hl]
 obtain⟨x0,hx0⟩:∃x,x=bs.getD 0 0:=⟨_,rfl⟩
 obtain⟨x1,hx1⟩:∃x,x=bs.getD 1 0:=⟨_,rfl⟩
 have g0:X[0]?.getD .undef=.int .u8 (x0.toNat:Int):=by rw[hX,hx0];simp[eB,AZ,show 0<bs.length by omega]
 have g1:X[1]?.getD .undef=.int .u8 (x1.toNat:Int):=by rw[hX,hx1];simp[eB,AZ,show 1<bs.length by omega]
 have hb0:=x0.toNat_lt
 have hb1:=x1.toNat_lt
 obtain⟨kd,hkd⟩:∃kd,kd=x0.toNat:=⟨_,rfl⟩
 obtain⟨m1,hm1⟩:∃m,m=x1.toNat:=⟨_,rfl⟩
 have hm':m=min m1 3:=by rw[hmc,hm1,hx1];rfl
 have hkF:kdF bs=kd:=by rw[hkd,hx0];rfl
 rw[←hkd] at g0
 rw[←hm1] at g1
 have w0:IntKind.i64.wrap (kd:Int)=(kd:Int):=wi (by omega) rfl
 have w1:IntKind.i64.wrap (m1:Int)=(m1:Int):=wi (by omega) rfl
 have mm:mn (m1:Int) 3=(m:Int):=by unfold mn;split<;>omega
 have hrl:(cV bs).1.length=m:=by unfold cV;split<;>simp[←hmc]
 have hms:∀σ:List Ob,pc L σ 41 (.int .i64 (m:Int)) (.int .i64 (m:Int))=some (.sl σ.length m 0 m,σ++[.arr 27 2 (AO m (.agg [.int .u64 0,.int .u64 0]))]):=by
  intro σ
  simp only[pc,L41,L27]
  rw[if_pos ⟨by omega,by omega,by omega,by omega,rfl,by decide⟩,Bg]
 rw[hrl]
 obtain⟨S,hS⟩:∃S,S=σ.length:=⟨_,rfl⟩
 obtain⟨KY,hKY⟩:∃KY:Nat→Int,KY=zR bs:=⟨_,rfl⟩
 obtain⟨VL,hVL⟩:∃VL:Nat→Int,VL=valF bs m:=⟨_,rfl⟩
 obtain⟨KD,hKD⟩:∃KD:Nat→Int,KD=kidF bs m:=⟨_,rfl⟩
 have hlX:∀n,Low n (.vec c 1 X):=fun n=>by rw[hX];exact aW n c bs
 have hread:cV bs=if kd=1 then((Bs m).map fun i=>(KY i,VL i),[]) else((Bs m).map fun i=>(KY i,0),(Bs (m+1)).map KD):=by
  unfold cV
  rw[hkF,←hmc,hKY,hVL,hKD]
 obtain⟨I1,hI1⟩:∃I1:Nat→List DV,I1=fun k=>(fil m k (fun i=>(KY i,0)) (fun _=>(0,0))).map eT:=⟨_,rfl⟩
 obtain⟨I2,hI2⟩:∃I2:Nat→List DV,I2=fun k=>(fil m k (fun i=>(KY i,VL i)) (fun i=>(KY i,0))).map eT:=⟨_,rfl⟩
 have h1l:∀k,(I1 k).length=m:=fun k=>by rw[hI1];simp[js]
 have h2l:∀k,(I2 k).length=m:=fun k=>by rw[hI2];simp[js]
 have h1g:∀k,k<m→(I1 k)[k]?=some (.agg [.int .u64 0,.int .u64 0]):=fun k hk=>by rw[hI1];simp[tZ _ _ hk,eT]
 have h2g:∀k,k<m→(I2 k)[k]?=some (.agg [.int .u64 (KY k),.int .u64 0]):=fun k hk=>by rw[hI2];simp[tZ _ _ hk,eT]
 have h1s:∀k,k<m→(I1 k).set k (.agg [.int .u64 (KY k),.int .u64 0])=I1 (k+1):=fun k hk=>by
  rw[hI1];dsimp only;rw[←tY _ _ hk,List.map_set];rfl
 have h2s:∀k,k<m→(I2 k).set k (.agg [.int .u64 (KY k),.int .u64 (VL k)])=I2 (k+1):=fun k hk=>by
  rw[hI2];dsimp only;rw[←tY _ _ hk,List.map_set];rfl
 have h10:AO m (DV.agg [.int .u64 0,.int .u64 0])=I1 0:=by
  rw[hI1];dsimp only;rw[m6];simp[eT,List.map_const']
 have h12:I1 m=I2 0:=by rw[hI1,hI2];dsimp only;rw[m6,ri]
 have h1o:∀n k,∀x∈I1 k,Low n x:=fun n k=>by rw[hI1];intro x hx;obtain⟨y,_,rfl⟩:=Ba.1 hx;exact cD n y
 have h2o:∀n k,∀x∈I2 k,Low n x:=fun n k=>by rw[hI2];intro x hx;obtain⟨y,_,rfl⟩:=Ba.1 hx;exact cD n y
 obtain⟨P1,hP1⟩:∃P1:Nat→Nat,P1=fun k=>4+8*k:=⟨_,rfl⟩
 obtain⟨P2,hP2⟩:∃P2:Nat→Nat,P2=fun k=>4+8*m+8*k:=⟨_,rfl⟩
 obtain⟨P3,hP3⟩:∃P3:Nat→Nat,P3=fun k=>4+8*m+4*k:=⟨_,rfl⟩
 have hP10:P1 0=4:=by rw[hP1]
 have hP12:P1 m=P2 0:=by rw[hP1,hP2];dsimp only;omega
 have hP13:P1 m=P3 0:=by rw[hP1,hP3];dsimp only;omega
 have hK1:∀k,k<m→∀(σ:List Ob) (b a:Nat),σ[b]?=some (.arr 67 1 [.vec c 1 X])→σ[a]?=some (.arr 3 1 [.int .i64 ((P1 k:Nat):Int)])→
   Ok Try.prog 82 [.int .i64 8,.ptr b 1 0 0,.ptr a 1 0 0] σ (.ret (.int .u64 (KY k))) (σ.set a (.arr 3 1 [.int .i64 ((P1 (k+1):Nat):Int)])):=by
  intro k hk σ b a h1 h2
  rw[hP1] at h2⊢
  have:=hnext (4+8*k) 8 (by omega) σ b a (by rw[←hX];exact h1) h2
  rw[hKY]
  exact this
 have hK2:∀k,k<m→∀(σ:List Ob) (b a:Nat),σ[b]?=some (.arr 67 1 [.vec c 1 X])→σ[a]?=some (.arr 3 1 [.int .i64 ((P2 k:Nat):Int)])→
   Ok Try.prog 82 [.int .i64 8,.ptr b 1 0 0,.ptr a 1 0 0] σ (.ret (.int .u64 (VL k))) (σ.set a (.arr 3 1 [.int .i64 ((P2 (k+1):Nat):Int)])):=by
  intro k hk σ b a h1 h2
  rw[hP2] at h2⊢
  have:=hnext (4+8*m+8*k) 8 (by omega) σ b a (by rw[←hX];exact h1) h2
  rw[hVL]
  exact this
 have hK3:∀k,k<m+1→∀(σ:List Ob) (b a:Nat),σ[b]?=some (.arr 67 1 [.vec c 1 X])→σ[a]?=some (.arr 3 1 [.int .i64 ((P3 k:Nat):Int)])→
   Ok Try.prog 82 [.int .i64 4,.ptr b 1 0 0,.ptr a 1 0 0] σ (.ret (.int .u64 (pa bs (4+8*m+4*k) 4))) (σ.set a (.arr 3 1 [.int .i64 ((P3 (k+1):Nat):Int)])):=by
  intro k hk σ b a h1 h2
  rw[hP3] at h2⊢
  exact hnext (4+8*m+4*k) 4 (by omega) σ b a (by rw[←hX];exact h1) h2
 have hKDe:∀k,IntKind.i64.wrap (pa bs (4+8*m+4*k) 4)=KD k:=fun k=>by rw[hKD];rfl
 rw[←hX]
 obtain⟨R,hR⟩:∃R:Out→List Ob→Prop,R=fun o O=>o=.ret (.agg [.sl σ.length m 0 m,.vec 0 1 ((cV bs).2.map eI)])∧O=σ++[.arr 27 2 ((cV bs).1.map eT)]:=⟨_,rfl⟩
 refine OkE.ok (Q:=R) (OkE.tidy (c:=0) ?_) (fun o O h=>by rw[hR] at h;exact h)
 refine OkE.of_body ae Try.func70 rfl (by decide) (by simp[Try.ntmps70]) fun C hP hn hσ hfix hdd=>?_
 rw[show Try.f70.ntmps=67 from rfl] at hn
 have hL:af C.P L:=hP▸ae
 have hm:C.P.follows .mixedOrders=true:=hP▸ao
 repeat(first|(refine sB hL hn rfl ?_;simp only[go_sem,seval])|refine sN rfl ?_|refine sC ?_)
 refine(?_:SW C _ _ _);first|refine sL hL hm hn di70_1 [σ++[Ob.arr 67 1 [.vec c 1 X],.arr 95 2 [.agg [.nils,.nils]]]] rfl rfl rfl ?_|refine sM hL hm hn di70_1 [σ++[Ob.arr 67 1 [.vec c 1 X],.arr 95 2 [.agg [.nils,.nils]]]] rfl rfl rfl ?_
 unfold di70_1
 have z60:((0:Int)<((60:Nat):Int))=True:=by decide
 have z61:((1:Int)<((60:Nat):Int))=True:=by decide
 have t0:Ce 0=0:=rfl
 have t1:Ce 1=1:=rfl
 repeat(rw[ah];simp (maxSteps:=2000000) only[go_sem,seval,g0,g1,hXl,w0,w1,mm,cF,og,t0,t1])
 try rw[aj]
 try simp only[go_sem,seval]
 repeat(first|(refine sB hL hn rfl ?_;simp only[go_sem,seval,hms,h10])|refine sN rfl ?_|refine sC ?_)
 refine SW.lpg (fun k:Nat=>⟨[(1,.ptr σ.length 1 0 0),(2,.ptr (σ.length+1) 1 0 0),(3,.int .i64 kd),(4,.int .i64 m),(5,.ptr (σ.length+2) 1 0 0),(6,.fn 82 [.ptr σ.length 1 0 0,.ptr (σ.length+2) 1 0 0]),(24,.int .i64 m),(25,.int .i64 k)],σ++[Ob.arr 67 1 [.vec c 1 X],.arr 95 2 [.agg [.sl (σ.length+3) m 0 m,.nils]],.arr 3 1 [.int .i64 ((P1 k:Nat):Int)],.arr 27 2 (I1 k)]⟩) (fun k=>m-k) (fun k=>k≤m) 0 (by omega) (.of (by rw[hP10];rfl) (by simp[aC,lk])) ?_
 intro k hk
 by_cases hlt:k<m
 ·have e1:decide ((k:Int)<(m:Int))=true:=decide_eq_true (by omega)
  have e2:(0≤(k:Int)∧(k:Int)<(m:Int)):=by omega
  have e3:k+1≤m:=by omega
  have w2:IntKind.i64.wrap ((k:Int)+1)=((k+1:Nat):Int):=wi (by omega) (by omega)
  have hc:Ok Try.prog 82 [.int .i64 8,.ptr σ.length 1 0 0,.ptr (σ.length+2) 1 0 0] (σ++[Ob.arr 67 1 [.vec c 1 X],.arr 95 2 [.agg [.sl (σ.length+3) m 0 m,.nils]],.arr 3 1 [.int .i64 ((P1 k:Nat):Int)],.arr 27 2 (I1 k)]) (.ret (.int .u64 (KY k))) (σ++[Ob.arr 67 1 [.vec c 1 X],.arr 95 2 [.agg [.sl (σ.length+3) m 0 m,.nils]],.arr 3 1 [.int .i64 ((P1 (k+1):Nat):Int)],.arr 27 2 (I1 k)]):=by
   have:=hK1 k hlt (σ++[Ob.arr 67 1 [.vec c 1 X],.arr 95 2 [.agg [.sl (σ.length+3) m 0 m,.nils]],.arr 3 1 [.int .i64 ((P1 k:Nat):Int)],.arr 27 2 (I1 k)]) σ.length (σ.length+2) (by rw[aL];rfl) (by rw[ak];rfl)
   rw[ay] at this
   exact this
  have l1:=h1l k
  have l2:=h1g k hlt
  have l3:=h1s k hlt
  repeat(first|(refine sB hL hn rfl ?_;simp only[go_sem,seval,e1])|refine sN rfl ?_|refine sC ?_)
  refine(?_:SW C _ _ _);refine sM hL hm hn di70_8 [σ++[Ob.arr 67 1 [.vec c 1 X],.arr 95 2 [.agg [.sl (σ.length+3) m 0 m,.nils]],.arr 3 1 [.int .i64 ((P1 k:Nat):Int)],.arr 27 2 (I1 k)],σ++[Ob.arr 67 1 [.vec c 1 X],.arr 95 2 [.agg [.sl (σ.length+3) m 0 m,.nils]],.arr 3 1 [.int .i64 ((P1 (k+1):Nat):Int)],.arr 27 2 (I1 k)],σ++[Ob.arr 67 1 [.vec c 1 X],.arr 95 2 [.agg [.sl (σ.length+3) m 0 m,.nils]],.arr 3 1 [.int .i64 ((P1 (k+1):Nat):Int)],.arr 27 2 (I1 (k+1))]] rfl rfl rfl ?_
  unfold di70_8
  repeat(rw[ah];simp (maxSteps:=2000000) only[go_sem,seval])
  try rw[aj]
  try simp only[go_sem,seval,l1]
  refine aI.effx hP (hc) rfl rfl rfl rfl ?_;simp (maxSteps:=2000000) only[go_sem,seval,aj,ah,e2,l1,l2,l3,Bg]
  repeat(first|(refine sB hL hn rfl ?_;simp only[go_sem,seval,w2])|refine sN rfl ?_|refine sC ?_)
  exact Lp.nextg (k+1) (by omega) (by omega) (.of rfl (by simp[aC,lk]))
 have e1:decide ((k:Int)<(m:Int))=false:=decide_eq_false (by omega)
 obtain rfl:m=k:=by omega
 rw[h12]
 by_cases hkd1:kd=1
 ·have d1:((kd:Int)==1)=true:=by rw[hkd1];rfl
  have l0:=h2l 0
  rw[hP12]
  repeat(first|(refine sB hL hn rfl ?_;simp only[go_sem,seval,e1,d1])|refine sN rfl ?_|refine sC ?_)
  refine SW.lpg (fun j:Nat=>⟨[(1,.ptr σ.length 1 0 0),(2,.ptr (σ.length+1) 1 0 0),(5,.ptr (σ.length+2) 1 0 0),(6,.fn 82 [.ptr σ.length 1 0 0,.ptr (σ.length+2) 1 0 0]),(40,.int .i64 m),(41,.int .i64 j)],σ++[Ob.arr 67 1 [.vec c 1 X],.arr 95 2 [.agg [.sl (σ.length+3) m 0 m,.nils]],.arr 3 1 [.int .i64 ((P2 j:Nat):Int)],.arr 27 2 (I2 j)]⟩) (fun j=>m-j) (fun j=>j≤m) 0 (by omega) (.of rfl (by simp[aC,lk])) ?_
  intro j hj
  by_cases hlt:j<m
  ·have e1:decide ((j:Int)<(m:Int))=true:=decide_eq_true (by omega)
   have e2:(0≤(j:Int)∧(j:Int)<(m:Int)):=by omega
   have e3:j+1≤m:=by omega
   have w2:IntKind.i64.wrap ((j:Int)+1)=((j+1:Nat):Int):=wi (by omega) (by omega)
   have hc:Ok Try.prog 82 [.int .i64 8,.ptr σ.length 1 0 0,.ptr (σ.length+2) 1 0 0] (σ++[Ob.arr 67 1 [.vec c 1 X],.arr 95 2 [.agg [.sl (σ.length+3) m 0 m,.nils]],.arr 3 1 [.int .i64 ((P2 j:Nat):Int)],.arr 27 2 (I2 j)]) (.ret (.int .u64 (VL j))) (σ++[Ob.arr 67 1 [.vec c 1 X],.arr 95 2 [.agg [.sl (σ.length+3) m 0 m,.nils]],.arr 3 1 [.int .i64 ((P2 (j+1):Nat):Int)],.arr 27 2 (I2 j)]):=by
    have:=hK2 j hlt (σ++[Ob.arr 67 1 [.vec c 1 X],.arr 95 2 [.agg [.sl (σ.length+3) m 0 m,.nils]],.arr 3 1 [.int .i64 ((P2 j:Nat):Int)],.arr 27 2 (I2 j)]) σ.length (σ.length+2) (by rw[aL];rfl) (by rw[ak];rfl)
    rw[ay] at this
    exact this
   have l1:=h2l j
   have l2:=h2g j hlt
   have l3:=h2s j hlt
   repeat(first|(refine sB hL hn rfl ?_;simp only[go_sem,seval,e1])|refine sN rfl ?_|refine sC ?_)
   refine(?_:SW C _ _ _);refine sM hL hm hn di70_14 [σ++[Ob.arr 67 1 [.vec c 1 X],.arr 95 2 [.agg [.sl (σ.length+3) m 0 m,.nils]],.arr 3 1 [.int .i64 ((P2 j:Nat):Int)],.arr 27 2 (I2 j)],σ++[Ob.arr 67 1 [.vec c 1 X],.arr 95 2 [.agg [.sl (σ.length+3) m 0 m,.nils]],.arr 3 1 [.int .i64 ((P2 (j+1):Nat):Int)],.arr 27 2 (I2 j)],σ++[Ob.arr 67 1 [.vec c 1 X],.arr 95 2 [.agg [.sl (σ.length+3) m 0 m,.nils]],.arr 3 1 [.int .i64 ((P2 (j+1):Nat):Int)],.arr 27 2 (I2 (j+1))]] rfl rfl rfl ?_
   unfold di70_14
   repeat(rw[ah];simp (maxSteps:=2000000) only[go_sem,seval])
   try rw[aj]
   try simp only[go_sem,seval,l1]
   refine aI.effx hP (hc) rfl rfl rfl rfl ?_;simp (maxSteps:=2000000) only[go_sem,seval,aj,ah,e2,l1,l2,l3,Bg]
   repeat(first|(refine sB hL hn rfl ?_;simp only[go_sem,seval,w2])|refine sN rfl ?_|refine sC ?_)
   exact Lp.nextg (j+1) (by omega) (by omega) (.of rfl (by simp[aC,lk]))
  have e1:decide ((j:Int)<(m:Int))=false:=decide_eq_false (by omega)
  obtain rfl:m=j:=by omega
  repeat(first|(refine sB hL hn rfl ?_;simp only[go_sem,seval,e1])|refine sN rfl ?_|refine sC ?_)
  refine⟨_,_,?_,_,(.agg [.sl (σ.length+3) m 0 m,.nils]),_,ai.refl _ _,?_,ag.refl _ _ _,rfl⟩
  rotate_left
  show aF L _ [Go.ResultVar.cell 2 95]=_
  simp only[aF,cA,aV,go_sem,seval]
  refine Tid.own (id:=3) rfl (h2o _ _) (.agg2 (.own rfl) (.nil (k:=1))) ?_
  rw[hR,hread,if_pos hkd1]
  refine⟨rfl,?_⟩
  rw[hI2];dsimp only;rw[ri]
 ·have d1:((kd:Int)==1)=false:=by simp;omega
  rw[hP13]
  have w3:IntKind.i64.wrap ((m:Int)+1)=((m+1:Nat):Int):=wi (by omega) (by omega)
  obtain⟨M,hM⟩:∃M,M=m+1:=⟨_,rfl⟩
  rw[←hM] at w3
  obtain⟨KL,hKL⟩:∃KL:Nat→List DV,KL=fun j=>((Bs j).map KD).map eI:=⟨_,rfl⟩
  have hKLl:∀j,(KL j).length=j:=fun j=>by rw[hKL];simp
  have hKLs:∀j,KL j++[.int .i64 (KD j)]=KL (j+1):=fun j=>by rw[hKL];simp[List.range_succ,eI]
  have hKLo:∀n j,∀x∈KL j,Low n x:=fun n j=>by rw[hKL];intro x hx;obtain⟨y,_,rfl⟩:=Ba.1 hx;exact sR n y
  have hKL0:KL 0=[]:=by rw[hKL];rfl
  repeat(first|(refine sB hL hn rfl ?_;simp only[go_sem,seval,e1,d1,w3])|refine sN rfl ?_|refine sC ?_)
  refine SW.ghost (ai.newNilIn (σ.length+1) 1 3 1 (t:=95) (k:=2) (cs:=[.sl (σ.length+3) m 0 m,.nils]) (by rw[ak];rfl) rfl) ?_
  refine SW.lpg (fun j:Nat=>⟨[(1,.ptr σ.length 1 0 0),(2,.ptr (σ.length+1) 1 0 0),(5,.ptr (σ.length+2) 1 0 0),(6,.fn 82 [.ptr σ.length 1 0 0,.ptr (σ.length+2) 1 0 0]),(54,.int .i64 M),(55,.int .i64 j)],σ++[Ob.arr 67 1 [.vec c 1 X],.arr 95 2 [.agg [.sl (σ.length+3) m 0 m,.sl (σ.length+4) (j) 0 (j)]],.arr 3 1 [.int .i64 ((P3 j:Nat):Int)],.arr 27 2 (I2 0),.arr 3 1 (KL j)]⟩) (fun j=>M-j) (fun j=>j≤M) 0 (by omega) (.of (by rw[ay,AR,hKL0];simp) (by simp[aC,lk])) ?_
  intro j hj
  by_cases hlt:j<M
  ·have e1:decide ((j:Int)<(M:Int))=true:=decide_eq_true (by omega)
   have w2:IntKind.i64.wrap ((j:Int)+1)=((j+1:Nat):Int):=wi (by omega) (by omega)
   have hc:Ok Try.prog 82 [.int .i64 4,.ptr σ.length 1 0 0,.ptr (σ.length+2) 1 0 0] (σ++[Ob.arr 67 1 [.vec c 1 X],.arr 95 2 [.agg [.sl (σ.length+3) m 0 m,.sl (σ.length+4) (j) 0 (j)]],.arr 3 1 [.int .i64 ((P3 j:Nat):Int)],.arr 27 2 (I2 0),.arr 3 1 (KL j)]) (.ret (.int .u64 (pa bs (4+8*m+4*j) 4))) (σ++[Ob.arr 67 1 [.vec c 1 X],.arr 95 2 [.agg [.sl (σ.length+3) m 0 m,.sl (σ.length+4) (j) 0 (j)]],.arr 3 1 [.int .i64 ((P3 (j+1):Nat):Int)],.arr 27 2 (I2 0),.arr 3 1 (KL j)]):=by
    have:=hK3 j (by omega) (σ++[Ob.arr 67 1 [.vec c 1 X],.arr 95 2 [.agg [.sl (σ.length+3) m 0 m,.sl (σ.length+4) (j) 0 (j)]],.arr 3 1 [.int .i64 ((P3 j:Nat):Int)],.arr 27 2 (I2 0),.arr 3 1 (KL j)]) σ.length (σ.length+2) (by rw[aL];rfl) (by rw[ak];rfl)
    rw[ay] at this
    exact this
   have l1:=hKLl j
   have l2:=hKLs j
   have l3:=hKDe j
   have hcap:((j+1)*8≤140737488355328)=True:=eq_true (by omega)
   obtain⟨nv,hnv⟩:∃nv,nv=pa bs (4+8*m+4*j) 4:=⟨_,rfl⟩
   rw[←hnv] at hc l3
   repeat(first|(refine sB hL hn rfl ?_;simp only[go_sem,seval,e1])|refine sN rfl ?_|refine sC ?_)
   refine(?_:SW C _ _ _);refine sM hL hm hn di70_19 [σ++[Ob.arr 67 1 [.vec c 1 X],.arr 95 2 [.agg [.sl (σ.length+3) m 0 m,.sl (σ.length+4) (j) 0 (j)]],.arr 3 1 [.int .i64 ((P3 j:Nat):Int)],.arr 27 2 (I2 0),.arr 3 1 (KL j)],σ++[Ob.arr 67 1 [.vec c 1 X],.arr 95 2 [.agg [.sl (σ.length+3) m 0 m,.sl (σ.length+4) (j) 0 (j)]],.arr 3 1 [.int .i64 ((P3 (j+1):Nat):Int)],.arr 27 2 (I2 0),.arr 3 1 (KL j)],σ++[Ob.arr 67 1 [.vec c 1 X],.arr 95 2 [.agg [.sl (σ.length+3) m 0 m,.sl (σ.length+4) (j) 0 (j)]],.arr 3 1 [.int .i64 ((P3 (j+1):Nat):Int)],.arr 27 2 (I2 0),.arr 3 1 (KL j),.arr 3 1 [.int .i64 (KD j)]],σ++[Ob.arr 67 1 [.vec c 1 X],.arr 95 2 [.agg [.sl (σ.length+3) m 0 m,.sl (σ.length+4) (j) 0 (j)]],.arr 3 1 [.int .i64 ((P3 (j+1):Nat):Int)],.arr 27 2 (I2 0),.arr 3 1 (KL (j+1)),.arr 3 1 [.int .i64 (KD j)]],σ++[Ob.arr 67 1 [.vec c 1 X],.arr 95 2 [.agg [.sl (σ.length+3) m 0 m,.sl (σ.length+4) (j+1) 0 (j+1)]],.arr 3 1 [.int .i64 ((P3 (j+1):Nat):Int)],.arr 27 2 (I2 0),.arr 3 1 (KL (j+1)),.arr 3 1 [.int .i64 (KD j)]]] rfl rfl rfl ?_
   unfold di70_19
   repeat(rw[ah];simp (maxSteps:=2000000) only[go_sem,seval])
   try rw[aj]
   try simp only[go_sem,seval,l1]
   refine aI.effx hP (hc) rfl rfl rfl rfl ?_;simp (maxSteps:=2000000) only[go_sem,seval,aj,ah,cF,l1,l2,l3,aG,hcap]
   repeat(first|(refine sB hL hn rfl ?_;simp only[go_sem,seval,w2])|refine sN rfl ?_|refine sC ?_)
   refine Lp.nextg (j+1) (by omega) (by omega) ?_
   exact ai.keep (X:=[Ob.arr 67 1 [.vec c 1 X],.arr 95 2 [.agg [.sl (σ.length+3) m 0 m,.sl (σ.length+4) (j+1) 0 (j+1)]],.arr 3 1 [.int .i64 ((P3 (j+1):Nat):Int)],.arr 27 2 (I2 0),.arr 3 1 (KL (j+1)),.arr 3 1 [.int .i64 (KD j)]]) 5 _ hσ hfix (by simp[aC,lk]) (by simp[ax,pj,fm,eZ]) (by simp[ax,aH,da,g7,cl,hlX];exact⟨h2o _ _,hKLo _ _⟩) (by simp[ax,cl,cb,ig])
  have e1:decide ((j:Int)<(M:Int))=false:=decide_eq_false (by omega)
  obtain rfl:M=j:=by omega
  repeat(first|(refine sB hL hn rfl ?_;simp only[go_sem,seval,e1])|refine sN rfl ?_|refine sC ?_)
  refine⟨_,_,?_,_,(.agg [.sl (σ.length+3) m 0 m,.sl (σ.length+4) M 0 M]),_,ai.refl _ _,?_,ag.refl _ _ _,rfl⟩
  rotate_left
  show aF L _ [Go.ResultVar.cell 2 95]=_
  simp only[aF,cA,aV,go_sem,seval]
  refine Tid.own (id:=3) rfl (h2o _ _) (.agg2 (.own rfl) ?_) ?_ (D:=.agg [.sl σ.length m 0 m,.vec 0 1 (KL M)])
  ·have:=Gz.row (O:=σ++[Ob.arr 67 1 [.vec c 1 X],.arr 95 2 [.agg [.sl (σ.length+3) m 0 m,.sl (σ.length+4) (M) 0 (M)]],.arr 3 1 [.int .i64 ((P3 M:Nat):Int)],.arr 27 2 (I2 0),.arr 3 1 (KL M)]) (c:=0) (J:=some (σ.length+3)) (n:=σ.length) (id:=σ.length+4) (t:=3) (k:=1) (xs:=KL M) (by omega) (by simp) (by rw[ak];rfl) (hKLo _ _)
   rw[hKLl] at this
   exact this
  rw[hR,hread,if_neg hkd1]
  refine⟨?_,?_⟩
  ·rw[hKL,hM]
  ·rw[hI2];dsimp only;rw[m6]
def av (bs:List UInt8):(List It×List Int)×Int:=
 if bs.length≠64 then(([],[]),8)
 else if(cv bs).2≠0 then(([],[]),(cv bs).2)
 else if kdF (cv bs).1≠1∧kdF (cv bs).1≠2 then(([],[]),22)
 else if(bl (cV (cv bs).1).1 (cV (cv bs).1).2).2≠0∨bs≠(bl (cV (cv bs).1).1 (cV (cv bs).1).2).1 then(([],[]),21)
 else(cV (cv bs).1,0)
theorem uP{bs:List UInt8} (hl:bs.length=64) (h:(cv bs).2=0):(cv bs).1=bs.take 60:=by
 unfold cv at h⊢
 split
 ·rename_i hq;rw[if_pos hq] at h;cases h
 ·rfl
theorem nW (bs:List UInt8):(cV bs).1.length≤3∧(cV bs).2.length≤4:=by
 have:xh bs≤3:=by unfold xh;omega
 unfold cV
 split
 ·simp;omega
 ·simp;omega
theorem t4 (a b:List UInt8):eqB a b=true↔a=b:=by
 unfold eqB
 rw[←beq_toListBytes]
 constructor
 ·intro h
  have:=rE h
  simpa[jP] using this
 ·rintro rfl
  exact oD _
theorem m9 (c:Nat) (bs:List UInt8) (σ:List Ob) (R:Out→List Ob→Prop)
  (h0:(av bs).2=0→R (.ret (.tup [.agg [.sl σ.length (av bs).1.1.length 0 (av bs).1.1.length,.vec 0 1 ((av bs).1.2.map eI)],.int .i64 0])) (σ++[.arr 27 2 ((av bs).1.1.map eT)]))
  (h1:(av bs).2≠0→R (.ret (.tup [.agg [.nils,.nils],.int .i64 (av bs).2])) σ):
  OkE Try.prog 61 [.vec c 1 (bs.map eB)] σ R:=by
 have hlow:∀(n:Nat) (e:Int),Low n (.tup [.agg [.nils,.nils],.int .i64 e]):=fun n e=>by simp[ax,fQ,aH,eh]
 have hbd:bf L 95 []=some (.agg [.nils,.nils]):=rfl
 refine OkE.tidy (c:=0) ?_
 by_cases hl:bs.length≠64
 ·rw[show av bs=(([],[]),8) by unfold av;rw[if_pos hl]] at h1
  have d1:(((bs.length:Nat):Int) !=64)=true:=by simp;omega
  refine OkE.of_body ae Try.func61 rfl (by decide) (by simp[Try.ntmps61]) fun C hP hn hσ hfix hdd=>?_
  rw[show Try.f61.ntmps=50 from rfl] at hn
  have hL:af C.P L:=hP▸ae
  have hm:C.P.follows .mixedOrders=true:=hP▸ao
  repeat(first|(refine sB hL hn rfl ?_;simp only[go_sem,seval,AN,d1,hbd])|refine sN rfl ?_|refine sC ?_)
  refine⟨_,_,?_,_,(.tup [.agg [.nils,.nils],.int .i64 8]),_,ai.refl _ _,?_,ag.refl _ _ _,rfl⟩
  rotate_left
  show aF L _ [Go.ResultVar.cell 2 95,Go.ResultVar.tmp 3]=_
  simp only[aF,cA,aV,go_sem,seval]
  exact Tid.none (.low (hlow _ _)) (h1 (by decide))
 have hl:bs.length=64:=by omega
 have d1:(((64:Nat):Int) !=64)=false:=rfl
 have hopen:=yd c bs hl
 have hlX:∀n,Low n (.vec c 1 (bs.map eB)):=fun n=>aW n c bs
 by_cases ho:(cv bs).2≠0
 ·obtain⟨e,he⟩:∃e,e=(cv bs).2:=⟨_,rfl⟩
  rw[show av bs=(([],[]),e) by unfold av;rw[if_neg (by omega),if_pos ho,he]] at h1
  obtain⟨P,hP'⟩:∃P,P=((cv bs).1.map eB):=⟨_,rfl⟩
  rw[←he] at ho hopen
  rw[←hP'] at hopen
  obtain⟨X,hX⟩:∃X,X=bs.map eB:=⟨_,rfl⟩
  have hXl:X.length=64:=by rw[hX,AN,hl]
  rw[←hX] at hopen⊢
  have d2:(e !=0)=true:=by simpa using ho
  refine OkE.of_body ae Try.func61 rfl (by decide) (by simp[Try.ntmps61]) fun C hP hn hσ hfix hdd=>?_
  rw[show Try.f61.ntmps=50 from rfl] at hn
  have hL:af C.P L:=hP▸ae
  have hm:C.P.follows .mixedOrders=true:=hP▸ao
  repeat(first|(refine sB hL hn rfl ?_;simp only[go_sem,seval,hXl])|refine sN rfl ?_|refine sC ?_)
  refine sK hP hL hn rfl rfl (hopen _) rfl rfl rfl rfl ?_;simp (maxSteps:=2000000) only[go_sem,seval]
  repeat(first|(refine sB hL hn rfl ?_;simp only[go_sem,seval,d2,hbd])|refine sN rfl ?_|refine sC ?_)
  refine⟨_,_,?_,_,(.tup [.agg [.nils,.nils],.int .i64 e]),_,ai.refl _ _,?_,ag.refl _ _ _,rfl⟩
  rotate_left
  show aF L _ [Go.ResultVar.cell 2 95,Go.ResultVar.tmp 3]=_
  simp only[aF,cA,aV,go_sem,seval]
  exact Tid.none (.low (hlow _ _)) (h1 ho)
 have ho:(cv bs).2=0:=by omega
 obtain⟨xb,hxb⟩:∃xb,xb=(cv bs).1:=⟨_,rfl⟩
 have hxl:xb.length=60:=by rw[hxb,uP hl ho];simp;omega
 have hread:=qQ 0 xb hxl
 rw[ho,←hxb] at hopen
 obtain⟨Y,hY⟩:∃Y,Y=xb.map eB:=⟨_,rfl⟩
 have hYl:Y.length=60:=by rw[hY,AN,hxl]
 obtain⟨kd,hkd⟩:∃kd,kd=kdF xb:=⟨_,rfl⟩
 have g0:Y[0]?.getD .undef=.int .u8 (kd:Int):=by rw[hY,hkd];simp[kdF,eB,AZ,show 0<xb.length by omega]
 have z60:((0:Int)<((60:Nat):Int))=True:=by decide
 have t0:Ce 0=0:=rfl
 have d0:((0:Int) !=0)=false:=rfl
 obtain⟨X,hX⟩:∃X,X=bs.map eB:=⟨_,rfl⟩
 have hXl:X.length=64:=by rw[hX,AN,hl]
 by_cases hk:kd≠1∧kd≠2
 ·rw[show av bs=(([],[]),22) by unfold av;rw[if_neg (by omega),if_neg (by omega),←hxb,←hkd,if_pos hk]] at h1
  have d2:((kd:Int) !=1)=true:=by simp;omega
  have d3:((kd:Int) !=2)=true:=by simp;omega
  rw[←hX,←hY] at hopen
  rw[←hX]
  refine OkE.of_body ae Try.func61 rfl (by decide) (by simp[Try.ntmps61]) fun C hP hn hσ hfix hdd=>?_
  rw[show Try.f61.ntmps=50 from rfl] at hn
  have hL:af C.P L:=hP▸ae
  have hm:C.P.follows .mixedOrders=true:=hP▸ao
  repeat(first|(refine sB hL hn rfl ?_;simp only[go_sem,seval,hXl])|refine sN rfl ?_|refine sC ?_)
  refine sK hP hL hn rfl rfl (hopen _) rfl rfl rfl rfl ?_;simp (maxSteps:=2000000) only[go_sem,seval]
  repeat(first|(refine sB hL hn rfl ?_;simp only[go_sem,seval,d0,g0,hYl,t0,d2,d3,hbd])|refine sN rfl ?_|refine sC ?_)
  refine⟨_,_,?_,_,(.tup [.agg [.nils,.nils],.int .i64 22]),_,ai.refl _ _,?_,ag.refl _ _ _,rfl⟩
  rotate_left
  show aF L _ [Go.ResultVar.cell 2 95,Go.ResultVar.tmp 3]=_
  simp only[aF,cA,aV,go_sem,seval]
  exact Tid.none (.low (hlow _ _)) (h1 (by decide))
 have hk':(((kd:Int) !=1)=false)∨((((kd:Int) !=1)=true)∧(((kd:Int) !=2)=false)):=by
  by_cases h:kd=1
  ·left;simp;omega
  ·right;constructor<;>simp<;>omega
 obtain⟨n,hn'⟩:∃n,n=cV xb:=⟨_,rfl⟩
 have hnl:=nW xb
 have hde:av bs=if(bl n.1 n.2).2≠0∨bs≠(bl n.1 n.2).1 then(([],[]),21) else(n,0):=by
  unfold av
  rw[if_neg (by omega),if_neg (by omega),←hxb,←hkd,if_neg hk,←hn']
 rw[←hn'] at hread hnl
 obtain⟨xs,ks⟩:=n
 simp only at hread hnl hde
 have henc:=kN 1 0 xs ks (by omega) (by omega)
 obtain⟨eb,ee⟩:∃e,e=bl xs ks:=⟨_,rfl⟩
 rw[←ee] at henc hde
 obtain⟨yb,ye⟩:=eb
 simp only at henc hde
 have heq:=u6 c 0 bs yb
 obtain⟨Z,hZ⟩:∃Z,Z=yb.map eB:=⟨_,rfl⟩
 obtain⟨A,hA⟩:∃A,A=xs.map eT:=⟨_,rfl⟩
 obtain⟨K,hK⟩:∃K,K=ks.map eI:=⟨_,rfl⟩
 have hAl:A.length=xs.length:=by rw[hA,AN]
 have hencO:∀(σ:List Ob) (id:Nat),σ[id]?=some (.arr 27 2 A)→Ok Try.prog 63 [.agg [.sl id xs.length 0 xs.length,.vec 0 1 K]] σ (.ret (.tup [.vec 0 1 Z,.int .i64 ye])) σ:=by
  intro σ id hid
  rw[hK]
  refine ol (d':=jY 1 0 xs ks) (fun σ=>?_) (Fz.agg2 ?_ (.low ?_)) (ki ?_ .int)
  ·rw[hZ];exact henc σ
  ·rw[hA] at hid
   exact Fz.list eT (cD 0) hid
  ·exact dL 0 0 ks
  ·rw[hZ];exact kj _ yb
 rw[←hX,←hY] at hopen
 rw[←hX,←hZ] at heq
 rw[←hY,←hA,←hK] at hread
 rw[←hX]
 have hlA:∀m,∀x∈A,Low m x:=fun m x hx=>by rw[hA] at hx;obtain⟨y,_,rfl⟩:=Ba.1 hx;exact cD m y
 have hlK:∀m,Low m (.vec 0 1 K):=fun m=>by rw[hK];exact dL m 0 ks
 have hgood:∀σ:List Ob,ye=0→bs=yb→av bs=((xs,ks),0):=fun σ e1 e2=>by rw[hde,if_neg];simp[e1,←e2]
 refine OkE.of_body ae Try.func61 rfl (by decide) (by simp[Try.ntmps61]) fun C hP hn hσ hfix hdd=>?_
 rw[show Try.f61.ntmps=50 from rfl] at hn
 have hL:af C.P L:=hP▸ae
 have hm:C.P.follows .mixedOrders=true:=hP▸ao
 repeat(first|(refine sB hL hn rfl ?_;simp only[go_sem,seval,hXl])|refine sN rfl ?_|refine sC ?_)
 refine sK hP hL hn rfl rfl (hopen _) rfl rfl rfl rfl ?_;simp (maxSteps:=2000000) only[go_sem,seval]
 rcases hk' with hk'|⟨hk1,hk2⟩
 rotate_left
 repeat(first|(refine sB hL hn rfl ?_;simp only[go_sem,seval,d0,g0,hYl,t0,hk1,hk2])|refine sN rfl ?_|refine sC ?_)
 rotate_left
 repeat(first|(refine sB hL hn rfl ?_;simp only[go_sem,seval,d0,g0,hYl,t0,hk'])|refine sN rfl ?_|refine sC ?_)
 all_goals
  refine sK hP hL hn rfl rfl (hread _) rfl rfl rfl rfl ?_;simp (maxSteps:=2000000) only[go_sem,seval]
  repeat(first|(refine sB hL hn rfl ?_;simp only[go_sem,seval])|refine sN rfl ?_|refine sC ?_)
  by_cases hy:ye=0
  ·have d4:(ye !=0)=false:=by simpa using hy
   refine sK hP hL hn rfl rfl (hencO _ (σ.length+1) (by rw[ak];rfl)) rfl rfl rfl rfl ?_;simp (maxSteps:=2000000) only[go_sem,seval]
   by_cases hq:bs=yb
   ·have d5:eqB bs yb=true:=(t4 _ _).2 hq
    rw[d5] at heq
    repeat(first|(refine sB hL hn rfl ?_;simp only[go_sem,seval,d4])|refine sN rfl ?_|refine sC ?_)
    refine sK hP hL hn rfl rfl (heq _) rfl rfl rfl rfl ?_;simp (maxSteps:=2000000) only[go_sem,seval]
    repeat(first|(refine sB hL hn rfl ?_;simp only[go_sem,seval])|refine sN rfl ?_|refine sC ?_)
    refine⟨_,_,?_,_,(.tup [.agg [.sl (σ.length+1) xs.length 0 xs.length,.vec 0 1 K],.int .i64 0]),_,ai.refl _ _,?_,ag.refl _ _ _,rfl⟩
    rotate_left
    show aF L _ [Go.ResultVar.cell 2 95,Go.ResultVar.tmp 3]=_
    simp only[aF,cA,aV,go_sem,seval]
    refine Tid.own (id:=1) rfl (hlA _) (.tup2 (.agg2 (.own rfl) (.low (hlK _))) (.low ((ax _ _).2 trivial))) ?_
    have:=hgood σ hy hq
    rw[this] at h0
    have:=h0 rfl
    rwa [←hA,←hK] at this
   ·have d5:eqB bs yb=false:=by
     cases h:eqB bs yb with
     |false=>rfl
     |true=>exact absurd ((t4 _ _).1 h) hq
    rw[d5] at heq
    rw[if_pos (.inr hq)] at hde
    rw[hde] at h1
    repeat(first|(refine sB hL hn rfl ?_;simp only[go_sem,seval,d4])|refine sN rfl ?_|refine sC ?_)
    refine sK hP hL hn rfl rfl (heq _) rfl rfl rfl rfl ?_;simp (maxSteps:=2000000) only[go_sem,seval]
    repeat(first|(refine sB hL hn rfl ?_;simp only[go_sem,seval,hbd])|refine sN rfl ?_|refine sC ?_)
    refine⟨_,_,?_,_,(.tup [.agg [.nils,.nils],.int .i64 21]),_,ai.refl _ _,?_,ag.refl _ _ _,rfl⟩
    rotate_left
    show aF L _ [Go.ResultVar.cell 2 95,Go.ResultVar.tmp 3]=_
    simp only[aF,cA,aV,go_sem,seval]
    exact Tid.none (.low (hlow _ _)) (h1 (by decide))
  ·have d4:(ye !=0)=true:=by simpa using hy
   rw[if_pos (.inl hy)] at hde
   rw[hde] at h1
   refine sK hP hL hn rfl rfl (hencO _ (σ.length+1) (by rw[ak];rfl)) rfl rfl rfl rfl ?_;simp (maxSteps:=2000000) only[go_sem,seval]
   repeat(first|(refine sB hL hn rfl ?_;simp only[go_sem,seval,d4,hbd])|refine sN rfl ?_|refine sC ?_)
   refine⟨_,_,?_,_,(.tup [.agg [.nils,.nils],.int .i64 21]),_,ai.refl _ _,?_,ag.refl _ _ _,rfl⟩
   rotate_left
   show aF L _ [Go.ResultVar.cell 2 95,Go.ResultVar.tmp 3]=_
   simp only[aF,cA,aV,go_sem,seval]
   exact Tid.none (.low (hlow _ _)) (h1 (by decide))
theorem kg (c:Nat) (bs:List UInt8) (h:(av bs).2=0) (σ:List Ob):Ok Try.prog 61 [.vec c 1 (bs.map eB)] σ
  (.ret (.tup [.agg [.sl σ.length (av bs).1.1.length 0 (av bs).1.1.length,.vec 0 1 ((av bs).1.2.map eI)],.int .i64 0])) (σ++[.arr 27 2 ((av bs).1.1.map eT)]):=
 OkE.ok (m9 c bs σ (fun o O=>o=_∧O=_) (fun _=>⟨rfl,rfl⟩) (fun h'=>absurd h h')) fun o O h=>h
theorem pw (c:Nat) (bs:List UInt8) (h:(av bs).2≠0) (σ:List Ob):Ok Try.prog 61 [.vec c 1 (bs.map eB)] σ (.ret (.tup [.agg [.nils,.nils],.int .i64 (av bs).2])) σ:=
 OkE.ok (m9 c bs σ (fun o O=>o=_∧O=_) (fun h'=>absurd h' h) (fun _=>⟨rfl,rfl⟩)) fun o O h=>h
theorem ly{bs:List UInt8} (h:(av bs).2≠0):(av bs).1=([],[]):=by
 unfold av at h⊢
 split
 ·rfl
 ·split
  ·rfl
  ·split
   ·rfl
   ·split
    ·rfl
    ·rename_i h1 h2 h3 h4
     rw[if_neg h1,if_neg h2,if_neg h3,if_neg h4] at h
     exact absurd rfl h
theorem u9 (c:Nat) (bs:List UInt8) (σ:List Ob):Ok Try.prog 61 [.vec c 1 (bs.map eB)] σ (.ret (.tup [jY 0 0 (av bs).1.1 (av bs).1.2,.int .i64 (av bs).2])) σ:=by
 have hl:∀x∈ [DV.vec c 1 (bs.map eB)],Low 0 x:=fun x hx=>by rw[BX.1 hx];exact aW 0 c bs
 by_cases h:(av bs).2=0
 ·refine Ok.thaw (c:=0) (kg c bs h []) ?_ hl σ
  rw[h]
  exact .two (.agg2 (Fz.list eT (cD 0) rfl) (.low (dL 0 0 _))) .int
 ·refine Ok.thaw (c:=0) (pw c bs h []) ?_ hl σ
  rw[ly h]
  exact .two (.agg2 .nil .nil) .int
theorem mP (e:Int) (σ:List Ob):Ok Try.prog 46 [.bool true,.int .i64 e] σ (.ret (.tup [])) σ:=by
 refine Ok.of_body ae Try.func46 rfl (by decide) (by simp[Try.ntmps46]) fun C hP hn hσ hfix hdd=>?_
 rw[show Try.f46.ntmps=8 from rfl] at hn
 have hL:af C.P L:=hP▸ae
 have hm:C.P.follows .mixedOrders=true:=hP▸ao
 repeat(first|(refine sB hL hn rfl ?_;simp only[go_sem,seval])|refine sN rfl ?_|refine sC ?_)
 exact⟨_,_,_,ai.refl _ _,rfl,ag.refl _ _ _,rfl⟩
def be (e:Int):DV:=.iface 31 (.int .i64 e)
theorem jZ (e:Int) (σ:List Ob):Ok Try.prog 46 [.bool false,.int .i64 e] σ (.pan (be e)) σ:=by
 unfold be
 refine Ok.of_body ae Try.func46 rfl (by decide) (by simp[Try.ntmps46]) fun C hP hn hσ hfix hdd=>?_
 rw[show Try.f46.ntmps=8 from rfl] at hn
 have hL:af C.P L:=hP▸ae
 have hm:C.P.follows .mixedOrders=true:=hP▸ao
 repeat(first|(refine sB hL hn rfl ?_;simp only[go_sem,seval])|refine sN rfl ?_|refine sC ?_)
 refine aa.panic rfl rfl rfl ?_
 exact⟨_,ag.refl _ _ _,rfl⟩
def nE (l:List Int):List DV:=l.flatMap fun k=> [.int .i64 k,.bool true]
theorem qN (l r:List Int):nE (l++r)=nE l++nE r:=by unfold nE;rw[List.flatMap_append]
theorem kM (k:Int):∀(l:List Int) (i:Nat),dP L 3 (.int .i64 k) (nE l) i=if k∈l then some (some (i+l.idxOf k,.bool true)) else some none
 | [],i=>rfl
 |m::r,i=>by
  have ih:=kM k r (i+1)
  unfold nE at ih⊢
  rw[Cx,Bq,Bq,Be]
  have hq:iU L 3 (.int .i64 k) (.int .i64 m)=some (k==m):=rfl
  simp only[dP,hq]
  cases h:(k==m)
  ·have hne:k≠m:=by simpa using h
   rw[ih]
   simp only[Bh,hne,false_or]
   split
   ·rw[List.idxOf_cons,show(m==k)=false by simpa using fun e=>hne e.symm]
    simp only[cond_false]
    congr 3
    omega
   ·rfl
  ·obtain rfl:k=m:=by simpa using h
   simp
theorem wF (n:Nat) (l:List Int):∀x∈nE l,Low n x:=by
 intro x hx
 obtain⟨m,_,hm⟩:=List.mem_flatMap.1 hx
 simp only[Bh,Bw,or_false] at hm
 rcases hm with rfl|rfl
 ·exact(ax _ _).2 trivial
 ·exact(j8 _).2 trivial
structure WS where
 met:List Int
 items:List It
 leaf:Int
abbrev Pg:=Nat×List UInt8
def inB (lo hi:Option Int) (x:It):Bool:=(match lo with|none=>true|some l=>decide (x.1≥l))&&(match hi with|none=>true|some h=>decide (x.1<h))
def d8 (rec:Int→Option Int→Option Int→WS→WS×Bool) (xs:List It) (lo hi:Option Int):List Int→Nat→WS→WS×Bool
 | [],_,w=>(w,true)
 |k::r,i,w=>
  let q:=rec k (if 0<i then(xs[i-1]?).map (·.1) else lo) (if i<xs.length then(xs[i]?).map (·.1) else hi) w
  if q.2=true then d8 rec xs lo hi r (i+1) q.1 else(q.1,false)
def bX (ps:List Pg):Nat→Int→Int→Option Int→Option Int→WS→WS×Bool
 |0,_,_,_,_,w=>(w,false)
 |n+1,at_,level,lo,hi,w=>
  if level≤16∧at_>0∧at_≤(ps.length:Int)∧at_∉w.met then
   let w1:WS:=⟨w.met++[at_],w.items,w.leaf⟩
   let d:=av ((ps[(at_-1).toNat]?).getD (0,[])).2
   if d.2≠0 then(w1,false)
   else if d.1.1.all (inB lo hi)=false then(w1,false)
   else if d.1.2.length=0 then
    if w.leaf=0∨w.leaf=level then(⟨w1.met,w.items++d.1.1,level⟩,true) else(w1,false)
   else d8 (fun k a b w=>bX ps n k (level+1) a b w) d.1.1 lo hi d.1.2 0 w1
  else(w,false)
def pD:Option Int→DV
 |none=>.nilp
 |some k=>.vptr 0 [.int .u64 k]
def ePg (p:Pg):DV:=.vec p.1 1 (p.2.map eB)
def pgsD (c:Nat) (ps:List Pg):DV:=.vec c 1 (ps.map ePg)
theorem gn (n c:Nat) (ps:List Pg):Low n (pgsD c ps):=j7 n c 1 ePg (fun p=>aW n p.1 p.2) ps
def wW (c:Nat) (ps:List Pg) (b i:Nat) (w:WS):Ob:=.arr 74 4 [.agg [pgsD c ps,.mp b,.sl i w.items.length 0 w.items.length,.int .i64 w.leaf]]
def wM (w:WS):Ob:=.oth (.map (Bs w.met.length) w.met.length) (nE w.met)
def wI (w:WS):Ob:=.arr 27 2 (w.items.map eT)
def wS (σ:List Ob) (a b i c:Nat) (ps:List Pg) (w:WS):List Ob:=s3 σ a b i (wW c ps b i w) (wM w) (wI w)
theorem tq{σ:List Ob}{a b i:Nat} (h3:Three σ a b i) (c:Nat) (ps:List Pg) (w w':WS):er (wS σ a b i c ps w) (wS σ a b i c ps w'):=by
 have hb:=h3.lb
 have hi:=h3.lc
 refine xR h3 (.inl ⟨_,_,_,rfl,?_⟩) (.inr ⟨_,_,rfl,rfl,wF _ _⟩) (.inl ⟨_,_,_,rfl,?_⟩)
 ·have:=gn σ.length c ps
  simp[ax,aH,da,pi,this,hb,hi]
 ·intro x hx
  obtain⟨y,_,rfl⟩:=Ba.1 hx
  exact cD _ y
theorem mL (c:Nat) (ps:List Pg) (hps:ps.length≤2048) (σ:List Ob) (a b i:Nat) (h3:Three σ a b i) (at_ level:Int) (lo hi:Option Int) (w:WS) (hbad:¬(level≤16∧at_>0∧at_≤(ps.length:Int)∧at_∉w.met)):
  Ok Try.prog 47 [.ptr a 1 0 0,.int .i64 at_,.int .i64 level,pD lo,pD hi] (wS σ a b i c ps w) (.pan (be 9)) (wS σ a b i c ps w):=by
 have hpan:=jZ 9
 obtain⟨X,hX⟩:∃X,X=ps.map ePg:=⟨_,rfl⟩
 have hXl:X.length=ps.length:=by rw[hX,AN]
 obtain⟨D,hD⟩:∃D,D=nE w.met:=⟨_,rfl⟩
 have hfd:=kM at_ w.met 0
 rw[←hD] at hfd
 have hko:ls L 3 (.int .i64 at_)=true:=rfl
 unfold wS wW wM wI pgsD
 rw[←hX,←hD]
 have ga:=fun x y z=>by simpa using xW h3 x y z []
 have gb:=fun x y z=>by simpa using xV h3 x y z []
 obtain⟨N,hN⟩:∃N,N=w.items.length:=⟨_,rfl⟩
 obtain⟨IX,hIX⟩:∃IX,IX=w.items.map eT:=⟨_,rfl⟩
 rw[←hN,←hIX]
 refine Ok.of_body ae Try.func47 rfl (by decide) (by simp[Try.ntmps47]) fun C hP hn hσ hfix hdd=>?_
 rw[show Try.f47.ntmps=164 from rfl] at hn
 have hL:af C.P L:=hP▸ae
 have hm:C.P.follows .mixedOrders=true:=hP▸ao
 by_cases c1:level≤16
 ·have d1:decide (level≤16)=true:=decide_eq_true c1
  by_cases c2:at_>0
  ·have d2:decide (at_>0)=true:=decide_eq_true c2
   by_cases c3:at_≤(ps.length:Int)
   ·have d3:decide (at_≤(ps.length:Int))=true:=decide_eq_true c3
    have c4:at_∈w.met:=by
     apply Classical.byContradiction
     intro h
     exact hbad ⟨c1,c2,c3,h⟩
    rw[if_pos c4] at hfd
    repeat refine SW.seq ?_
    try refine SW.region ?_
    repeat(refine aa.one hL (by rw[hn];rfl) ?_;simp only[go_sem,seval,d1,d2,d3,ga,gb,hXl,hfd,hko];refine(?_:aa C _ _ _ _))
    refine aa.callp hP (by rw[hn];rfl) (hpan _) rfl rfl rfl rfl ?_;simp (maxSteps:=2000000) only[go_sem,seval]
    exact⟨_,ag.refl _ _ _,rfl⟩
   ·have d3:decide (at_≤(ps.length:Int))=false:=decide_eq_false c3
    repeat refine SW.seq ?_
    try refine SW.region ?_
    repeat(refine aa.one hL (by rw[hn];rfl) ?_;simp only[go_sem,seval,d1,d2,d3,ga,hXl];refine(?_:aa C _ _ _ _))
    refine aa.callp hP (by rw[hn];rfl) (hpan _) rfl rfl rfl rfl ?_;simp (maxSteps:=2000000) only[go_sem,seval]
    exact⟨_,ag.refl _ _ _,rfl⟩
  ·have d2:decide (at_>0)=false:=decide_eq_false c2
   repeat refine SW.seq ?_
   try refine SW.region ?_
   repeat(refine aa.one hL (by rw[hn];rfl) ?_;simp only[go_sem,seval,d1,d2];refine(?_:aa C _ _ _ _))
   refine aa.callp hP (by rw[hn];rfl) (hpan _) rfl rfl rfl rfl ?_;simp (maxSteps:=2000000) only[go_sem,seval]
   exact⟨_,ag.refl _ _ _,rfl⟩
 ·have d1:decide (level≤16)=false:=decide_eq_false c1
  repeat refine SW.seq ?_
  try refine SW.region ?_
  repeat(refine aa.one hL (by rw[hn];rfl) ?_;simp only[go_sem,seval,d1];refine(?_:aa C _ _ _ _))
  refine aa.callp hP (by rw[hn];rfl) (hpan _) rfl rfl rfl rfl ?_;simp (maxSteps:=2000000) only[go_sem,seval]
  exact⟨_,ag.refl _ _ _,rfl⟩
end Go.VL
