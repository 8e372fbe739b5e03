/- Proved: TreeOwn: whatever tree, root and item come in (together of bulk at most 1048576), the call returns true and they read as they did; no other condition. This text is part 13 of 18. -/
import Derived.Test.YtghomgiklhbjiaaW12
set_option linter.unusedSimpArgs false
set_option linter.unusedVariables false
set_option maxRecDepth 10000
set_option maxHeartbeats 2000000
open List renaming all_eq_true → AS,append_assoc → AR,append_nil → AK,cons_append → Bq,drop_eq_nil_of_le → A9,drop_zero → Ch,getD_eq_getElem?_getD → AZ,getElem?_append_left → AJ,getElem?_eq_getElem → AI,getElem?_eq_some_iff → AH,getElem?_map → AQ,getElem?_set_ne → A6,length_append → AP,length_cons → A5,length_map → AN,length_nil → Bj,length_set → Ci,length_take → Bi,mem_append → BT,mem_cons → Bh,mem_map → Ba,mem_of_mem_drop → By,mem_of_mem_take → Bz,mem_replicate → BK,mem_singleton → BX,nil_append → Be,not_mem_nil → Bw,replicate → AO,replicate_zero → BU,set_append_left → Bo,set_comm → Df,take_append_of_le_length → BL,take_of_length_le → AV
open Nat renaming sub_self → B7,zero_le → BD
open Int renaming toNat → Ce
namespace Go.VL
open Go Go.Proofs
open Nat (reduceAdd reduceEqDiff reduceSub reduceMul reduceLeDiff)
def gk (xs:List It) (x:It):List It:=
 let i:=(cc xs x.1).1.toNat
 if(cc xs x.1).2=true then xs.take i++[x]++xs.drop (i+1) else xs.take i++[x]++xs.drop i
theorem mi (xs:List It) (key:Int):0≤(cc xs key).1∧((cc xs key).2=true→(cc xs key).1<(xs.length:Int))∧(cc xs key).1≤(xs.length:Int):=by
 have:=jK xs key
 unfold cc
 split
 ·rename_i h
  refine⟨?_,fun _=>?_,?_⟩<;>dsimp only<;>omega
 ·refine⟨?_,fun h=>?_,?_⟩
  ·dsimp only;omega
  ·cases h
  ·dsimp only;omega
theorem qt (xs:List It) (x:It):xs.length≤(gk xs x).length∧(gk xs x).length≤xs.length+1∧1≤(gk xs x).length:=by
 obtain⟨a,b,c⟩:=mi xs x.1
 unfold gk
 dsimp only
 split
 ·rename_i h
  have:=b h
  simp;omega
 ·simp;omega
theorem uM{σ:List Ob}{id b:Nat}{xs:List It}{x:It} (hid:id<σ.length) (hne:b≠id) (hb:σ[b]?=some (.arr 27 2 [eT x])) (h0:0<xs.length) (hl:xs.length≤1048575):
  Ok Try.prog 24 [.sl id xs.length 0 xs.length,.ptr b 1 0 0] (s1 σ id (.arr 27 2 (xs.map eT))) (.ret (.sl id (gk xs x).length 0 (gk xs x).length)) (s1 σ id (.arr 27 2 ((gk xs x).map eT))++[.arr 27 2 [eT x]]):=by
 have a2:=fun O=>(by have:=du (σ:=σ) hid O [];rwa [AK] at this:(s1 σ id O)[id]?=some O)
 have a3:=fun O=>(by have:=eO (σ:=σ) hb hne O [];rwa [AK] at this:(s1 σ id O)[b]?=some (.arr 27 2 [eT x]))
 have sl:=fun O=>ey (σ:=σ) (a:=id) O
 obtain⟨x1,x2⟩:=x
 obtain⟨q1,q2,q3⟩:=mi xs x1
 have hs:=oS xs x1 (by omega) (s1 σ id (.arr 27 2 (xs.map eT))) id 27 (a2 _)
 obtain⟨i,hi⟩:∃i:Nat,(cc xs x1).1=(i:Int):=⟨_,(Int.toNat_of_nonneg q1).symm⟩
 obtain⟨f,hf⟩:∃f,f=(cc xs x1).2:=⟨_,rfl⟩
 have hit:(cc xs x1).1.toNat=i:=by rw[hi];rfl
 have hput:gk xs (x1,x2)=if f=true then xs.take i++[(x1,x2)]++xs.drop (i+1) else xs.take i++[(x1,x2)]++xs.drop i:=by
  unfold gk;dsimp only;rw[hit,hf]
 rw[hi,←hf] at hs
 rw[hi] at q2 q3
 rw[←hf] at q2
 obtain⟨n,hnl⟩:∃n,n=xs.length:=⟨_,rfl⟩
 obtain⟨X,hX⟩:∃X,X=xs.map eT:=⟨_,rfl⟩
 have hXl:X.length=n:=by rw[hX,AN,hnl]
 rw[←hX] at hs⊢
 rw[←hnl] at hs h0 hl q2 q3⊢
 have oX:(X.all fun y=>y.cells.all DV.one)=true:=by rw[hX];exact xr xs
 have oV:([eT (x1,x2)].all fun y=>y.cells.all DV.one)=true:=rfl
 obtain⟨B,hB⟩:∃B,B=σ++[Ob.arr 27 2 [.agg [.int .u64 x1,.int .u64 x2]]]:=⟨_,rfl⟩
 have hBi:∀O,s1 σ id O++[Ob.arr 27 2 [.agg [.int .u64 x1,.int .u64 x2]]]=s1 B id O:=fun O=>by rw[hB];unfold s1;rw[Bo _ _ hid]
 have hBl:id<B.length:=by rw[hB];simp;omega
 have hBJ:B[σ.length]?=some (.arr 27 2 [eT (x1,x2)]):=by rw[hB];simp[eT]
 have hJ:σ.length≠id:=by omega
 have lowX:∀y∈X,∀m,Low m y:=fun y hy m=>by
  rw[hX] at hy
  obtain⟨z,_,rfl⟩:=Ba.1 hy
  exact cD m z
 have w1:IntKind.i64.wrap ((i:Int)+1)=((i+1:Nat):Int):=wi (by omega) (by omega)
 cases f with
 |true=>
  have hil:i<n:=by have:=q2 rfl;omega
  rw[if_pos rfl] at hput
  have hpl:(gk xs (x1,x2)).length=n:=by rw[hput];simp;omega
  have hpm:(gk xs (x1,x2)).map eT=X.take i++[eT (x1,x2)]++X.drop (i+1):=by rw[hput,hX];simp
  rw[hpl,hpm]
  have hrep:Ok Try.prog 26 [.sl id n 0 n,.int .i64 (i:Int),.int .i64 ((i+1:Nat):Int),.sl σ.length 1 0 1] (s1 B id (.arr 27 2 X)) (.ret (.sl id n 0 n)) (s1 B id (.arr 27 2 (X.take i++[eT (x1,x2)]++X.drop (i+1)))):=by
   by_cases hlast:i+1=n
   ·have:=x7 (k:=1) (g:=1) (i:=i) (V:=[eT (x1,x2)]) hBl hJ hBJ rfl rfl rfl hXl (by decide) (by omega) (by omega) oX oV
    rw[←hlast] at this⊢
    rw[show i+1-(i+1)=0 by omega,BU,AK] at this
    rw[A9 (by omega:X.length≤i+1),AK]
    exact this
   ·have:=x6 (k:=1) (g:=1) (i:=i) (j:=i+1) (tot:=n) (V:=[eT (x1,x2)]) hBl hJ hBJ rfl rfl rfl hXl (by decide) (by omega) (by omega) (by omega) oX oV (by omega)
    rw[show n-n=0 by omega,BU,AK] at this
    exact this
  rw[show s1 σ id (.arr 27 2 (X.take i++[eT (x1,x2)]++X.drop (i+1)))++[Ob.arr 27 2 [eT (x1,x2)]]=s1 B id (.arr 27 2 (X.take i++[eT (x1,x2)]++X.drop (i+1))) from hBi _]
  simp only[eT] at a3
  refine Ok.of_body ae Try.func24 rfl (by decide) (by simp[Try.ntmps24]) fun C hP hn hσ hfix hdd=>?_
  rw[show Try.f24.ntmps=26 from rfl] at hn
  have hL:af C.P L:=hP▸ae
  have hm:C.P.follows .mixedOrders=true:=hP▸ao
  repeat(first|(refine sB hL hn rfl ?_;simp only[go_sem,seval,a3])|refine sN rfl ?_|refine sC ?_)
  refine sK hP hL hn rfl rfl (hs) rfl rfl rfl rfl ?_;simp (maxSteps:=2000000) only[go_sem,seval]
  repeat(first|(refine sB hL hn rfl ?_;simp only[go_sem,seval,a3,w1,sl,hBi])|refine sN rfl ?_|refine sC ?_)
  refine sK hP hL hn rfl rfl (hrep) rfl rfl rfl rfl ?_;simp (maxSteps:=2000000) only[go_sem,seval]
  repeat(first|(refine sB hL hn rfl ?_;simp only[go_sem,seval])|refine sN rfl ?_|refine sC ?_)
  exact⟨_,_,_,ai.refl _ _,rfl,ag.refl _ _ _,rfl⟩
 |false=>
  rw[if_neg (by simp)] at hput
  have hpl:(gk xs (x1,x2)).length=n+1:=by rw[hput];simp;omega
  have hpm:(gk xs (x1,x2)).map eT=X.take i++[eT (x1,x2)]++X.drop i:=by rw[hput,hX];simp
  rw[hpl,hpm]
  have hins:Ok Try.prog 27 [.sl id n 0 n,.int .i64 (i:Int),.sl σ.length 1 0 1] (s1 B id (.arr 27 2 X)) (.ret (.sl id (n+1) 0 (n+1))) (s1 B id (.arr 27 2 (X.take i++[eT (x1,x2)]++X.drop i))):=by
   by_cases hlast:i=n
   ·have:=yq hBl hJ hBJ hXl h0 (by omega) oX oV
    subst hlast
    rw[AV (by omega),A9 (by omega),AK]
    exact this
   ·refine wR hBl hJ hBJ hXl (by omega) (by omega) oX oV (fun y hy m=>?_)
    simp only[BT,Bh,Bw,or_false] at hy
    rcases hy with(hy|rfl)|hy
    ·exact lowX y (Bz hy) m
    ·exact cD m _
    ·exact lowX y (By hy) m
  rw[show s1 σ id (.arr 27 2 (X.take i++[eT (x1,x2)]++X.drop i))++[Ob.arr 27 2 [eT (x1,x2)]]=s1 B id (.arr 27 2 (X.take i++[eT (x1,x2)]++X.drop i)) from hBi _]
  simp only[eT] at a3
  refine Ok.of_body ae Try.func24 rfl (by decide) (by simp[Try.ntmps24]) fun C hP hn hσ hfix hdd=>?_
  rw[show Try.f24.ntmps=26 from rfl] at hn
  have hL:af C.P L:=hP▸ae
  have hm:C.P.follows .mixedOrders=true:=hP▸ao
  repeat(first|(refine sB hL hn rfl ?_;simp only[go_sem,seval,a3])|refine sN rfl ?_|refine sC ?_)
  refine sK hP hL hn rfl rfl (hs) rfl rfl rfl rfl ?_;simp (maxSteps:=2000000) only[go_sem,seval]
  repeat(first|(refine sB hL hn rfl ?_;simp only[go_sem,seval,a3,sl,hBi])|refine sN rfl ?_|refine sC ?_)
  refine sK hP hL hn rfl rfl (hins) rfl rfl rfl rfl ?_;simp (maxSteps:=2000000) only[go_sem,seval]
  repeat(first|(refine sB hL hn rfl ?_;simp only[go_sem,seval])|refine sN rfl ?_|refine sC ?_)
  exact⟨_,_,_,ai.refl _ _,rfl,ag.refl _ _ _,rfl⟩
theorem nZ{σ:List Ob}{b:Nat}{x:It} (hb:σ[b]?=some (.arr 27 2 [eT x])):
  Ok Try.prog 24 [.nils,.ptr b 1 0 0] σ (.ret (.sl (σ.length+1) 1 0 1)) (σ++[.arr 27 2 [eT x],.arr 27 2 [eT x]]):=by
 obtain⟨x1,x2⟩:=x
 have hs:Ok Try.prog 25 [.nils,.int .u64 x1] σ (.ret (.tup [.int .i64 0,.bool false])) σ:=by
  have h:=nQ 1 [] x1 (by simp) []
  refine Ok.lendF (c:=1) h rfl (fun i x y hx hy=>?_) (ki .int .bool)
  match i,hx,hy with
  |0,hx,hy=>cases hx;cases hy;exact .nil
  |1,hx,hy=>cases hx;cases hy;exact .int
  |i+2,hx,_=>simp at hx
 have hJ:(σ++[Ob.arr 27 2 [eT (x1,x2)]])[σ.length]?=some (.arr 27 2 [eT (x1,x2)]):=by simp
 have hb':∀l:List Ob,(σ++l)[b]?=some (.arr 27 2 [eT (x1,x2)]):=fun l=>by
  rw[AJ (AH.1 hb).1];exact hb
 have hins:=wQ hJ rfl
 have hlen:(σ++[Ob.arr 27 2 [eT (x1,x2)]]).length=σ.length+1:=by simp
 rw[hlen,AR] at hins
 simp only[eT,Bq,Be] at hins hb⊢
 refine Ok.of_body ae Try.func24 rfl (by decide) (by simp[Try.ntmps24]) fun C hP hn hσ hfix hdd=>?_
 rw[show Try.f24.ntmps=26 from rfl] at hn
 have hL:af C.P L:=hP▸ae
 have hm:C.P.follows .mixedOrders=true:=hP▸ao
 repeat(first|(refine sB hL hn rfl ?_;simp only[go_sem,seval,hb])|refine sN rfl ?_|refine sC ?_)
 refine sK hP hL hn rfl rfl (hs) rfl rfl rfl rfl ?_;simp (maxSteps:=2000000) only[go_sem,seval]
 repeat(first|(refine sB hL hn rfl ?_;simp only[go_sem,seval,hb])|refine sN rfl ?_|refine sC ?_)
 refine sK hP hL hn rfl rfl (hins) rfl rfl rfl rfl ?_;simp (maxSteps:=2000000) only[go_sem,seval]
 repeat(first|(refine sB hL hn rfl ?_;simp only[go_sem,seval])|refine sN rfl ?_|refine sC ?_)
 exact⟨_,_,_,ai.refl _ _,rfl,ag.refl _ _ _,rfl⟩
theorem sz{σ:List Ob}{a p:Nat} (h2:Two σ a p){w:Wr}{at_:Int} (h1:0<at_) (h3:at_≤(w.ps.length:Int)) (hl:w.ps.length≤1048576) (hd:(av (ef w.ps at_)).2=0):
  Ok Try.prog 54 [.ptr a 1 0 0,.int .i64 at_] (wS2 σ a p w) (.ret (.agg [.sl σ.length (av (ef w.ps at_)).1.1.length 0 (av (ef w.ps at_)).1.1.length,.vec 0 1 ((av (ef w.ps at_)).1.2.map eI)]))
   (wS2 σ a p w++[.arr 27 2 ((av (ef w.ps at_)).1.1.map eT)]):=by
 have ga:=fun x y l=>vY h2 x y l
 have gb:=fun x y l=>xZ h2 x y l
 have sl:=fun x y=>bq (σ:=σ) (a:=a) (b:=p) x y
 have so:=fun x y l=>oU (σ:=σ) (a:=a) (b:=p) rfl x y l
 have so1:=fun x y l=>rZ (σ:=σ) (a:=a) (b:=p) rfl x y l
 have ss:=fun x y l o=>xY (σ:=σ) (a:=a) (b:=p) rfl x y l o
 have ss1:=fun x y l o=>vX (σ:=σ) (a:=a) (b:=p) rfl x y l o
 obtain⟨i,hi⟩:∃i:Nat,at_=((i+1:Nat):Int):=⟨(at_-1).toNat,by omega⟩
 subst hi
 have hlt:i<w.ps.length:=by omega
 obtain⟨pg,hpg⟩:∃pg,w.ps[i]?=some pg:=⟨_,AI hlt⟩
 have hat:ef w.ps ((i+1:Nat):Int)=pg.2:=by
  unfold ef
  rw[show(((i+1:Nat):Int)-1).toNat=i by omega,hpg]
  rfl
 rw[hat] at hd⊢
 obtain⟨xs,hxs⟩:∃xs,xs=(av pg.2).1.1:=⟨_,rfl⟩
 obtain⟨ks,hks⟩:∃ks,ks=(av pg.2).1.2:=⟨_,rfl⟩
 have hdec:=fun σ=>kg pg.1 pg.2 hd σ
 rw[←hxs,←hks] at hdec⊢
 obtain⟨q1,q2⟩:=pg
 simp only at hdec
 obtain⟨N,hN⟩:∃N,N=w.ps.length:=⟨_,rfl⟩
 obtain⟨X,hX⟩:∃X,X=w.ps.map ePg:=⟨_,rfl⟩
 have hXl:X.length=N:=by rw[hX,AN,hN]
 have e3:X[i]?=some (.vec q1 1 (q2.map eB)):=by rw[hX,AQ,hpg];rfl
 have e0:(0≤(i:Int))=True:=eq_true (by omega)
 have e2:((i:Int)<(N:Int))=True:=eq_true (by omega)
 have w1:IntKind.i64.wrap (((i+1:Nat):Int)-1)=(i:Int):=wi (by omega) (by omega)
 obtain⟨K,hK⟩:∃K,K=ks.map eI:=⟨_,rfl⟩
 obtain⟨I,hI⟩:∃I,I=xs.map eT:=⟨_,rfl⟩
 rw[←hK,←hI] at hdec⊢
 have hlen:(wS2 σ a p w).length=σ.length:=am w
 have hfull:Ok Try.prog 54 [.ptr a 1 0 0,.int .i64 ((i+1:Nat):Int)] (wS2 σ a p w) (.ret (.agg [.sl (σ.length+1) xs.length 0 xs.length,.vec 0 1 K]))
   (wS2 σ a p w++[.arr 95 2 [.agg [.sl (σ.length+1) xs.length 0 xs.length,.vec 0 1 K]],.arr 27 2 I,.arr 95 2 [.agg [.sl (σ.length+1) xs.length 0 xs.length,.vec 0 1 K]]]):=by
  unfold wS2 wrS wrO wrP
  rw[←hN,←hX]
  refine Ok.of_body ae Try.func54 rfl (by decide) (by simp[Try.ntmps54]) fun C hP hn hσ hfix hdd=>?_
  rw[show Try.f54.ntmps=21 from rfl] at hn
  have hL:af C.P L:=hP▸ae
  have hm:C.P.follows .mixedOrders=true:=hP▸ao
  repeat(first|(refine sB hL hn rfl ?_;simp only[go_sem,seval,ga,gb,sl,hXl,e0,e2,e3,w1])|refine sN rfl ?_|refine sC ?_)
  refine sK hP hL hn rfl rfl (hdec _) rfl rfl rfl rfl ?_;simp (maxSteps:=2000000) only[go_sem,seval]
  repeat(first|(refine sB hL hn rfl ?_;simp only[go_sem,seval,sl,so,so1,ss])|refine sN rfl ?_|refine sC ?_)
  refine⟨_,(.agg [.sl (σ.length+1) xs.length 0 xs.length,.vec 0 1 K]),_,ai.refl _ _,?_,ag.refl _ _ _,rfl⟩
  show aF L _ [Go.ResultVar.cell 4 95]=_
  simp only[aF,cA,aV,go_sem,seval,so]
 have hJ:(wS2 σ a p w++[Ob.arr 95 2 [.agg [.sl (σ.length+1) xs.length 0 xs.length,.vec 0 1 K]],.arr 27 2 I,.arr 95 2 [.agg [.sl (σ.length+1) xs.length 0 xs.length,.vec 0 1 K]]])[σ.length+1]?=some (.arr 27 2 I):=by
  rw[←hlen,ak];rfl
 have:=Ok.tidy (c:=0) (D:=.agg [.sl σ.length xs.length 0 xs.length,.vec 0 1 K]) (some (σ.length+1)) hfull (cO h2 _ _) (by
  rw[hlen]
  refine .agg rfl fun i x y hx hy=>?_
  match i,hx,hy with
  |0,hx,hy=>cases hx;cases hy;exact .own rfl
  |1,hx,hy=>cases hx;cases hy;rw[hK];exact .low (dL _ _ _)
  |i+2,hx,_=>simp at hx) (fun i hi=>by
  cases hi
  refine⟨by rw[hlen];omega,_,_,_,hJ,fun z hz=>?_⟩
  rw[hI] at hz
  obtain⟨x,_,rfl⟩:=Ba.1 hz
  exact cD _ _)
 simp only[df,AZ,hJ] at this
 exact this
def eS (xs:List It) (ks:List Int) (low:Int):List aE:=ks.mapIdx fun i k=>(k,if i=0 then low else((xs[i-1]?).getD (0,0)).1)
theorem eR (xs:List It) (ks:List Int) (low:Int):(eS xs ks low).length=ks.length:=by simp[eS]
theorem qw (xs:List It) (ks:List Int) (low:Int) (i:Nat){k:Int} (h:ks[i]?=some k):(eS xs ks low)[i]?=some (k,if i=0 then low else((xs[i-1]?).getD (0,0)).1):=by
 unfold eS
 rw[List.getElem?_mapIdx,h]
 rfl
theorem mE{σ:List Ob}{id c:Nat}{xs:List It}{ks:List Int} (low:Int) (h:σ[id]?=some (.arr 27 2 (xs.map eT))) (hk:ks.length=xs.length+1) (hl:xs.length≤3):
  Ok Try.prog 55 [.agg [.sl id xs.length 0 xs.length,.vec c 1 (ks.map eI)],.int .u64 low] σ (.ret (.sl σ.length ks.length 0 ks.length)) (σ++[.arr 91 2 ((eS xs ks low).map ePt)]):=by
 have hid:=(AH.1 h).1
 have gI:∀l:List Ob,(σ++l)[id]?=some (.arr 27 2 (xs.map eT)):=fun l=>by rw[AJ hid];exact h
 obtain⟨R,hR⟩:∃R,R=(eS xs ks low).map ePt:=⟨_,rfl⟩
 have hRl:R.length=ks.length:=by rw[hR,AN,eR]
 have aR:∀k,((R.take k).all fun y=>y.cells.all DV.one)=true:=fun k=>by
  rw[AS]
  intro y hy
  have:=Bz hy
  rw[hR] at this
  obtain⟨x,_,rfl⟩:=Ba.1 this
  rfl
 obtain⟨n,hn0⟩:∃n,n=ks.length:=⟨_,rfl⟩
 obtain⟨X,hX⟩:∃X,X=xs.map eT:=⟨_,rfl⟩
 have hXl:X.length=xs.length:=by rw[hX,AN]
 obtain⟨K,hK⟩:∃K,K=ks.map eI:=⟨_,rfl⟩
 have hKl:K.length=n:=by rw[hK,AN,hn0]
 rw[←hX] at gI
 obtain⟨L0,hL0⟩:∃L0,L0=σ.length:=⟨_,rfl⟩
 obtain⟨nd,hnd⟩:∃nd,nd=Ob.arr 95 2 [.agg [.sl id xs.length 0 xs.length,.vec c 1 K]]:=⟨_,rfl⟩
 refine OkE.ok (OkE.tidy (c:=0) (R:=fun o O=>o=.ret (.sl σ.length ks.length 0 ks.length)∧O=σ++[.arr 91 2 R]) ?_) (fun o O h=>by rw[←hR];exact h)
 rw[←hK]
 have so:=fun l=>aL σ l
 have so1:=fun l k=>ak σ l k
 have ss1:=fun l k o=>ay σ l k o
 have sl:∀l:List Ob,(σ++l).length=σ.length+l.length:=fun l=>AP
 obtain⟨lw,hlw⟩:∃lw:Nat→Int,lw=fun k=>if k=0 then low else((xs[k-1]?).getD (0,0)).1:=⟨_,rfl⟩
 obtain⟨lv,hlv⟩:∃lv:Nat→Int,lv=fun k=>if k=0 then low else lw (k-1):=⟨_,rfl⟩
 have hRk:∀k,k<n→∃kk,K[k]?.getD .undef=.int .i64 kk∧R[k]?=some (.agg [.int .i64 kk,.int .u64 (lw k)]):=fun k hk=>by
  have hlt:k<ks.length:=by omega
  refine⟨ks[k]'hlt,?_,?_⟩
  ·rw[hK,AQ,AI hlt];rfl
  ·rw[hR,AQ,qw xs ks low k (AI hlt),hlw];rfl
 have nK:n≤4:=by omega
 rw[show ks.length=n from hn0.symm]
 refine OkE.of_body ae Try.func55 rfl (by decide) (by simp[Try.ntmps55]) fun C hP hn hσ hfix hdd=>?_
 rw[show Try.f55.ntmps=32 from rfl] at hn
 have hL:af C.P L:=hP▸ae
 have hm:C.P.follows .mixedOrders=true:=hP▸ao
 repeat(first|(refine sB hL hn rfl ?_;simp only[go_sem,seval,hKl])|refine sN rfl ?_|refine sC ?_)
 refine SW.ghost (ai.newNil 4 91 2 rfl) ?_
 simp only[up,reduceEqDiff,reduceIte]
 refine SW.lpg (fun x:Nat×List Ob=>⟨[(1,.int .u64 (lv x.1)),(2,.ptr σ.length 1 0 0),(4,.sl (σ.length+1) x.1 0 x.1),(8,.vec c 1 K),(9,.int .i64 (n:Int)),(10,.int .i64 (x.1:Int))],σ++(Ob.arr 95 2 [.agg [.sl id xs.length 0 xs.length,.vec c 1 K]]::.arr 91 2 (R.take x.1)::x.2)⟩) (fun x=>n-x.1) (fun x=>x.1≤n) (0,[]) (BD _) (.of (by simp) (by simp[aC,lk,hlv])) ?_
 rintro⟨k,T⟩ hk
 simp only at hk⊢
 by_cases hlt:k<n
 ·obtain⟨kk,k1,k2⟩:=hRk k hlt
  have e1:decide ((k:Int)<(n:Int))=true:=decide_eq_true (by omega)
  have e0:(0≤(k:Int))=True:=eq_true (by omega)
  have e2:((k:Int)<(n:Int))=True:=eq_true (by omega)
  have w2:IntKind.i64.wrap ((k:Int)+1)=((k+1:Nat):Int):=wi (by omega) (by omega)
  have hkR:k<R.length:=by omega
  obtain⟨O,hO⟩:∃O,O=R.take k:=⟨_,rfl⟩
  have hOl:O.length=k:=by rw[hO,Bi];omega
  have hcap:((k+1)*16≤140737488355328)=True:=eq_true (by omega)
  have hO':R.take (k+1)=O++[.agg [.int .i64 kk,.int .u64 (lw k)]]:=by
   rw[hO,List.take_add_one,k2];rfl
  have aO:=aR k
  rw[←hO] at aO
  simp only[DV.cells] at aO
  have gT:∀x:Ob,(T++[x])[T.length]?=some x:=fun x=>by simp
  rw[←hO]
  have hb2:∀x y,bf L 91 [(0,.int .i64 x),(1,.int .u64 y)]=some (.agg [.int .i64 x,.int .u64 y]):=fun x y=>rfl
  have hl2:lv (k+1)=lw k:=by rw[hlv];simp
  by_cases hk0:k=0
  ·have d0:decide ((k:Int)>0)=false:=decide_eq_false (by omega)
   have hl1:lv k=lw k:=by rw[hlv,hlw];simp[hk0]
   repeat(first|(refine sB hL hn rfl ?_;simp only[go_sem,seval,e0,e2,k1,d0,w2,hKl,sl,so1,ss1,aG,hOl,hcap,gT,hl1,hb2])|refine sN rfl ?_|refine sC ?_)
   exact Lp.nextg (k+1,T++[Ob.arr 91 2 [.agg [.int .i64 kk,.int .u64 (lw k)]]]) (by show k+1≤n;omega) (by show n-(k+1)<_;omega) (.of (by simp[hO']) (by simp[aC,lk,hl2]))
  ·obtain⟨j,hj⟩:∃j,k=j+1:=⟨k-1,by omega⟩
   have hjl:j<xs.length:=by omega
   obtain⟨z,hz⟩:∃z,xs[j]?=some z:=⟨_,AI hjl⟩
   obtain⟨z1,z2⟩:=z
   have hlw1:lw k=z1:=by rw[hlw];simp[hj,hz]
   have d0:decide ((k:Int)>0)=true:=decide_eq_true (by omega)
   have w3:IntKind.i64.wrap ((k:Int)-1)=(j:Int):=wi (by omega) (by omega)
   have j0:(0≤(j:Int))=True:=eq_true (by omega)
   have j2:((j:Int)<(xs.length:Int))=True:=eq_true (by omega)
   have j3:X[j]?=some (.agg [.int .u64 z1,.int .u64 z2]):=by rw[hX,AQ,hz];rfl
   rw[hlw1] at hO' hl2
   repeat(first|(refine sB hL hn rfl ?_;simp only[go_sem,seval,e0,e2,k1,d0,w2,w3,hKl,hXl,sl,so,so1,ss1,aG,hOl,hcap,gT,hb2,j0,j2,j3,gI])|refine sN rfl ?_|refine sC ?_)
   exact Lp.nextg (k+1,T++[Ob.arr 91 2 [.agg [.int .i64 kk,.int .u64 z1]]]) (by show k+1≤n;omega) (by show n-(k+1)<_;omega) (.of (by simp[hO']) (by simp[aC,lk,hl2]))
 ·obtain rfl:k=n:=by omega
  have e1:decide ((k:Int)<(k:Int))=false:=decide_eq_false (by omega)
  have hRt:R.take k=R:=AV (by omega)
  rw[hRt]
  repeat(first|(refine sB hL hn rfl ?_;simp only[go_sem,seval,e1])|refine sN rfl ?_|refine sC ?_)
  refine⟨.ret (.sl (σ.length+1) k 0 k),σ++(Ob.arr 95 2 [.agg [.sl id xs.length 0 xs.length,.vec c 1 K]]::.arr 91 2 R::T),?_,_,_,_,ai.refl _ _,rfl,ag.refl _ _ _,rfl⟩
  have hJ:(σ++(Ob.arr 95 2 [.agg [.sl id xs.length 0 xs.length,.vec c 1 K]]::.arr 91 2 R::T))[σ.length+1]?=some (.arr 91 2 R):=by rw[ak];rfl
  refine⟨σ,_,some (σ.length+1),_,.sl σ.length k 0 k,rfl,er.refl _,.own rfl,fun i hi=>?_,.inl ⟨rfl,rfl,?_⟩⟩
  ·cases hi
   refine⟨by omega,_,_,_,hJ,fun z hz=>?_⟩
   rw[hR] at hz
   obtain⟨x,_,rfl⟩:=Ba.1 hz
   exact iF _ _
  ·simp only[df,AZ,hJ];rfl
def zP:DV:=.agg [.int .i64 0,.int .u64 0]
def prG (l:List aE) (r:Nat):Ob:=.arr 91 2 (l.map ePt++AO r zP)
theorem cR (l:List aE):((l.map ePt).all fun y=>y.cells.all DV.one)=true:=by
 rw[AS]
 intro y hy
 obtain⟨x,_,rfl⟩:=Ba.1 hy
 rfl
theorem j6 (n:Nat) (l:List aE) (r:Nat):∀x∈l.map ePt++AO r zP,Low n x:=by
 intro x hx
 rcases BT.1 hx with hx|hx
 ·obtain⟨y,_,rfl⟩:=Ba.1 hx
  exact iF n y
 ·rw[(BK.1 hx).2]
  simp[zP,aH,ax]
theorem tH{σ:List Ob}{id J n i k:Nat}{l tl:List aE} (hid:σ[id]?=some (prG l 0)) (hne:J≠id) (hJ:σ[J]?=some (prG tl 0)) (hl:l.length=n) (hk:tl.length=k) (hk1:1≤k) (hk2:k≤2) (hi:i+2≤n) (hn9:n≤1000):
  Ok Try.prog 57 [.sl id n 0 n,.int .i64 (i:Int),.int .i64 ((i+2:Nat):Int),.sl J k 0 k] σ (.ret (.sl id n 0 (n-2+k))) (s1 σ id (prG (l.take i++tl++l.drop (i+2)) (2-k))):=by
 have hlt:=(AH.1 hid).1
 have hs:s1 σ id (.arr 91 2 (l.map ePt))=σ:=by
  have:=oY hid
  simpa[prG] using this
 have hJ':σ[J]?=some (.arr 91 2 (tl.map ePt)):=by simpa[prG] using hJ
 have e:(l.take i++tl++l.drop (i+2)).map ePt=(l.map ePt).take i++tl.map ePt++(l.map ePt).drop (i+2):=by simp
 have ltk:(tl.map ePt).take k=tl.map ePt:=AV (by simp[hk])
 by_cases hlast:i+2=n
 ·have:=tG (σ:=σ) (id:=id) (J:=J) (n:=n) (g:=k) (i:=i) (k:=k) (X:=l.map ePt) (V:=tl.map ePt) (VV:=tl.map ePt) hlt hne hJ' (by simp[hk]) ltk.symm (by simp[hk]) (by simp[hl]) (by omega) (by omega) (by omega) (cR l) (cR tl)
  rw[hs] at this
  unfold prG
  rw[e,hlast,A9 (by simp[hl]),AK,show n-2+k=i+k by omega,show 2-k=n-(i+k) by omega]
  exact this
 ·have:=tF (σ:=σ) (id:=id) (J:=J) (n:=n) (g:=k) (i:=i) (j:=i+2) (k:=k) (tot:=n-2+k) (X:=l.map ePt) (V:=tl.map ePt) (VV:=tl.map ePt) hlt hne hJ' (by simp[hk]) ltk.symm (by simp[hk]) (by simp[hl]) (by omega) (by omega) (by omega) (by omega) (cR l) (cR tl) (by omega)
  rw[hs] at this
  unfold prG
  rw[e,show 2-k=n-(n-2+k) by omega]
  exact this
theorem x8{σ:List Ob}{id J n g i k r:Nat}{l tl:List aE} (hid:σ[id]?=some (prG l 0)) (hne:J≠id) (hJ:σ[J]?=some (prG tl r)) (hg:tl.length+r=g) (hl:l.length=n) (hk:tl.length=k) (hk1:1≤k) (hk2:k≤2) (hi:i<n) (hn9:n≤1000):
  Ok Try.prog 57 [.sl id n 0 n,.int .i64 (i:Int),.int .i64 ((i+1:Nat):Int),.sl J g 0 k] σ (.ret (.sl id (n-1+k) 0 (n-1+k))) (s1 σ id (prG (l.take i++tl++l.drop (i+1)) 0)):=by
 have hlt:=(AH.1 hid).1
 have hs:s1 σ id (.arr 91 2 (l.map ePt))=σ:=by
  have:=oY hid
  simpa[prG] using this
 have e:(l.take i++tl++l.drop (i+1)).map ePt=(l.map ePt).take i++tl.map ePt++(l.map ePt).drop (i+1):=by simp
 obtain⟨VV,hVV⟩:∃VV,VV=tl.map ePt++AO r zP:=⟨_,rfl⟩
 have hJ':σ[J]?=some (.arr 91 2 VV):=by rw[hVV];exact hJ
 have hVl:VV.length=g:=by rw[hVV];simp[hg]
 have ltk:tl.map ePt=VV.take k:=by rw[hVV,BL (by simp[hk]),AV (by simp[hk])]
 unfold prG
 rw[e,BU,AK]
 rcases(show k=1∨k=2 by omega) with rfl|rfl
 ·rw[show n-1+1=n by omega]
  by_cases hlast:i+1=n
  ·have:=tG (σ:=σ) (id:=id) (J:=J) (n:=n) (g:=g) (i:=i) (k:=1) (X:=l.map ePt) (V:=tl.map ePt) (VV:=VV) hlt hne hJ' hVl ltk (by simp[hk]) (by simp[hl]) (by omega) (by omega) (by omega) (cR l) (cR tl)
   rw[hs,show n-(i+1)=0 by omega,BU,AK] at this
   rw[hlast,A9 (by simp[hl]),AK]
   rw[hlast] at this
   exact this
  ·have:=tF (σ:=σ) (id:=id) (J:=J) (n:=n) (g:=g) (i:=i) (j:=i+1) (k:=1) (tot:=n) (X:=l.map ePt) (V:=tl.map ePt) (VV:=VV) hlt hne hJ' hVl ltk (by simp[hk]) (by simp[hl]) (by omega) (by omega) (by omega) (by omega) (cR l) (cR tl) (by omega)
   rw[hs,B7,BU,AK] at this
   exact this
 ·rw[show n-1+2=n+1 by omega]
  by_cases hlast:i+1=n
  ·have:=wh (σ:=σ) (id:=id) (J:=J) (n:=n) (g:=g) (i:=i) (X:=l.map ePt) (V:=tl.map ePt) (VV:=VV) hlt hne hJ' hVl ltk (by simp[hk]) (by simp[hl]) hlast (by omega) (cR l) (cR tl)
   rw[hs] at this
   rw[hlast,A9 (by simp[hl]),AK]
   exact this
  ·have:=uG (σ:=σ) (id:=id) (J:=J) (n:=n) (g:=g) (i:=i) (j:=i+1) (X:=l.map ePt) (V:=tl.map ePt) (VV:=VV) hlt hne hJ' hVl ltk (by simp[hk]) (by simp[hl]) rfl (by omega) (by omega) (cR l) (cR tl) (fun y hy m=>by
    rw[←e] at hy
    obtain⟨x,_,rfl⟩:=Ba.1 hy
    exact iF m x)
   rw[hs] at this
   exact this
theorem dI{σ:List Ob}{a p i:Nat} (ha:i≠a) (hp:i≠p) (w:Wr) (o:Ob):(wS2 σ a p w).set i o=wS2 (σ.set i o) a p w:=by
 unfold wS2 wrS s2
 rw[Df _ _ (Ne.symm hp),Df _ _ (Ne.symm ha)]
theorem l7{σ:List Ob}{a p i:Nat} (hi:i<σ.length) (ha:i≠a) (hp:i≠p) (w:Wr) (T:List Ob) (o:Ob):(wS2 σ a p w++T).set i o=wS2 (σ.set i o) a p w++T:=by
 rw[Bo _ _ (by rw[am];exact hi),dI ha hp]
theorem Two.set{σ:List Ob}{a p:Nat} (h:Two σ a p) (i:Nat) (o:Ob):Two (σ.set i o) a p:=⟨by simpa using h.la,by simpa using h.lb,h.ab⟩
section
def di56_2:List DI:=[⟨[0],[],false,[0],some 13,[]⟩,⟨[1],[],false,[0],some 14,[]⟩,⟨[2],[],false,[0],some 15,[]⟩,⟨[15],[2],false,[0],some 16,[2]⟩,⟨[14,16],[1,2,3],false,[0],some 17,[1,3]⟩,⟨[17],rg 1 4,false,[0],some 18,[4]⟩,⟨[18],rg 1 5,false,[0],some 19,[5]⟩,⟨[13,19],rg 0 7,true,[],some 20,[0,6]⟩,⟨[1],[],false,[0,1],some 21,[]⟩,⟨[2],[],false,[0,1],some 22,[]⟩,⟨[22],[9],false,[0,1],some 23,[9]⟩,⟨[21,23],[8,9,10],false,[0,1],some 24,[8,10]⟩,⟨[24],rg 8 4,false,[0,1],some 25,[11]⟩,⟨[25],rg 8 5,false,[0,1],some 26,[12]⟩,⟨[20,26],rg 0 14,true,[],some 27,[7,13,7]⟩,⟨[27],rg 0 15,false,[2],some 9,([14,14]++rg 0 15)⟩]
def di56_4:List DI:=[⟨[0],[],false,[0],some 39,[]⟩,⟨[1],[],false,[0],some 40,[]⟩,⟨[40],[1],false,[0],some 41,[1]⟩,⟨[41],[1,2],false,[0],some 42,[2]⟩,⟨[42],[1,2,3],false,[0],some 43,[3]⟩,⟨[39,43],rg 0 5,true,[],some 44,[0,4]⟩,⟨[1],[],false,[0,1],some 45,[]⟩,⟨[45],[6],false,[0,1],some 46,[6]⟩,⟨[46],[6,7],false,[0,1],some 47,[7]⟩,⟨[47],[6,7,8],false,[0,1],some 48,[8]⟩,⟨[44,48],rg 0 10,true,[],some 49,[5,9,5]⟩,⟨[49],rg 0 11,false,[2],some 10,([10,10]++rg 0 11)⟩]
theorem nL{σ:List Ob}{a p i:Nat} (h2:Two σ a p) (ha:i≠a) (hp:i≠p) (w w':Wr) (l:List aE) (r:Nat):er (wS2 σ a p w) (wS2 (σ.set i (prG l r)) a p w'):=by
 rw[←dI ha hp]
 exact er.set (cO h2 w w') (j6 _ l r)
theorem fM{n:Nat}{l:List aE} (h:0<l.length):wq n l=.sl n l.length 0 l.length:=by
 match l,h with
 |_::_,_=>rfl
theorem fL{l:List aE} (h:0<l.length):uN l=[prG l 0]:=by
 match l,h with
 |_::_,_=>simp[uN,prG]
theorem eW:∀(bs:List (List UInt8×Int)) (w w':Wr) (l l':List aE),dV w bs l=some (l',w')→l'.length=l.length+bs.length
 | [],w,w',l,l',h=>by cases h;rfl
 |b::r,w,w',l,l',h=>by
  simp only[dV] at h
  cases hp:cP w b.1 with
  |none=>rw[hp] at h;cases h
  |some q=>
   obtain⟨k,w1⟩:=q
   rw[hp] at h
   rw[eW r w1 w' _ l' h]
   simp only[AP,A5,Bj]
   omega
theorem dn{w w':Wr}{l l':List aE} (hl:2≤l.length∧l.length≤5) (h:cZ w l=some (l',w')):1≤l'.length∧l'.length≤2:=by
 have:=eW _ _ _ _ _ h
 have hg:=q8 l hl
 simp only[AN,Bj] at this
 omega
def bn (ps:List Pg) (at_:Int):List It:=(av (ef ps at_)).1.1
def bD (ps:List Pg) (at_:Int):List Int:=(av (ef ps at_)).1.2
def okAt (ps:List Pg) (at_:Int):Prop:=0<at_∧at_≤(ps.length:Int)∧(av (ef ps at_)).2=0
theorem okAt.facts{ps:List Pg}{at_:Int} (h:okAt ps at_):1≤(bn ps at_).length∧(bn ps at_).length≤3∧((bD ps at_).length=0∨(bD ps at_).length=(bn ps at_).length+1):=by
 have:=em (iX h.2.2)
 exact⟨this.1,this.2.1,this.2.2.1⟩
section
variable{σ:List Ob}{a p idl idb n r:Nat}{w:Wr}{PL:List aE}{y s:aE}
 (h2:Two σ a p) (hw:w.ok) (la:idl≠a) (lp:idl≠p) (ba:idb≠a) (bp:idb≠p) (lb:idl≠idb) (hL:σ[idl]?=some (prG PL 0)) (hn:PL.length=n) (hn4:n≤4)
 (hY:σ[idb]?=some (prG [y] r)) (hs:okAt w.ps s.1) (hk:(bD w.ps s.1).length=(bn w.ps s.1).length+1)
include h2 hw la lp ba bp lb hL hn hn4 hY hs hk
theorem wL{i:Nat} (hi:i+1<n) (hsi:PL[i]?=some s):
  (∀tl w',cZ w (eS (bn w.ps s.1) (bD w.ps s.1) s.2++[y])=some (tl,w')→Ok Try.prog 56 [.ptr a 1 0 0,.sl idl n 0 n,.int .i64 ((i+1:Nat):Int),.sl idb (1+r) 0 1] (wS2 σ a p w) (.ret (.sl idl n 0 (n-2+tl.length))) (wS2 (σ.set idl (prG (PL.take i++tl++PL.drop (i+2)) (2-tl.length))) a p w'))∧
  (cZ w (eS (bn w.ps s.1) (bD w.ps s.1) s.2++[y])=none→∃w',Ok Try.prog 56 [.ptr a 1 0 0,.sl idl n 0 n,.int .i64 ((i+1:Nat):Int),.sl idb (1+r) 0 1] (wS2 σ a p w) (.pan (be 51)) (wS2 σ a p w')):=by
 have _:=lb
 obtain⟨f1,f2,_⟩:=hs.facts
 obtain⟨hs1,hs2,hs3⟩:=hs
 have hold:=sz h2 hs1 hs2 (by have:=hw.2;omega) hs3
 obtain⟨xs,hxs⟩:∃xs,xs=bn w.ps s.1:=⟨_,rfl⟩
 obtain⟨ks,hks⟩:∃ks,ks=bD w.ps s.1:=⟨_,rfl⟩
 rw[show(av (ef w.ps s.1)).1.1=xs from hxs.symm,show(av (ef w.ps s.1)).1.2=ks from hks.symm] at hold
 rw[←hxs,←hks] at hk⊢
 rw[←hxs] at f1 f2
 obtain⟨sis,hsis⟩:∃sis,sis=eS xs ks s.2:=⟨_,rfl⟩
 have hsl:sis.length=ks.length:=by rw[hsis,eR]
 rw[←hsis]
 obtain⟨m,hm⟩:∃m,m=σ.length:=⟨_,rfl⟩
 obtain⟨U,hU⟩:∃U,U=wS2 σ a p w:=⟨_,rfl⟩
 have hUl:U.length=m:=by rw[hU,am,hm]
 obtain⟨I,hI⟩:∃I,I=Ob.arr 27 2 (xs.map eT):=⟨_,rfl⟩
 obtain⟨q,hq⟩:∃q,q=ks.length:=⟨_,rfl⟩
 have hlU:∀T,(U++T)[idl]?=some (prG PL 0):=fun T=>by rw[hU];exact bO la lp hL w T
 have hbU:∀T,(U++T)[idb]?=some (prG [y] r):=fun T=>by rw[hU];exact bO ba bp hY w T
 have hpar:=mE (σ:=U++[I]) (id:=m) (c:=0) (xs:=xs) (ks:=ks) s.2 (by rw[←hUl,aL,hI];rfl) hk f2
 rw[←hsis,←hq,AR,show(U++[I]).length=m+1 by simp[hUl]] at hpar
 simp only[Bq,Be] at hpar
 rw[←hU,←hI,←hm] at hold
 obtain⟨lst,hlst⟩:∃lst,lst=sis++[y]:=⟨_,rfl⟩
 have hll:lst.length=q+1:=by rw[hlst,AP,hsl,hq];rfl
 obtain⟨V,hV⟩:∃V,V=U++[I,prG lst 0]:=⟨_,rfl⟩
 have hVl:V.length=m+2:=by rw[hV];simp[hUl]
 have hVw:V=wS2 V a p w:=by rw[hV,hU,aT h2]
 have hV2:Two V a p:=by rw[hV,hU];exact ca h2 w _
 have la':=h2.la
 have lp':=h2.lb
 have htall:=lG hV2 hw (id:=m+1) (N:=q+1) (XX:=lst.map ePt) (by rw[hV,←hUl,ak];simp[prG]) (by omega) (by omega) (by simp[hll]) lst (by omega) (AV (by simp)) (by omega)
 rw[←hVw,hVl,←hll] at htall
 rw[←hlst]
 obtain⟨XL,hXL⟩:∃XL,XL=PL.map ePt:=⟨_,rfl⟩
 have hXLl:XL.length=n:=by rw[hXL,AN,hn]
 obtain⟨s1',s2'⟩:=s
 simp only at hold hpar
 have eL:XL[i]?=some (.agg [.int .i64 s1',.int .u64 s2']):=by rw[hXL,AQ,hsi];rfl
 have hlU':∀T,(U++T)[idl]?=some (.arr 91 2 XL):=fun T=>by rw[hlU,hXL];simp[prG]
 have hlU0:U[idl]?=some (.arr 91 2 XL):=by have:=hlU' [];rwa [AK] at this
 obtain⟨YY,hYY⟩:∃YY,YY=[ePt y]++AO r zP:=⟨_,rfl⟩
 have hYl:YY.length=1+r:=by rw[hYY];simp;omega
 have hbU':∀T,(U++T)[idb]?=some (.arr 91 2 YY):=fun T=>by rw[hbU,hYY];rfl
 obtain⟨y1,y2⟩:=y
 have hYt:YY.take 1=[.agg [.int .i64 y1,.int .u64 y2]]:=by rw[hYY];rfl
 have e0:(0≤(i:Int))=True:=eq_true (by omega)
 have e2:((i:Int)<(n:Int))=True:=eq_true (by omega)
 have d0:decide (((i+1:Nat):Int)>0)=true:=decide_eq_true (by omega)
 have w1:IntKind.i64.wrap (((i+1:Nat):Int)-1)=(i:Int):=wi (by omega) (by omega)
 have w2:IntKind.i64.wrap (((i+1:Nat):Int)+1)=((i+2:Nat):Int):=wi (by omega) (by omega)
 have so1:∀(T:List Ob) (k:Nat),(U++T)[m+k]?=T[k]?:=fun T k=>by rw[←hUl];exact ak _ _ _
 have ss1:∀(T:List Ob) (k:Nat) (o:Ob),(U++T).set (m+k) o=U++T.set k o:=fun T k o=>by rw[←hUl];exact ay _ _ _ _
 obtain⟨SI,hSI⟩:∃SI,SI=sis.map ePt:=⟨_,rfl⟩
 have hSIl:SI.length=q:=by rw[hSI,AN,hsl,hq]
 rw[←hSI] at hpar
 have hcap:((q+1)*16≤140737488355328)=True:=eq_true (by omega)
 have hlst':prG lst 0=.arr 91 2 (SI++[.agg [.int .i64 y1,.int .u64 y2]]):=by rw[hlst,hSI];simp[prG,ePt]
 have g1:(1+r=YY.length)=True:=eq_true hYl.symm
 obtain⟨M1,hM1⟩:∃M1,M1=U++[I]:=⟨_,rfl⟩
 obtain⟨M2,hM2⟩:∃M2,M2=U++[I,.arr 91 2 SI]:=⟨_,rfl⟩
 have k1:M1[idl]?=some (.arr 91 2 XL):=by rw[hM1];exact hlU' _
 have k2:M2[idl]?=some (.arr 91 2 XL):=by rw[hM2];exact hlU' _
 rw[←hM1] at hold
 rw[←hM1,←hM2] at hpar
 rw[hlst'] at hV
 refine⟨fun tl w' ht=>?_,fun ht=>?_⟩
 ·have htl:=dn (by omega:2≤lst.length∧lst.length≤5) ht
  have hcall:=htall.1 tl w' ht
  rw[fM (by omega),fL (by omega)] at hcall
  obtain⟨W,hW⟩:∃W,W=wS2 V a p w'++[prG tl 0]:=⟨_,rfl⟩
  have hWw:W=wS2 σ a p w'++[I,prG lst 0,prG tl 0]:=by rw[hW,hV,hU,aT h2,hlst'];simp
  have hrep:=tH (σ:=W) (id:=idl) (J:=m+2) (n:=n) (i:=i) (k:=tl.length) (l:=PL) (tl:=tl) (by rw[hWw];exact bO la lp hL w' _) (by have:=(AH.1 hL).1;omega) (by rw[hWw,hm,←am (σ:=σ) (a:=a) (p:=p) w',ak];rfl) hn rfl (by omega) (by omega) (by omega) (by omega)
  have hfin:s1 W idl (prG (PL.take i++tl++PL.drop (i+2)) (2-tl.length))=wS2 (σ.set idl (prG (PL.take i++tl++PL.drop (i+2)) (2-tl.length))) a p w'++[I,prG lst 0,prG tl 0]:=by
   rw[hWw];exact l7 (AH.1 hL).1 la lp w' _ _
  rw[hfin] at hrep
  rw[←hW,hll,hV] at hcall
  have hfull:Ok Try.prog 56 [.ptr a 1 0 0,.sl idl n 0 n,.int .i64 ((i+1:Nat):Int),.sl idb (1+r) 0 1] U (.ret (.sl idl n 0 (n-2+tl.length))) (wS2 (σ.set idl (prG (PL.take i++tl++PL.drop (i+2)) (2-tl.length))) a p w'++[I,prG lst 0,prG tl 0]):=by
   refine Ok.of_body ae Try.func56 rfl (by decide) (by simp[Try.ntmps56]) fun C hP hn hσ hfix hdd=>?_
   rw[show Try.f56.ntmps=57 from rfl] at hn
   have hL:af C.P L:=hP▸ae
   have hm:C.P.follows .mixedOrders=true:=hP▸ao
   repeat(first|(refine sB hL hn rfl ?_;simp only[go_sem,seval,d0])|refine sN rfl ?_|refine sC ?_)
   refine(?_:SW C _ _ _);first|refine sL hL hm hn di56_2 [U,M1,M2] rfl rfl rfl ?_|refine sM hL hm hn di56_2 [U,M1,M2] rfl rfl rfl ?_
   unfold di56_2
   repeat(rw[ah];simp (maxSteps:=2000000) only[go_sem,seval,hlU0,hXLl,e0,e2,eL,w1])
   try rw[aj]
   try simp only[go_sem,seval,hlU0,k1,k2,hXLl,e0,e2,eL,w1]
   refine aI.effx hP (hold) rfl rfl rfl rfl ?_;simp (maxSteps:=2000000) only[go_sem,seval,ah,hlU0,k1,hXLl,e0,e2,eL,w1]
   repeat(rw[ah];simp (maxSteps:=2000000) only[go_sem,seval,hlU0,k1,k2,hXLl,e0,e2,eL,w1])
   try rw[aj]
   try simp only[go_sem,seval,hlU0,k1,k2,hXLl,e0,e2,eL,w1]
   refine aI.effx hP (hpar) rfl rfl rfl rfl ?_;simp (maxSteps:=2000000) only[go_sem,seval,aj,ah]
   repeat(rw[ah];simp (maxSteps:=2000000) only[go_sem,seval,hlU0,k1,k2,hXLl,e0,e2,eL,w1])
   try rw[aj]
   try simp only[go_sem,seval,hlU0,k1,k2,hXLl,e0,e2,eL,w1]
   refine SW.keep [(0,.ptr a 1 0 0),(1,.sl idl n 0 n),(2,.int .i64 ((i+1:Nat):Int)),(3,.sl idb (1+r) 0 1),(9,.sl (m+1) q 0 q)] (by exact⟨rfl,rfl,rfl,rfl,rfl,trivial⟩) ?_
   rw[hM2]
   repeat(first|(refine sB hL hn rfl ?_;simp only[go_sem,seval,w1,w2,so1,ss1,hbU',hSIl,aG,g1,hYt,hcap])|refine sN rfl ?_|refine sC ?_)
   refine sK hP hL hn rfl rfl (hcall) rfl rfl rfl rfl ?_;simp (maxSteps:=2000000) only[go_sem,seval]
   repeat(first|(refine sB hL hn rfl ?_;simp only[go_sem,seval,w1,w2])|refine sN rfl ?_|refine sC ?_)
   refine sK hP hL hn rfl rfl (hrep) rfl rfl rfl rfl ?_;simp (maxSteps:=2000000) only[go_sem,seval]
   repeat(first|(refine sB hL hn rfl ?_;simp only[go_sem,seval])|refine sN rfl ?_|refine sC ?_)
   exact⟨_,_,_,ai.refl _ _,rfl,ag.refl _ _ _,rfl⟩
  rw[←hU]
  have:=Ok.tidy (c:=0) (D:=.sl idl n 0 (n-2+tl.length)) none hfull (by rw[hU];exact nL h2 la lp w w' _ _) (.low ((da _ _ _ _).2 (AH.1 hlU0).1)) (fun i hi=>by cases hi)
  simp only[df,AK] at this
  exact this
 ·obtain⟨w',hcall⟩:=htall.2 ht
  refine⟨w',?_⟩
  have hVw':wS2 V a p w'=wS2 σ a p w'++[I,prG lst 0]:=by rw[hV,hU,aT h2,hlst']
  rw[hll,hVw',hV] at hcall
  have hfull:Ok Try.prog 56 [.ptr a 1 0 0,.sl idl n 0 n,.int .i64 ((i+1:Nat):Int),.sl idb (1+r) 0 1] U (.pan (be 51)) (wS2 σ a p w'++[I,prG lst 0]):=by
   refine Ok.of_body ae Try.func56 rfl (by decide) (by simp[Try.ntmps56]) fun C hP hn hσ hfix hdd=>?_
   rw[show Try.f56.ntmps=57 from rfl] at hn
   have hL:af C.P L:=hP▸ae
   have hm:C.P.follows .mixedOrders=true:=hP▸ao
   repeat(first|(refine sB hL hn rfl ?_;simp only[go_sem,seval,d0])|refine sN rfl ?_|refine sC ?_)
   refine(?_:SW C _ _ _);first|refine sL hL hm hn di56_2 [U,M1,M2] rfl rfl rfl ?_|refine sM hL hm hn di56_2 [U,M1,M2] rfl rfl rfl ?_
   unfold di56_2
   repeat(rw[ah];simp (maxSteps:=2000000) only[go_sem,seval,hlU0,hXLl,e0,e2,eL,w1])
   try rw[aj]
   try simp only[go_sem,seval,hlU0,k1,k2,hXLl,e0,e2,eL,w1]
   refine aI.effx hP (hold) rfl rfl rfl rfl ?_;simp (maxSteps:=2000000) only[go_sem,seval,ah,hlU0,k1,hXLl,e0,e2,eL,w1]
   repeat(rw[ah];simp (maxSteps:=2000000) only[go_sem,seval,hlU0,k1,k2,hXLl,e0,e2,eL,w1])
   try rw[aj]
   try simp only[go_sem,seval,hlU0,k1,k2,hXLl,e0,e2,eL,w1]
   refine aI.effx hP (hpar) rfl rfl rfl rfl ?_;simp (maxSteps:=2000000) only[go_sem,seval,aj,ah]
   repeat(rw[ah];simp (maxSteps:=2000000) only[go_sem,seval,hlU0,k1,k2,hXLl,e0,e2,eL,w1])
   try rw[aj]
   try simp only[go_sem,seval,hlU0,k1,k2,hXLl,e0,e2,eL,w1]
   refine SW.keep [(0,.ptr a 1 0 0),(1,.sl idl n 0 n),(2,.int .i64 ((i+1:Nat):Int)),(3,.sl idb (1+r) 0 1),(9,.sl (m+1) q 0 q)] (by exact⟨rfl,rfl,rfl,rfl,rfl,trivial⟩) ?_
   rw[hM2]
   repeat(first|(refine sB hL hn rfl ?_;simp only[go_sem,seval,w1,w2,so1,ss1,hbU',hSIl,aG,g1,hYt,hcap])|refine sN rfl ?_|refine sC ?_)
   refine aa.callp hP (by rw[hn];rfl) (hcall) rfl rfl rfl rfl ?_;simp (maxSteps:=2000000) only[go_sem,seval]
   exact⟨_,ag.refl _ _ _,rfl⟩
  rw[hU] at hfull
  exact dJ h2 hfull
theorem wN (hn2:2≤n) (hr:r≤1) (hsi:PL[1]?=some s):
  (∀tl w',cZ w (y::eS (bn w.ps s.1) (bD w.ps s.1) s.2)=some (tl,w')→∃B,Ok Try.prog 56 [.ptr a 1 0 0,.sl idl n 0 n,.int .i64 0,.sl idb (1+r) 0 1] (wS2 σ a p w) (.ret (.sl idl n 0 (n-2+tl.length))) (wS2 ((σ.set idb (prG B 0)).set idl (prG (tl++PL.drop 2) (2-tl.length))) a p w'))∧
  (cZ w (y::eS (bn w.ps s.1) (bD w.ps s.1) s.2)=none→∃w' B,Ok Try.prog 56 [.ptr a 1 0 0,.sl idl n 0 n,.int .i64 0,.sl idb (1+r) 0 1] (wS2 σ a p w) (.pan (be 51)) (wS2 (σ.set idb (prG B 0)) a p w')):=by
 obtain⟨f1,f2,_⟩:=hs.facts
 obtain⟨hs1,hs2,hs3⟩:=hs
 have hold:=sz h2 hs1 hs2 (by have:=hw.2;omega) hs3
 obtain⟨xs,hxs⟩:∃xs,xs=bn w.ps s.1:=⟨_,rfl⟩
 obtain⟨ks,hks⟩:∃ks,ks=bD w.ps s.1:=⟨_,rfl⟩
 rw[show(av (ef w.ps s.1)).1.1=xs from hxs.symm,show(av (ef w.ps s.1)).1.2=ks from hks.symm] at hold
 rw[←hxs,←hks] at hk⊢
 rw[←hxs] at f1 f2
 obtain⟨sis,hsis⟩:∃sis,sis=eS xs ks s.2:=⟨_,rfl⟩
 have hsl:sis.length=ks.length:=by rw[hsis,eR]
 rw[←hsis]
 obtain⟨m,hm⟩:∃m,m=σ.length:=⟨_,rfl⟩
 obtain⟨U,hU⟩:∃U,U=wS2 σ a p w:=⟨_,rfl⟩
 have hUl:U.length=m:=by rw[hU,am,hm]
 obtain⟨I,hI⟩:∃I,I=Ob.arr 27 2 (xs.map eT):=⟨_,rfl⟩
 obtain⟨q,hq⟩:∃q,q=ks.length:=⟨_,rfl⟩
 have hlU:∀T,(U++T)[idl]?=some (prG PL 0):=fun T=>by rw[hU];exact bO la lp hL w T
 have hbU:∀T,(U++T)[idb]?=some (prG [y] r):=fun T=>by rw[hU];exact bO ba bp hY w T
 have hpar:=mE (σ:=U++[I]) (id:=m) (c:=0) (xs:=xs) (ks:=ks) s.2 (by rw[←hUl,aL,hI];rfl) hk f2
 rw[←hsis,←hq,AR,show(U++[I]).length=m+1 by simp[hUl]] at hpar
 simp only[Bq,Be] at hpar
 rw[←hU,←hI,←hm] at hold
 obtain⟨lst,hlst⟩:∃lst,lst=y::sis:=⟨_,rfl⟩
 have hll:lst.length=q+1:=by rw[hlst,A5,hsl,hq]
 have hbl:=(AH.1 hY).1
 have hll':=(AH.1 hL).1
 obtain⟨τ,hτ⟩:∃τ,τ=σ.set idb (prG lst 0):=⟨_,rfl⟩
 have hτ2:Two τ a p:=by rw[hτ];exact h2.set _ _
 have hτl:τ.length=m:=by rw[hτ,Ci,hm]
 have hτb:τ[idb]?=some (prG lst 0):=by rw[hτ];simp[hbl]
 have hτi:τ[idl]?=some (prG PL 0):=by rw[hτ,A6 (Ne.symm lb)];exact hL
 obtain⟨SI,hSI⟩:∃SI,SI=sis.map ePt:=⟨_,rfl⟩
 have hSIl:SI.length=q:=by rw[hSI,AN,hsl,hq]
 obtain⟨V,hV⟩:∃V,V=wS2 τ a p w++[I,.arr 91 2 SI]:=⟨_,rfl⟩
 have hVl:V.length=m+2:=by rw[hV,AP,am,hτl];rfl
 have hVw:V=wS2 V a p w:=by rw[hV,aT hτ2]
 have hV2:Two V a p:=by rw[hV];exact ca hτ2 w _
 have la':=h2.la
 have lp':=h2.lb
 have htall:=lG hV2 hw (id:=idb) (N:=q+1) (XX:=lst.map ePt) (by rw[hV];have:=bO ba bp hτb w [I,.arr 91 2 SI];simpa[prG] using this) ba bp (by simp[hll]) lst (by omega) (AV (by simp)) (by omega)
 rw[←hVw,hVl,hll] at htall
 rw[←hlst]
 obtain⟨XL,hXL⟩:∃XL,XL=PL.map ePt:=⟨_,rfl⟩
 have hXLl:XL.length=n:=by rw[hXL,AN,hn]
 obtain⟨s1',s2'⟩:=s
 simp only at hold hpar
 have eL:XL[1]?=some (.agg [.int .i64 s1',.int .u64 s2']):=by rw[hXL,AQ,hsi];rfl
 have hlU':∀T,(U++T)[idl]?=some (.arr 91 2 XL):=fun T=>by rw[hlU,hXL];simp[prG]
 have hlU0:U[idl]?=some (.arr 91 2 XL):=by have:=hlU' [];rwa [AK] at this
 obtain⟨YY,hYY⟩:∃YY,YY=[ePt y]++AO r zP:=⟨_,rfl⟩
 have hYl:YY.length=1+r:=by rw[hYY];simp;omega
 have hbU':∀T,(U++T)[idb]?=some (.arr 91 2 YY):=fun T=>by rw[hbU,hYY];rfl
 have e0:((0:Int)≤1)=True:=by simp
 have e2:((1:Int)<(n:Int))=True:=eq_true (by omega)
 have t1:Ce 1=1:=rfl
 have so1:∀(T:List Ob) (k:Nat),(U++T)[m+k]?=T[k]?:=fun T k=>by rw[←hUl];exact ak _ _ _
 rw[←hSI] at hpar
 obtain⟨M1,hM1⟩:∃M1,M1=U++[I]:=⟨_,rfl⟩
 obtain⟨M2,hM2⟩:∃M2,M2=U++[I,.arr 91 2 SI]:=⟨_,rfl⟩
 have k1:M1[idl]?=some (.arr 91 2 XL):=by rw[hM1];exact hlU' _
 have k2:M2[idl]?=some (.arr 91 2 XL):=by rw[hM2];exact hlU' _
 have k3:M2[idb]?=some (.arr 91 2 YY):=by rw[hM2];exact hbU' _
 have k4:M2[m+1]?=some (.arr 91 2 SI):=by rw[hM2];exact so1 _ _
 have hset:M2.set idb (.arr 91 2 (YY.take 1++SI))=V:=by
  have hE:YY.take 1++SI=lst.map ePt:=by rw[hYY,hlst,hSI];rfl
  rw[hE,hM2,hU,l7 hbl ba bp,hV,hτ]
  simp[prG]
 rw[←hM1] at hold
 rw[←hM1,←hM2] at hpar
 have oneY:∀z∈YY,∀c∈z.cells,c.one=true:=fun z hz c hc=>by
  rw[hYY] at hz
  rcases BT.1 hz with hz|hz
  ·rw[BX.1 hz] at hc
   simp only[ePt,DV.cells,Bh,Bw,or_false] at hc
   rcases hc with rfl|rfl<;>rfl
  ·rw[(BK.1 hz).2] at hc
   simp only[zP,DV.cells,Bh,Bw,or_false] at hc
   rcases hc with rfl|rfl<;>rfl
 have oneS:∀z∈SI,∀c∈z.cells,c.one=true:=fun z hz c hc=>by
  rw[hSI] at hz
  obtain⟨u,_,rfl⟩:=Ba.1 hz
  simp only[ePt,DV.cells,Bh,Bw,or_false] at hc
  rcases hc with rfl|rfl<;>rfl
 have happ:∀(C:Ctx) (hLL:af C.P L) (o:Oper) (env:List (Nat×DV)) (x1 x2:Operand) (xa:Array Operand) (ts:Array TypeId),o.op=.call {callee:=.builtin .append,args:=xa,argTypes:=ts}→xa.toList=[x1,x2]→ts.toList=[86,86]→ev env x1=.sl idb (1+r) 0 1→ev env x2=.sl (m+1) q 0 q→ar C.P o ⟨env,M2⟩ (.sl idb (q+1) 0 (q+1)) V:=by
  intro C hLL o env x1 x2 xa ts ho hx hts hx1 hx2
  rw[show DV.sl idb (q+1) 0 (q+1)=.sl idb (1+SI.length) 0 (1+SI.length) by rw[hSIl,Nat.add_comm],←hset]
  refine ar.appLong hLL ho hx hts L86 L91 (by decide) rfl ?_ oneS oneY k3 (by omega) (by show(1+SI.length)*16≤_;omega) (.inl ?_) (by omega)
  ·rw[hx2];simp only[jf,L86,bV,k4,hSIl,if_true,Ch]
   rw[AV (by omega)]
  ·rw[hYl];exact hx1
 refine⟨fun tl w' ht=>?_,fun ht=>?_⟩
 ·have htl:=dn (by omega:2≤lst.length∧lst.length≤5) ht
  have hcall:=htall.1 tl w' ht
  rw[fM (by omega),fL (by omega)] at hcall
  obtain⟨W,hW⟩:∃W,W=wS2 V a p w'++[prG tl 0]:=⟨_,rfl⟩
  have hWw:W=wS2 τ a p w'++[I,.arr 91 2 SI,prG tl 0]:=by rw[hW,hV,aT hτ2];simp
  have hrep:=tH (σ:=W) (id:=idl) (J:=m+2) (n:=n) (i:=0) (k:=tl.length) (l:=PL) (tl:=tl) (by rw[hWw];exact bO la lp hτi w' _) (by omega) (by rw[hWw,←hτl,←am (σ:=τ) (a:=a) (p:=p) w',ak];rfl) hn rfl (by omega) (by omega) (by omega) (by omega)
  have hfin:s1 W idl (prG (PL.take 0++tl++PL.drop (0+2)) (2-tl.length))=wS2 (τ.set idl (prG (tl++PL.drop 2) (2-tl.length))) a p w'++[I,.arr 91 2 SI,prG tl 0]:=by
   rw[hWw];exact l7 (by rw[hτl,hm];exact hll') la lp w' _ _
  rw[hfin] at hrep
  rw[←hW] at hcall
  have hfull:Ok Try.prog 56 [.ptr a 1 0 0,.sl idl n 0 n,.int .i64 0,.sl idb (1+r) 0 1] U (.ret (.sl idl n 0 (n-2+tl.length))) (wS2 (τ.set idl (prG (tl++PL.drop 2) (2-tl.length))) a p w'++[I,.arr 91 2 SI,prG tl 0]):=by
   refine Ok.of_body ae Try.func56 rfl (by decide) (by simp[Try.ntmps56]) fun C hP hn hσ hfix hdd=>?_
   rw[show Try.f56.ntmps=57 from rfl] at hn
   have hL:af C.P L:=hP▸ae
   have hm:C.P.follows .mixedOrders=true:=hP▸ao
   repeat(first|(refine sB hL hn rfl ?_;simp only[go_sem,seval])|refine sN rfl ?_|refine sC ?_)
   refine(?_:SW C _ _ _);first|refine sL hL hm hn di56_4 [U,M1,M2] rfl rfl rfl ?_|refine sM hL hm hn di56_4 [U,M1,M2] rfl rfl rfl ?_
   unfold di56_4
   repeat(rw[ah];simp (maxSteps:=2000000) only[go_sem,seval,hlU0,hXLl,e0,e2,eL,t1])
   try rw[aj]
   try simp only[go_sem,seval,hlU0,k1,k2,hXLl,e0,e2,eL,t1]
   refine aI.effx hP (hold) rfl rfl rfl rfl ?_;simp (maxSteps:=2000000) only[go_sem,seval,ah,hlU0,k1,hXLl,e0,e2,eL,t1]
   repeat(rw[ah];simp (maxSteps:=2000000) only[go_sem,seval,hlU0,k1,k2,hXLl,e0,e2,eL])
   try rw[aj]
   try simp only[go_sem,seval,hlU0,k1,k2,hXLl,e0,e2,eL]
   refine aI.effx hP (hpar) rfl rfl rfl rfl ?_;simp (maxSteps:=2000000) only[go_sem,seval,aj,ah]
   repeat(rw[ah];simp (maxSteps:=2000000) only[go_sem,seval,hlU0,k1,k2,hXLl,e0,e2,eL])
   try rw[aj]
   try simp only[go_sem,seval,hlU0,k1,k2,hXLl,e0,e2,eL]
   refine SW.keep [(0,.ptr a 1 0 0),(1,.sl idl n 0 n),(3,.sl idb (1+r) 0 1),(10,.sl (m+1) q 0 q)] (by exact⟨rfl,rfl,rfl,rfl,trivial⟩) ?_
   repeat refine SW.seq ?_
   try refine SW.region ?_
   repeat(refine aa.one hL (by rw[hn];rfl) ?_;simp only[go_sem,seval];refine(?_:aa C _ _ _ _))
   refine aa.op (d:=.sl idb (q+1) 0 (q+1)) (ob':=V) ?_ (fun t ht=>?_) ?_ ?_
   ·rfl
   ·cases ht;rw[hn];decide
   ·exact happ C hL _ _ _ _ _ _ rfl rfl rfl rfl rfl
   refine aa.weak' (l:=[(0,.ptr a 1 0 0),(50,.sl idl n 0 n),(51,.ptr a 1 0 0),(54,.sl idb (q+1) 0 (q+1))]) (by exact⟨rfl,rfl,rfl,rfl,trivial⟩) ?_
   refine sK hP hL hn rfl rfl (hcall) rfl rfl rfl rfl ?_;simp (maxSteps:=2000000) only[go_sem,seval]
   refine sK hP hL hn rfl rfl (hrep) rfl rfl rfl rfl ?_;simp (maxSteps:=2000000) only[go_sem,seval]
   repeat(first|(refine sB hL hn rfl ?_;simp only[go_sem,seval])|refine sN rfl ?_|refine sC ?_)
   exact⟨_,_,_,ai.refl _ _,rfl,ag.refl _ _ _,rfl⟩
  have hBB:prG (PL.take 0++tl++PL.drop (0+2)) (2-tl.length)=prG (tl++PL.drop 2) (2-tl.length):=rfl
  refine⟨lst,?_⟩
  have:=Ok.tidy (c:=0) (D:=.sl idl n 0 (n-2+tl.length)) (σ1:=wS2 (τ.set idl (prG (tl++PL.drop 2) (2-tl.length))) a p w') none hfull (by
   rw[hU,←dI la lp,hτ,←dI ba bp]
   exact er.set (er.set (cO h2 w w') (j6 _ lst 0)) (j6 _ _ _)) (.low ((da _ _ _ _).2 (AH.1 hlU0).1)) (fun i hi=>by cases hi)
  simp only[df,AK] at this
  rw[hU,hτ] at this
  exact this
 ·obtain⟨w',hcall⟩:=htall.2 ht
  refine⟨w',lst,?_⟩
  have hVw':wS2 V a p w'=wS2 τ a p w'++[I,.arr 91 2 SI]:=by rw[hV,aT hτ2]
  rw[hVw'] at hcall
  have hfull:Ok Try.prog 56 [.ptr a 1 0 0,.sl idl n 0 n,.int .i64 0,.sl idb (1+r) 0 1] U (.pan (be 51)) (wS2 τ a p w'++[I,.arr 91 2 SI]):=by
   refine Ok.of_body ae Try.func56 rfl (by decide) (by simp[Try.ntmps56]) fun C hP hn hσ hfix hdd=>?_
   rw[show Try.f56.ntmps=57 from rfl] at hn
   have hL:af C.P L:=hP▸ae
   have hm:C.P.follows .mixedOrders=true:=hP▸ao
   repeat(first|(refine sB hL hn rfl ?_;simp only[go_sem,seval])|refine sN rfl ?_|refine sC ?_)
   refine(?_:SW C _ _ _);first|refine sL hL hm hn di56_4 [U,M1,M2] rfl rfl rfl ?_|refine sM hL hm hn di56_4 [U,M1,M2] rfl rfl rfl ?_
   unfold di56_4
   repeat(rw[ah];simp (maxSteps:=2000000) only[go_sem,seval,hlU0,hXLl,e0,e2,eL,t1])
   try rw[aj]
   try simp only[go_sem,seval,hlU0,k1,k2,hXLl,e0,e2,eL,t1]
   refine aI.effx hP (hold) rfl rfl rfl rfl ?_;simp (maxSteps:=2000000) only[go_sem,seval,ah,hlU0,k1,hXLl,e0,e2,eL,t1]
   repeat(rw[ah];simp (maxSteps:=2000000) only[go_sem,seval,hlU0,k1,k2,hXLl,e0,e2,eL,t1])
   try rw[aj]
   try simp only[go_sem,seval,hlU0,k1,k2,hXLl,e0,e2,eL,t1]
   refine aI.effx hP (hpar) rfl rfl rfl rfl ?_;simp (maxSteps:=2000000) only[go_sem,seval,aj,ah]
   repeat(rw[ah];simp (maxSteps:=2000000) only[go_sem,seval,hlU0,k1,k2,hXLl,e0,e2,eL,t1])
   try rw[aj]
   try simp only[go_sem,seval,hlU0,k1,k2,hXLl,e0,e2,eL,t1]
   refine SW.keep [(0,.ptr a 1 0 0),(1,.sl idl n 0 n),(3,.sl idb (1+r) 0 1),(10,.sl (m+1) q 0 q)] (by exact⟨rfl,rfl,rfl,rfl,trivial⟩) ?_
   repeat refine SW.seq ?_
   try refine SW.region ?_
   repeat(refine aa.one hL (by rw[hn];rfl) ?_;simp only[go_sem,seval];refine(?_:aa C _ _ _ _))
   refine aa.op (d:=.sl idb (q+1) 0 (q+1)) (ob':=V) ?_ (fun t ht=>?_) ?_ ?_
   ·rfl
   ·cases ht;rw[hn];decide
   ·exact happ C hL _ _ _ _ _ _ rfl rfl rfl rfl rfl
   refine aa.weak' (l:=[(0,.ptr a 1 0 0),(50,.sl idl n 0 n),(51,.ptr a 1 0 0),(54,.sl idb (q+1) 0 (q+1))]) (by exact⟨rfl,rfl,rfl,rfl,trivial⟩) ?_
   refine aa.callp hP (by rw[hn];rfl) (hcall) rfl rfl rfl rfl ?_;simp (maxSteps:=2000000) only[go_sem,seval]
   exact⟨_,ag.refl _ _ _,rfl⟩
  rw[hU] at hfull
  have ht1:er (wS2 σ a p w) (wS2 τ a p w'):=by
   rw[hτ];exact nL h2 ba bp w w' lst 0
  rw[←hτ]
  exact(OkE.tidy (c:=0) (R:=fun o O=>o=.pan (be 51)∧O=wS2 τ a p w') (hfull.toE (Tid.pan ht1 (.low (by simp[be,dz,ax])) ⟨rfl,rfl⟩))).ok fun o O h=>h
end
end
end Go.VL
