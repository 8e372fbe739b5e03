/- Proved: TreeOwn: whatever tree, root and item come in (together of bulk at most 1048576), the call returns true and they read as they did; no other condition. This text is part 12 of 18. -/
import Derived.Test.YtghomgiklhbjiaaW11
set_option linter.unusedSimpArgs false
set_option linter.unusedVariables false
set_option maxRecDepth 10000
set_option maxHeartbeats 2000000
open List renaming all_eq_true → AS,append_assoc → AR,append_nil → AK,drop_append → Cm,drop_append_of_le_length → CP,drop_drop → Dp,drop_eq_nil_of_le → A9,drop_zero → Ch,getElem?_append_left → AJ,getElem?_eq_getElem → AI,getElem?_eq_none → BA,getElem?_eq_some_iff → AH,getElem?_set_ne → A6,length_append → AP,length_cons → A5,length_drop → BP,length_nil → Bj,length_replicate → Br,length_take → Bi,mem_append_right → CG,mem_cons → Bh,mem_of_mem_drop → By,mem_replicate → BK,nil_append → Be,not_mem_nil → Bw,replicate → AO,replicate_zero → BU,take_append → CN,take_append_of_le_length → BL,take_left → Dn,take_of_length_le → AV,take_take → CL,take_zero → CF
open Nat renaming le_refl → AU,lt_or_ge → Bp,min_eq_left → BE,reduceBEq → CH,reduceLT → Bv,sub_self → B7,sub_zero → B6,zero_add → Bc
open Int renaming reduceLE → CZ,reduceLT → Cq,toNat_natCast → Bg
open Bool renaming false_eq_true → Bb
namespace Go.VL
open Go Go.Proofs
open Nat (reduceAdd reduceEqDiff reduceSub reduceMul reduceLeDiff)
def di26_9:List DI:=[⟨[0],[],false,[0],some 45,[]⟩,⟨[1],[],false,[0],some 46,[]⟩,⟨[45,46],[0,1],false,[0],some 47,[0,1]⟩,⟨[47],[0,1,2],false,[0],some 48,[2]⟩,⟨[3],[],false,[0],some 49,[]⟩,⟨[49],[4],false,[0],some 50,[4]⟩,⟨[48,50],rg 0 6,false,[0],some 51,[3,5]⟩,⟨[0],[],false,[0],some 52,[]⟩,⟨[2],[],false,[0],some 53,[]⟩,⟨[52,53],[7,8],false,[0],some 54,[7,8]⟩,⟨[54],[7,8,9],false,[0],some 55,[9]⟩,⟨[51,55],rg 0 11,false,[0],some 56,[6,10]⟩,⟨[56],rg 0 12,false,[0],some 10,([11]++rg 0 12)⟩]
def di26_18:List DI:=[⟨[12],[],false,[0],some 98,[]⟩,⟨[1],[],false,[0],some 99,[]⟩,⟨[3],[],false,[0],some 100,[]⟩,⟨[100],[2],false,[0],some 101,[2]⟩,⟨[99,101],[1,2,3],false,[0],some 102,[1,3]⟩,⟨[98,102],rg 0 5,false,[0],some 103,[0,4]⟩,⟨[0],[],false,[0],some 104,[]⟩,⟨[2],[],false,[0],some 105,[]⟩,⟨[104,105],[6,7],false,[0],some 106,[6,7]⟩,⟨[103,106],rg 0 9,true,[],some 107,[5,8]⟩]
def di27_11:List DI:=[⟨[9],[],false,[0],some 46,[]⟩,⟨[1],[],false,[0],some 47,[]⟩,⟨[7],[],false,[0],some 48,[]⟩,⟨[47,48],[1,2],false,[0],some 49,[1,2]⟩,⟨[46,49],rg 0 4,false,[0],some 50,[0,3]⟩,⟨[0],[],false,[0],some 51,[]⟩,⟨[1],[],false,[0],some 52,[]⟩,⟨[51,52],[5,6],false,[0],some 53,[5,6]⟩,⟨[50,53],rg 0 8,true,[],some 54,[4,7]⟩]
def di27_15:List DI:=[⟨[0],[],false,[0],some 69,[]⟩,⟨[1],[],false,[0],some 70,[]⟩,⟨[7],[],false,[0],some 71,[]⟩,⟨[70,71],[1,2],false,[0],some 72,[1,2]⟩,⟨[69,72],rg 0 4,false,[0],some 73,[0,3]⟩,⟨[0],[],false,[0],some 74,[]⟩,⟨[1],[],false,[0],some 75,[]⟩,⟨[74,75],[5,6],false,[0],some 76,[5,6]⟩,⟨[73,76],rg 0 8,true,[],some 77,[4,7]⟩]
theorem x6{σ:List Ob}{id J n g i j k tot:Nat}{X V VV:List DV} (hid:id<σ.length) (hne:J≠id) (hV:σ[J]?=some (.arr 27 2 VV)) (hg:VV.length=g) (hVk:V=VV.take k) (hk:V.length=k) (hX:X.length=n) (h0:0<k) (hij:i+k≤j) (hjn:j<n) (hn9:n≤1048576)
  (oX:(X.all fun y=>y.cells.all DV.one)=true) (oV:(V.all fun y=>y.cells.all DV.one)=true) (htot:tot=i+k+(n-j)):
  Ok Try.prog 26 [.sl id n 0 n,.int .i64 (i:Int),.int .i64 (j:Int),.sl J g 0 k] (s1 σ id (.arr 27 2 X)) (.ret (.sl id n 0 tot)) (s1 σ id (.arr 27 2 (X.take i++V++X.drop j++AO (n-tot) (.agg [.int .u64 0,.int .u64 0]:DV)))):=by
 have a1:=fun O l=>du (σ:=σ) hid O l
 have a2:=fun O=>(by have:=du (σ:=σ) hid O [];rwa [AK] at this:(s1 σ id O)[id]?=some O)
 have a3:=fun O=>(by have:=eO (σ:=σ) hV hne O [];rwa [AK] at this:(s1 σ id O)[J]?=some (.arr 27 2 VV))
 have a4:=fun O O'=>(by have:=gQ (σ:=σ) hid O O' [];rwa [AK,AK] at this:(s1 σ id O).set id O'=s1 σ id O')
 have b1:au (some (.int .i64 (j:Int))) n n=some j:=az (by omega)
 have b2:au (some (.int .i64 (i:Int))) 0 j=some i:=az (by omega)
 have b3:au (some (.int .i64 (i:Int))) n n=some i:=az (by omega)
 have b4:au none 0 i=some 0:=rfl
 have b5:au none n n=some n:=rfl
 have b6:au (some (.int .i64 (j:Int))) 0 n=some j:=az (by omega)
 have b7:au (some (.int .i64 (tot:Int))) n n=some tot:=az (by omega)
 have b8:au none 0 tot=some 0:=rfl
 have b9:au none tot tot=some tot:=rfl
 have b10:au (some (.int .i64 (i:Int))) 0 tot=some i:=az (by omega)
 have b11:au (some (.int .i64 ((i+k:Nat):Int))) 0 tot=some (i+k):=az (by omega)
 have b12:au (some (.int .i64 (tot:Int))) 0 n=some tot:=az (by omega)
 have d1:((i:Int)==(j:Int))=false:=beq_eq_false_iff_ne.2 (by omega)
 have d2:((j:Int)==(n:Int))=false:=beq_eq_false_iff_ne.2 (by omega)
 have d3:decide (((i+k:Nat):Int)≤(j:Int))=true:=decide_eq_true (by omega)
 have w1:IntKind.i64.wrap ((i:Int)+(k:Int))=((i+k:Nat):Int):=wi (by omega) (by omega)
 have w2:IntKind.i64.wrap (((i+k:Nat):Int)+((n-j:Nat):Int))=(tot:Int):=wi (by omega) (by omega)
 have z1:∀x,0+x=x:=Bc
 have z2:∀x,x-0=x:=B6
 have z3:∀x:Nat,x≤x:=AU
 obtain⟨X1,hX1⟩:∃X1,X1=X.take i++V++X.drop (i+k):=⟨_,rfl⟩
 have l1:X1.length=n:=by rw[hX1];simp;omega
 obtain⟨X2,hX2⟩:∃X2,X2=X.take i++V++X.drop j++X.drop tot:=⟨_,rfl⟩
 have l2:X2.length=n:=by rw[hX2];simp;omega
 have ld:(X.drop j).length=n-j:=by rw[BP];omega
 have oXd:((X.drop j).all fun y=>y.cells.all DV.one)=true:=by
  rw[AS] at oX⊢
  exact fun x hx=>oX x (By hx)
 have oV':=oV
 have oXd':=oXd
 simp only[DV.cells] at oV' oXd'
 have g1:(g=VV.length)=True:=eq_true hg.symm
 have v1:VV.take k=V:=hVk.symm
 have v2:min V.length (tot-i)=k:=by rw[hk];omega
 have v3:V.take k=V:=AV (by omega)
 have e1:(X1.drop j).take (n-j)=X.drop j:=by
  rw[hX1,AR,Cm,Cm,A9 (by simp;omega),A9 (by simp;omega),Dp,Be,Be,AV (by simp;omega)]
  simp only[Bi,hX,hk]
  congr 1
  omega
 have v4:min (X.drop j).length (tot-(i+k))=n-j:=by rw[ld];omega
 have v5:(X.drop j).take (n-j)=X.drop j:=AV (by omega)
 have c1:bW (s1 σ id (.arr 27 2 X)) 2 (.sl id n i (tot-i)) V=some (s1 σ id (.arr 27 2 X1)):=
  bB (a2 _) hX.symm (by rw[hX1,hk]) (a4 _ _) (fun h=>by omega)
 have c2:bW (s1 σ id (.arr 27 2 X1)) 2 (.sl id n (i+k) (tot-(i+k))) (X.drop j)=some (s1 σ id (.arr 27 2 X2)):=by
  refine bB (a2 _) l1.symm ?_ (a4 _ _) (fun h=>by omega)
  rw[hX2,hX1,ld]
  have e2:(X.take i++V).length=i+k:=by simp;omega
  rw[CN,e2,B7,CF,AK,AV (by omega:(X.take i++V).length≤i+k),Cm,A9 (by omega:(X.take i++V).length≤i+k+(n-j)),Be,e2,Dp]
  congr 2
  omega
 have hz:X2.take tot=X.take i++V++X.drop j:=by
  have e2:(X.take i++V++X.drop j).length=tot:=by simp;omega
  rw[hX2,←e2,Dn]
 have c3:bW (s1 σ id (.arr 27 2 X2)) 2 (.sl id n tot (n-tot)) (AO (n-tot) (.agg [.int .u64 0,.int .u64 0]:DV))=some (s1 σ id (.arr 27 2 (X.take i++V++X.drop j++AO (n-tot) (.agg [.int .u64 0,.int .u64 0]:DV)))):=by
  refine bB (a2 _) l2.symm ?_ (a4 _ _) (fun h=>?_)
  ·rw[hz,Br,A9 (by omega:X2.length≤tot+(n-tot)),AK]
  ·rw[Br] at h
   have:X2=X.take i++V++X.drop j:=by rw[←hz,AV (by omega)]
   rw[h,BU,AK,←this]
 refine Ok.of_body ae Try.func26 rfl (by decide) (by simp[Try.ntmps26]) fun C hP hn hσ hfix hdd=>?_
 rw[show Try.f26.ntmps=224 from rfl] at hn
 have hL:af C.P L:=hP▸ae
 have hm:C.P.follows .mixedOrders=true:=hP▸ao
 repeat(first|((first|refine sA hL hn rfl ?_|refine sB hL hn rfl ?_);simp only[go_sem,reduceAdd,reduceEqDiff,reduceCtorEq,aw,a2,hX,b1,b2,d1,d2,z1])|((first|refine sC ?_|refine sH ?_|refine sI ?_|refine sJ ?_);try simp only[ap])|refine sD ?_|refine sE ?_|refine sF rfl ?_|refine sG rfl ?_)
 obtain⟨M,hM⟩:∃M,M=s1 σ id (.arr 27 2 X):=⟨_,rfl⟩
 have m1:M[id]?=some (.arr 27 2 X):=by rw[hM];exact a2 _
 have m2:M[J]?=some (.arr 27 2 VV):=by rw[hM];exact a3 _
 rw[←hM]
 first|refine sL hL hm hn di26_9 [M] rfl rfl rfl ?_|refine sM hL hm hn di26_9 [M] rfl rfl rfl ?_
 unfold di26_9
 repeat(rw[ah];simp (maxSteps:=2000000) only[go_sem,reduceEqDiff,reduceCtorEq,aw,m1,hX,b3,b4,b5,b6,w1,w2,z1,z2])
 try rw[aj]
 try simp only[go_sem]
 refine SW.keep [(0,.sl id n 0 n),(1,.int .i64 (i:Int)),(2,.int .i64 (j:Int)),(3,.sl J g 0 k),(10,.int .i64 (tot:Int))] (by exact⟨rfl,rfl,rfl,rfl,rfl,trivial⟩) ?_
 refine SW.expose 0 rfl fun cap hc1 hc2=>?_
 refine SW.keep [(0,.slx id n 0 n cap),(1,.int .i64 (i:Int)),(2,.int .i64 (j:Int)),(3,.sl J g 0 k),(10,.int .i64 (tot:Int))] (by exact⟨rfl,rfl,rfl,rfl,rfl,trivial⟩) ?_
 have d4:decide ((tot:Int)>(cap:Int))=false:=decide_eq_false (by omega)
 repeat refine SW.seq ?_
 try refine SW.region ?_
 repeat(refine aa.one hL (by rw[hn];rfl) ?_;simp only[go_sem,reduceEqDiff,reduceCtorEq];refine(?_:aa C _ _ _ _))
 refine aa.xone hL (by rw[hn];rfl) ?_;simp only[fY,go_sem,reduceEqDiff,reduceCtorEq];refine(?_:aa C _ _ _ _)
 repeat refine SW.seq ?_
 try refine SW.region ?_
 repeat(refine aa.one hL (by rw[hn];rfl) ?_;simp only[go_sem,reduceEqDiff,reduceCtorEq,d4];refine(?_:aa C _ _ _ _))
 refine aa.ghost (ai.unx 0 rfl) ?_
 refine aa.weak' (l:=[(0,.sl id n 0 n),(1,.int .i64 (i:Int)),(2,.int .i64 (j:Int)),(3,.sl J g 0 k),(10,.int .i64 (tot:Int)),(60,.bool false)]) (by exact⟨rfl,rfl,rfl,rfl,rfl,rfl,trivial⟩) ?_
 subst hM
 repeat(first|((first|refine sA hL hn rfl ?_|refine sB hL hn rfl ?_);simp only[go_sem,reduceEqDiff,reduceCtorEq,aw,a2,a3,hX,b7,b8,b9,b10,w1,d3,z1,z2,c1,g1,v1,v2,v3,oV'])|((first|refine sC ?_|refine sH ?_|refine sI ?_|refine sJ ?_);try simp only[ap])|refine sD ?_|refine sE ?_|refine sF rfl ?_|refine sG rfl ?_)
 refine SW.keep [(0,.sl id n 0 n),(1,.int .i64 (i:Int)),(2,.int .i64 (j:Int)),(3,.sl J g 0 k),(10,.int .i64 (tot:Int)),(12,.sl id n 0 tot)] (by exact⟨rfl,rfl,rfl,rfl,rfl,rfl,trivial⟩) ?_
 obtain⟨M1,hM1⟩:∃M1,M1=s1 σ id (.arr 27 2 X1):=⟨_,rfl⟩
 obtain⟨M2,hM2⟩:∃M2,M2=s1 σ id (.arr 27 2 X2):=⟨_,rfl⟩
 have m1:M1[id]?=some (.arr 27 2 X1):=by rw[hM1];exact a2 _
 have m2:M1[J]?=some (.arr 27 2 VV):=by rw[hM1];exact a3 _
 rw[←hM1,←hM2] at c2
 rw[←hM1]
 first|refine sL hL hm hn di26_18 [M1,M2] rfl rfl rfl ?_|refine sM hL hm hn di26_18 [M1,M2] rfl rfl rfl ?_
 unfold di26_18
 repeat(rw[ah];simp (maxSteps:=2000000) only[go_sem,reduceEqDiff,reduceCtorEq,aw,m1,l1,b5,b6,b9,b11,w1,z1,c2,e1,v4,v5,oXd'])
 try rw[aj]
 try simp only[go_sem]
 subst hM2
 refine SW.keep [(0,.sl id n 0 n),(10,.int .i64 (tot:Int)),(12,.sl id n 0 tot)] (by exact⟨rfl,rfl,rfl,trivial⟩) ?_
 repeat(first|((first|refine sA hL hn rfl ?_|refine sB hL hn rfl ?_);simp only[go_sem,reduceAdd,reduceEqDiff,reduceCtorEq,aw,a2,l2,b5,b12,z1,c3])|((first|refine sC ?_|refine sH ?_|refine sI ?_|refine sJ ?_);try simp only[ap])|refine sD ?_|refine sE ?_|refine sF rfl ?_|refine sG rfl ?_)
 exact⟨_,_,_,ai.refl _ _,rfl,ag.refl _ _ _,rfl⟩
theorem x7{σ:List Ob}{id J n g i k:Nat}{X V VV:List DV} (hid:id<σ.length) (hne:J≠id) (hV:σ[J]?=some (.arr 27 2 VV)) (hg:VV.length=g) (hVk:V=VV.take k) (hk:V.length=k) (hX:X.length=n) (h0:0<k) (hin:i+k≤n) (hn9:n≤1048576)
  (oX:(X.all fun y=>y.cells.all DV.one)=true) (oV:(V.all fun y=>y.cells.all DV.one)=true):
  Ok Try.prog 26 [.sl id n 0 n,.int .i64 (i:Int),.int .i64 (n:Int),.sl J g 0 k] (s1 σ id (.arr 27 2 X)) (.ret (.sl id n 0 (i+k))) (s1 σ id (.arr 27 2 (X.take i++V++AO (n-(i+k)) (.agg [.int .u64 0,.int .u64 0]:DV)))):=by
 have a2:=fun O=>(by have:=du (σ:=σ) hid O [];rwa [AK] at this:(s1 σ id O)[id]?=some O)
 have a3:=fun O=>(by have:=eO (σ:=σ) hV hne O [];rwa [AK] at this:(s1 σ id O)[J]?=some (.arr 27 2 VV))
 have a4:=fun O O'=>(by have:=gQ (σ:=σ) hid O O' [];rwa [AK,AK] at this:(s1 σ id O).set id O'=s1 σ id O')
 have b1:au (some (.int .i64 (n:Int))) n n=some n:=az (AU _)
 have b2:au (some (.int .i64 (i:Int))) 0 n=some i:=az (by omega)
 have b3:au (some (.int .i64 (i:Int))) n n=some i:=az (by omega)
 have b4:au none 0 i=some 0:=rfl
 have b5:au none n n=some n:=rfl
 have b6:au (some (.int .i64 ((i+k:Nat):Int))) 0 n=some (i+k):=az (by omega)
 have d1:((i:Int)==(n:Int))=false:=beq_eq_false_iff_ne.2 (by omega)
 have d2:((n:Int)==(n:Int))=true:=by simp
 have z1:∀x,0+x=x:=Bc
 have z2:∀x,x-0=x:=B6
 have z3:(0<n∨True)=True:=by simp
 obtain⟨X1,hX1⟩:∃X1,X1=X.take i++V++X.drop (i+k):=⟨_,rfl⟩
 have l1:X1.length=n:=by rw[hX1];simp;omega
 have hz:X1.take (i+k)=X.take i++V:=by
  have e2:(X.take i++V).length=i+k:=by simp;omega
  rw[hX1,←e2,Dn]
 have c3:bW (s1 σ id (.arr 27 2 X1)) 2 (.sl id n (i+k) (n-(i+k))) (AO (n-(i+k)) (.agg [.int .u64 0,.int .u64 0]:DV))=some (s1 σ id (.arr 27 2 (X.take i++V++AO (n-(i+k)) (.agg [.int .u64 0,.int .u64 0]:DV)))):=by
  refine bB (a2 _) l1.symm ?_ (a4 _ _) (fun h=>?_)
  ·rw[hz,Br,A9 (by omega:X1.length≤i+k+(n-(i+k))),AK]
  ·rw[Br] at h
   have:X1=X.take i++V:=by rw[←hz,AV (by omega)]
   rw[h,BU,AK,←this]
 refine Ok.of_body ae Try.func26 rfl (by decide) (by simp[Try.ntmps26]) fun C hP hn hσ hfix hdd=>?_
 rw[show Try.f26.ntmps=224 from rfl] at hn
 have hL:af C.P L:=hP▸ae
 have hm:C.P.follows .mixedOrders=true:=hP▸ao
 refine SW.expose 0 rfl fun cap hc1 hc2=>?_
 refine SW.keep [(0,.slx id n 0 n cap),(1,.int .i64 (i:Int)),(2,.int .i64 (n:Int)),(3,.sl J g 0 k)] (by exact⟨rfl,rfl,rfl,rfl,trivial⟩) ?_
 have hcap:n≤0+cap:=by omega
 have hcap':(n≤cap)=True:=eq_true hc1
 repeat(first|((first|refine sA hL hn rfl ?_|refine sB hL hn rfl ?_);simp only[go_sem,reduceEqDiff,reduceCtorEq])|((first|refine sC ?_|refine sH ?_|refine sI ?_|refine sJ ?_);try simp only[ap,aY,cx,bP,if_true,if_false,reduceEqDiff])|refine sD ?_|refine sE ?_|refine sF rfl ?_|refine sG rfl ?_)
 refine aa.xone hL (by rw[hn];rfl) ?_;simp only[fY,fH,go_sem,reduceEqDiff,reduceCtorEq,a2,hX,b1,b2,z1,z2,hcap',or_true];refine(?_:aa C _ _ _ _)
 repeat(first|((first|refine sA hL hn rfl ?_|refine sB hL hn rfl ?_);simp only[go_sem,reduceEqDiff,reduceCtorEq,d1])|((first|refine sC ?_|refine sH ?_|refine sI ?_|refine sJ ?_);try simp only[ap])|refine sD ?_|refine sE ?_|refine sF rfl ?_|refine sG rfl ?_)
 refine aa.xone hL (by rw[hn];rfl) ?_;simp only[fY,go_sem,reduceEqDiff,reduceCtorEq];refine(?_:aa C _ _ _ _)
 repeat refine SW.seq ?_
 try refine SW.region ?_
 repeat(refine aa.one hL (by rw[hn];rfl) ?_;simp only[go_sem,reduceEqDiff,reduceCtorEq,d2];refine(?_:aa C _ _ _ _))
 refine aa.nil ?_
 simp only[ap]
 repeat(first|((first|refine sA hL hn rfl ?_|refine sB hL hn rfl ?_);simp only[go_sem,reduceEqDiff,Bv,reduceCtorEq])|((first|refine sC ?_|refine sH ?_|refine sI ?_|refine sJ ?_);try simp only[ap,aY,cx,bP,if_true,if_false,reduceEqDiff])|refine sD ?_|refine sE ?_|refine sF rfl ?_|refine sG rfl ?_)
 refine aa.xone hL (by rw[hn];rfl) ?_;simp only[fY,fH,go_sem,reduceEqDiff,reduceCtorEq,a2,hX,b3,b4,z1,z2,hcap',or_true];refine(?_:aa C _ _ _ _)
 repeat refine SW.seq ?_
 try refine SW.region ?_
 repeat(refine aa.one hL (by rw[hn];rfl) ?_;simp only[go_sem,reduceEqDiff,Bv,reduceCtorEq];refine(?_:aa C _ _ _ _))
 have oneX:∀y∈X,∀c∈y.cells,c.one=true:=fun y hy c hc=>AS.1 (AS.1 oX y hy) c hc
 have oneV:∀y∈V,∀c∈y.cells,c.one=true:=fun y hy c hc=>AS.1 (AS.1 oV y hy) c hc
 refine aa.op (d:=.slx id n 0 (i+k) cap) (ob':=s1 σ id (.arr 27 2 X1)) ?_ (fun t ht=>?_) ?_ ?_
 ·rfl
 ·cases ht;rw[hn];decide
 ·rw[show DV.slx id n 0 (i+k) cap=.slx id X.length 0 (i+V.length) cap by rw[hX,hk],show s1 σ id (.arr 27 2 X1)=(s1 σ id (.arr 27 2 X)).set id (.arr 27 2 (X.take i++V++X.drop (i+V.length))) by rw[a4,hX1,hk]]
  refine ar.appIn hL rfl rfl rfl L41 L27 (by decide) rfl ?_ oneV oneX (a2 _) (by omega) (by show(i+V.length)*16≤_;omega) ?_ (by omega) (by omega)
  ·simp only[jf,L41,bV,ev,lk,a3,hg,if_true,if_false,Ch,←hVk,reduceEqDiff]
  ·rw[hX];rfl
 refine aa.ghost (ai.unx 34 rfl) ?_
 refine aa.ghost (ai.unx 0 rfl) ?_
 refine aa.weak' (l:=[(0,.sl id n 0 n),(34,.sl id n 0 (i+k))]) (by exact⟨rfl,rfl,trivial⟩) ?_
 repeat refine SW.seq ?_
 try refine SW.region ?_
 repeat(refine aa.one hL (by rw[hn];rfl) ?_;simp only[go_sem,reduceEqDiff,reduceCtorEq];refine(?_:aa C _ _ _ _))
 refine aa.nil ?_
 simp only[ap]
 by_cases hlt:i+k<n
 ·have d5:decide (((i+k:Nat):Int)<(n:Int))=true:=decide_eq_true (by omega)
  repeat(first|((first|refine sA hL hn rfl ?_|refine sB hL hn rfl ?_);simp only[go_sem,reduceAdd,reduceEqDiff,reduceCtorEq,aw,a2,l1,b5,b6,z1,d5,c3])|((first|refine sC ?_|refine sH ?_|refine sI ?_|refine sJ ?_);try simp only[ap])|refine sD ?_|refine sE ?_|refine sF rfl ?_|refine sG rfl ?_)
  exact⟨_,_,_,ai.refl _ _,rfl,ag.refl _ _ _,rfl⟩
 ·have d5:decide (((i+k:Nat):Int)<(n:Int))=false:=decide_eq_false (by omega)
  have hE:X.take i++(V++AO (n-(i+k)) (.agg [.int .u64 0,.int .u64 0]:DV))=X1:=by
   rw[show n-(i+k)=0 by omega,BU,AK,←hz,AV (by omega)]
  rw[hE]
  repeat(first|((first|refine sA hL hn rfl ?_|refine sB hL hn rfl ?_);simp only[go_sem,reduceEqDiff,reduceCtorEq,d5])|((first|refine sC ?_|refine sH ?_|refine sI ?_|refine sJ ?_);try simp only[ap])|refine sD ?_|refine sE ?_|refine sF rfl ?_|refine sG rfl ?_)
  exact⟨_,_,_,ai.refl _ _,rfl,ag.refl _ _ _,rfl⟩
theorem zE (v1 v2:Value) (w:World):(callFunc 42 #[v1,v2]).run Try.prog w=((Extern.SlicesOverlaps.overlaps #[41,41] #[4] #[v1,v2]).run Try.prog w).andThen fun v w=>.ok (.value v) w:=
 run_callFunc_extern Try.func42 (by kernel_rfl) (by kernel_rfl) (by kernel_rfl) (e:=Extern.SlicesOverlaps.overlaps #[41,41] #[4]) (by kernel_rfl) #[v1,v2] w
theorem yq{σ:List Ob}{id J n:Nat}{X:List DV}{v:DV} (hid:id<σ.length) (hne:J≠id) (hV:σ[J]?=some (.arr 27 2 [v])) (hX:X.length=n) (h0:0<n) (hn9:n≤1048576)
  (oX:(X.all fun y=>y.cells.all DV.one)=true) (oV:([v].all fun y=>y.cells.all DV.one)=true):
  Ok Try.prog 27 [.sl id n 0 n,.int .i64 (n:Int),.sl J 1 0 1] (s1 σ id (.arr 27 2 X)) (.ret (.sl id (n+1) 0 (n+1))) (s1 σ id (.arr 27 2 (X++[v]))):=by
 have a2:=fun O=>(by have:=du (σ:=σ) hid O [];rwa [AK] at this:(s1 σ id O)[id]?=some O)
 have a3:=fun O=>(by have:=eO (σ:=σ) hV hne O [];rwa [AK] at this:(s1 σ id O)[J]?=some (.arr 27 2 [v]))
 have a4:=fun O O'=>(by have:=gQ (σ:=σ) hid O O' [];rwa [AK,AK] at this:(s1 σ id O).set id O'=s1 σ id O')
 have b1:au none n n=some n:=rfl
 have b2:au (some (.int .i64 (n:Int))) 0 n=some n:=az (AU _)
 have d2:((n:Int)==(n:Int))=true:=by simp
 have z1:∀x,0+x=x:=Bc
 have oV':=oV
 simp only[DV.cells] at oV'
 have hcap:((n+1)*16≤140737488355328)=True:=eq_true (by omega)
 refine Ok.of_body ae Try.func27 rfl (by decide) (by simp[Try.ntmps27]) fun C hP hn hσ hfix hdd=>?_
 rw[show Try.f27.ntmps=95 from rfl] at hn
 have hL:af C.P L:=hP▸ae
 have hm:C.P.follows .mixedOrders=true:=hP▸ao
 repeat(first|((first|refine sA hL hn rfl ?_|refine sB hL hn rfl ?_);simp only[go_sem,reduceAdd,reduceEqDiff,Bv,reduceCtorEq,aw,a2,a3,a4,hX,b1,b2,d2,z1,aG,oV',hcap])|((first|refine sC ?_|refine sH ?_|refine sI ?_|refine sJ ?_);try simp only[ap])|refine sD ?_|refine sE ?_|refine sF rfl ?_|refine sG rfl ?_)
 exact⟨_,_,_,ai.refl _ _,rfl,ag.refl _ _ _,rfl⟩
theorem wQ{σ:List Ob}{J:Nat}{v:DV} (hV:σ[J]?=some (.arr 27 2 [v])) (oV:([v].all fun y=>y.cells.all DV.one)=true):
  Ok Try.prog 27 [.nils,.int .i64 0,.sl J 1 0 1] σ (.ret (.sl σ.length 1 0 1)) (σ++[.arr 27 2 [v]]):=by
 have oV':=oV
 simp only[DV.cells] at oV'
 refine Ok.of_body ae Try.func27 rfl (by decide) (by simp[Try.ntmps27]) fun C hP hn hσ hfix hdd=>?_
 rw[show Try.f27.ntmps=95 from rfl] at hn
 have hL:af C.P L:=hP▸ae
 have hm:C.P.follows .mixedOrders=true:=hP▸ao
 repeat(first|((first|refine sA hL hn rfl ?_|refine sB hL hn rfl ?_);simp only[go_sem,reduceAdd,reduceEqDiff,Bv,reduceMul,reduceLeDiff,reduceCtorEq,aw,hV,aG,oV'])|((first|refine sC ?_|refine sH ?_|refine sI ?_|refine sJ ?_);try simp only[ap])|refine sD ?_|refine sE ?_|refine sF rfl ?_|refine sG rfl ?_)
 exact⟨_,_,_,ai.refl _ _,rfl,ag.refl _ _ _,rfl⟩
theorem wR{σ:List Ob}{id J n i:Nat}{X:List DV}{v:DV} (hid:id<σ.length) (hne:J≠id) (hV:σ[J]?=some (.arr 27 2 [v])) (hX:X.length=n) (hin:i<n) (hn9:n≤1048576)
  (oX:(X.all fun y=>y.cells.all DV.one)=true) (oV:([v].all fun y=>y.cells.all DV.one)=true) (lX:∀y∈X.take i++[v]++X.drop i,∀m,Low m y):
  Ok Try.prog 27 [.sl id n 0 n,.int .i64 (i:Int),.sl J 1 0 1] (s1 σ id (.arr 27 2 X)) (.ret (.sl id (n+1) 0 (n+1))) (s1 σ id (.arr 27 2 (X.take i++[v]++X.drop i))):=by
 have a1:=fun O l=>du (σ:=σ) hid O l
 have a2:=fun O=>(by have:=du (σ:=σ) hid O [];rwa [AK] at this:(s1 σ id O)[id]?=some O)
 have a3:=fun O=>(by have:=eO (σ:=σ) hV hne O [];rwa [AK] at this:(s1 σ id O)[J]?=some (.arr 27 2 [v]))
 have a4:=fun O O'=>(by have:=gQ (σ:=σ) hid O O' [];rwa [AK,AK] at this:(s1 σ id O).set id O'=s1 σ id O')
 have a5:=fun O l=>eO (σ:=σ) hV hne O l
 have sl:=fun O=>ey (σ:=σ) (a:=id) O
 have n1:∀O N,(s1 σ id O++[N])[σ.length]?=some N:=fun O N=>by rw[←sl O];simp
 have n2:∀O N N',(s1 σ id O++[N]).set σ.length N'=s1 σ id O++[N']:=fun O N N'=>by rw[←sl O];simp
 have z1:∀x,0+x=x:=Bc
 have z2:∀x,x-0=x:=B6
 have oneX:∀y∈X,∀c∈y.cells,c.one=true:=fun y hy c hc=>AS.1 (AS.1 oX y hy) c hc
 have oV':=oV
 simp only[DV.cells] at oV'
 have b3:au (some (.int .i64 (i:Int))) n n=some i:=az (by omega)
 have b4:au none 0 i=some 0:=rfl
 have b5:au none n n=some n:=rfl
 have b6:au (some (.int .i64 (i:Int))) 0 n=some i:=az (by omega)
 have b7:au (some (.int .i64 ((n+1:Nat):Int))) n (n+1)=some (n+1):=az (by omega)
 have b8:au none 0 (n+1)=some 0:=rfl
 have b9:au none (n+1) (n+1)=some (n+1):=rfl
 have b10:au (some (.int .i64 (i:Int))) 0 (n+1)=some i:=az (by omega)
 have b11:au (some (.int .i64 ((i+1:Nat):Int))) 0 (n+1)=some (i+1):=az (by omega)
 have d2:((i:Int)==(n:Int))=false:=beq_eq_false_iff_ne.2 (by omega)
 have w1:IntKind.i64.wrap ((i:Int)+1)=((i+1:Nat):Int):=wi (by omega) (by omega)
 have w2:IntKind.i64.wrap ((n:Int)+1)=((n+1:Nat):Int):=wi (by omega) (by omega)
 have w1':IntKind.i64.wrap ((i:Int)+((1:Nat):Int))=((i+1:Nat):Int):=wi (by omega) (by omega)
 have w2':IntKind.i64.wrap ((n:Int)+((1:Nat):Int))=((n+1:Nat):Int):=wi (by omega) (by omega)
 have w3:IntKind.i64.wrap (((n+1:Nat):Int)-(i:Int))=((n+1-i:Nat):Int):=wi (by omega) (by omega)
 have ld:(X.drop i).length=n-i:=by rw[BP];omega
 have oXd:((X.drop i).all fun y=>y.cells.all DV.one)=true:=by
  rw[AS] at oX⊢
  exact fun x hx=>oX x (By hx)
 have oXd':=oXd
 simp only[DV.cells] at oXd'
 have v5:(X.drop i).take (n-i)=X.drop i:=AV (by omega)
 obtain⟨Y,hY⟩:∃Y,Y=X.take i++[v]++X.drop i:=⟨_,rfl⟩
 have hYl:Y.length=n+1:=by rw[hY];simp;omega
 rw[←hY] at lX⊢
 obtain⟨M,hM⟩:∃M,M=s1 σ id (.arr 27 2 X):=⟨_,rfl⟩
 have m1:M[id]?=some (.arr 27 2 X):=by rw[hM];exact a2 _
 have m2:M[J]?=some (.arr 27 2 [v]):=by rw[hM];exact a3 _
 have hM0:s1 σ id (.arr 27 2 X)=M:=hM.symm
 refine Ok.of_body ae Try.func27 rfl (by decide) (by simp[Try.ntmps27]) fun C hP hn hσ hfix hdd=>?_
 rw[show Try.f27.ntmps=95 from rfl] at hn
 have hL:af C.P L:=hP▸ae
 have hm:C.P.follows .mixedOrders=true:=hP▸ao
 refine SW.expose 0 rfl fun cap hc1 hc2=>?_
 refine SW.keep [(0,.slx id n 0 n cap),(1,.int .i64 (i:Int)),(2,.sl J 1 0 1)] (by exact⟨rfl,rfl,rfl,trivial⟩) ?_
 have hcap':(n≤cap)=True:=eq_true hc1
 have hcap1:(0<n∨True)=True:=by simp
 repeat(first|((first|refine sA hL hn rfl ?_|refine sB hL hn rfl ?_);simp only[go_sem,reduceEqDiff,reduceCtorEq])|((first|refine sC ?_|refine sH ?_|refine sI ?_|refine sJ ?_);try simp only[ap,aY,cx,bP,if_true,if_false,reduceEqDiff])|refine sD ?_|refine sE ?_|refine sF rfl ?_|refine sG rfl ?_)
 refine aa.xone hL (by rw[hn];rfl) ?_;simp only[fY,fH,go_sem,reduceEqDiff,reduceCtorEq,a2,hX,b5,b6,z1,z2,hcap',or_true];refine(?_:aa C _ _ _ _)
 repeat refine SW.seq ?_
 try refine SW.region ?_
 repeat(refine aa.one hL (by rw[hn];rfl) ?_;simp only[go_sem,CH,Cq,CZ,reduceAdd,reduceEqDiff,reduceIte,reduceSub,Bv,reduceMul,reduceLeDiff,reduceCtorEq];refine(?_:aa C _ _ _ _))
 refine aa.nil ?_
 simp only[ap]
 repeat(first|((first|refine sA hL hn rfl ?_|refine sB hL hn rfl ?_);simp only[go_sem,reduceEqDiff,reduceCtorEq])|((first|refine sC ?_|refine sH ?_|refine sI ?_|refine sJ ?_);try simp only[ap])|refine sD ?_|refine sE ?_|refine sF rfl ?_|refine sG rfl ?_)
 refine aa.xone hL (by rw[hn];rfl) ?_;simp only[fY,go_sem,reduceEqDiff,reduceCtorEq];refine(?_:aa C _ _ _ _)
 repeat refine SW.seq ?_
 try refine SW.region ?_
 repeat(refine aa.one hL (by rw[hn];rfl) ?_;simp only[go_sem,reduceEqDiff,reduceCtorEq];refine(?_:aa C _ _ _ _))
 refine aa.nil ?_
 simp only[ap]
 repeat(first|((first|refine sA hL hn rfl ?_|refine sB hL hn rfl ?_);simp only[go_sem,reduceEqDiff,reduceCtorEq,d2,w2'])|((first|refine sC ?_|refine sH ?_|refine sI ?_|refine sJ ?_);try simp only[ap])|refine sD ?_|refine sE ?_|refine sF rfl ?_|refine sG rfl ?_)
 refine aa.xone hL (by rw[hn];rfl) ?_;simp only[fY,go_sem,reduceEqDiff,reduceCtorEq];refine(?_:aa C _ _ _ _)
 refine aa.weak' (l:=[(0,.slx id n 0 n cap),(1,.int .i64 (i:Int)),(2,.sl J 1 0 1),(7,.int .i64 1),(8,.int .i64 (n:Int)),(28,.int .i64 ((n+1:Nat):Int)),(30,.int .i64 (cap:Int))]) (by exact⟨rfl,rfl,rfl,rfl,rfl,rfl,rfl,trivial⟩) ?_
 by_cases hcap:cap=n
 ·have d4:decide (((n+1:Nat):Int)>(cap:Int))=true:=decide_eq_true (by omega)
  repeat refine SW.seq ?_
  try refine SW.region ?_
  repeat(refine aa.one hL (by rw[hn];rfl) ?_;simp only[go_sem,reduceEqDiff,reduceCtorEq,d4];refine(?_:aa C _ _ _ _))
  refine aa.nil ?_
  simp only[ap]
  repeat(first|((first|refine sA hL hn rfl ?_|refine sB hL hn rfl ?_);simp only[go_sem,reduceAdd,reduceEqDiff,Bv,reduceCtorEq])|((first|refine sC ?_|refine sH ?_|refine sI ?_|refine sJ ?_);try simp only[ap,aY,cx,bP,if_true,if_false,reduceEqDiff])|refine sD ?_|refine sE ?_|refine sF rfl ?_|refine sG rfl ?_)
  refine aa.xone hL (by rw[hn];rfl) ?_;simp only[fY,fH,go_sem,reduceEqDiff,reduceCtorEq,a2,hX,b3,b4,z1,z2,hcap',or_true];refine(?_:aa C _ _ _ _)
  repeat refine SW.seq ?_
  try refine SW.region ?_
  repeat(refine aa.one hL (by rw[hn];rfl) ?_;simp only[go_sem,reduceAdd,reduceEqDiff,Bv,reduceCtorEq,w2,w3];refine(?_:aa C _ _ _ _))
  obtain⟨Z0,hZ0⟩:∃Z0,Z0=X.take i++AO (n+1-i) (.agg [.int .u64 0,.int .u64 0]:DV):=⟨_,rfl⟩
  have lZ0:Z0.length=n+1:=by rw[hZ0];simp;omega
  have lr:(AO (n+1-i) (.agg [.int .u64 0,.int .u64 0]:DV)).length=n+1-i:=Br
  rw[hM0]
  refine aa.op (d:=.sl M.length (n+1) 0 (n+1)) (ob':=M++[.arr 27 2 Z0]) ?_ (fun t ht=>?_) ?_ ?_
  ·rfl
  ·cases ht;rw[hn];decide
  ·have e1:i+(AO (n+1-i) (.agg [.int .u64 0,.int .u64 0]:DV)).length=n+1:=by rw[lr];omega
   rw[show DV.sl M.length (n+1) 0 (n+1)=.sl M.length (i+(AO (n+1-i) (.agg [.int .u64 0,.int .u64 0]:DV)).length) 0 (i+(AO (n+1-i) (.agg [.int .u64 0,.int .u64 0]:DV)).length) by rw[e1],hZ0]
   refine ar.appNew hL rfl rfl rfl L41 L27 (by decide) rfl ?_ (fun y hy c hc=>?_) oneX m1 (by rw[lr];omega) (by rw[e1];show(n+1)*16≤_;omega) (cap:=cap) ?_ (by rw[e1];omega)
   ·have t1:(0:Int)≤((n+1-i:Nat):Int)∧((n+1-i:Nat):Int)*((16:Nat):Int)≤1073741824:=by omega
    simp only[jf,L3,ev,lk,if_true,if_false,reduceEqDiff,Bg]
    rw[if_pos ⟨t1.1,t1.2,rfl⟩]
   ·rw[(BK.1 hy).2] at hc
    simp only[DV.cells,Bh,Bw,or_false] at hc
    rcases hc with rfl|rfl<;>rfl
   ·rw[hX];rfl
  refine aa.ghost (ai.unx 0 rfl) ?_
  refine aa.weak' (l:=[(0,.sl id n 0 n),(1,.int .i64 (i:Int)),(2,.sl J 1 0 1),(7,.int .i64 1),(40,.sl M.length (n+1) 0 (n+1))]) (by exact⟨rfl,rfl,rfl,rfl,rfl,trivial⟩) ?_
  have hMl:M.length=σ.length:=by rw[hM];exact sl _
  rw[hMl]
  subst hM
  repeat refine SW.seq ?_
  try refine SW.region ?_
  repeat(refine aa.one hL (by rw[hn];rfl) ?_;simp only[go_sem,reduceEqDiff,reduceCtorEq];refine(?_:aa C _ _ _ _))
  refine aa.nil ?_
  simp only[ap]
  obtain⟨Z1,hZ1⟩:∃Z1,Z1=Z0.take i++[v]++Z0.drop (i+1):=⟨_,rfl⟩
  have lZ1:Z1.length=n+1:=by rw[hZ1];simp;omega
  have t0:Z0.take i=X.take i:=by
   rw[hZ0,CN,CL,Nat.min_self,show i-(X.take i).length=0 by rw[Bi];omega,CF,AK]
  have v6:min 1 (n+1-i)=1:=by omega
  have v7:min (X.drop i).length (n+1-(i+1))=n-i:=by omega
  have c1:bW (s1 σ id (.arr 27 2 X)++[.arr 27 2 Z0]) 2 (.sl σ.length (n+1) i (n+1-i)) [v]=some (s1 σ id (.arr 27 2 X)++[.arr 27 2 Z1]):=
   bB (n1 _ _) lZ0.symm (by rw[hZ1];rfl) (n2 _ _ _) (fun h=>by simp at h)
  have c2:bW (s1 σ id (.arr 27 2 X)++[.arr 27 2 Z1]) 2 (.sl σ.length (n+1) (i+1) (n+1-(i+1))) (X.drop i)=some (s1 σ id (.arr 27 2 X)++[.arr 27 2 Y]):=by
   refine bB (n1 _ _) lZ1.symm ?_ (n2 _ _ _) (fun h=>by omega)
   have e2:(X.take i++[v]).length=i+1:=by simp;omega
   rw[A9 (show Z1.length≤i+1+(X.drop i).length by omega),AK,hY,hZ1,t0,CN,e2,B7,CF,AK,AV (by omega:(X.take i++[v]).length≤i+1)]
  repeat(first|((first|refine sA hL hn rfl ?_|refine sB hL hn rfl ?_);simp only[go_sem,reduceEqDiff,reduceCtorEq,aw,n1,lZ0,b9,b10,z1,a5,v6,oV',c1])|((first|refine sC ?_|refine sH ?_|refine sI ?_|refine sJ ?_);try simp only[ap,aY,cx,bP,if_true,if_false,reduceEqDiff])|refine sD ?_|refine sE ?_|refine sF rfl ?_|refine sG rfl ?_)
  refine SW.keep [(0,.sl id n 0 n),(1,.int .i64 (i:Int)),(7,.int .i64 1),(9,.sl σ.length (n+1) 0 (n+1))] (by exact⟨rfl,rfl,rfl,rfl,trivial⟩) ?_
  obtain⟨M1,hM1⟩:∃M1,M1=s1 σ id (.arr 27 2 X)++[.arr 27 2 Z1]:=⟨_,rfl⟩
  obtain⟨M2,hM2⟩:∃M2,M2=s1 σ id (.arr 27 2 X)++[.arr 27 2 Y]:=⟨_,rfl⟩
  have k1:M1[id]?=some (.arr 27 2 X):=by rw[hM1];exact a1 _ _
  have k3:M1[σ.length]?=some (.arr 27 2 Z1):=by rw[hM1];exact n1 _ _
  rw[←hM1,←hM2] at c2
  rw[←hM1]
  first|refine sL hL hm hn di27_11 [M1,M2] rfl rfl rfl ?_|refine sM hL hm hn di27_11 [M1,M2] rfl rfl rfl ?_
  unfold di27_11
  repeat(rw[ah];simp (maxSteps:=2000000) only[go_sem,reduceEqDiff,reduceCtorEq,aw,k1,k3,hX,lZ1,b5,b6,b9,b11,w1,z1,c2,v5,v7,oXd'])
  try rw[aj]
  try simp only[go_sem]
  subst hM2
  repeat(first|((first|refine sA hL hn rfl ?_|refine sB hL hn rfl ?_);simp only[go_sem,reduceEqDiff,reduceCtorEq])|((first|refine sC ?_|refine sH ?_|refine sI ?_|refine sJ ?_);try simp only[ap])|refine sD ?_|refine sE ?_|refine sF rfl ?_|refine sG rfl ?_)
  refine⟨_,.sl σ.length (n+1) 0 (n+1),_,ai.refl _ _,rfl,?_,rfl⟩
  have hmv:=ag.move (C:=C) (t:=27) (k:=2) (off:=0) (len:=n+1) (ys:=Y) hσ hfix (a2 _) (by omega) (fun y hy=>lX y hy _)
  rw[sl,hYl,a4] at hmv
  exact hmv
 ·have d4:decide (((n+1:Nat):Int)>(cap:Int))=false:=decide_eq_false (by omega)
  repeat refine SW.seq ?_
  try refine SW.region ?_
  repeat(refine aa.one hL (by rw[hn];rfl) ?_;simp only[go_sem,reduceEqDiff,reduceCtorEq,d4];refine(?_:aa C _ _ _ _))
  refine aa.nil ?_
  simp only[ap]
  refine SW.keep [(0,.slx id n 0 n cap),(1,.int .i64 (i:Int)),(2,.sl J 1 0 1),(7,.int .i64 1),(8,.int .i64 (n:Int)),(31,.bool false)] (by exact⟨rfl,rfl,rfl,rfl,rfl,rfl,trivial⟩) ?_
  refine SW.ghost (ai.growx 0 (n+1) (xs:=X) (by rw[hX];rfl) (a2 _) (by omega) (by omega) (by omega)) ?_
  have hne':¬(J=id∧1=X.length):=fun h=>hne h.1
  refine SW.keep [(0,.slx id (n+1) 0 n cap),(1,.int .i64 (i:Int)),(2,.sl J 1 0 1),(7,.int .i64 1),(8,.int .i64 (n:Int)),(31,.bool false)] (by
   refine⟨?_,?_,?_,?_,?_,?_,trivial⟩<;>rw[sU]
   ·show re1 id X.length (n+1) (.slx id n 0 n cap)=_
    simp[re1,hX]
   ·rfl
   ·show re1 id X.length (n+1) (.sl J 1 0 1)=_
    simp only[re1]
    rw[if_neg hne']
   ·rfl
   ·rfl
   ·rfl) ?_
  obtain⟨W,hW⟩:∃W,W=X++AO (n+1-X.length) (iO 2):=⟨_,rfl⟩
  have lW:W.length=n+1:=by rw[hW];simp;omega
  rw[←hW,a4]
  have tW:W.take i=X.take i:=by rw[hW,BL (by omega)]
  have tWj:(W.drop i).take (n-i)=X.drop i:=by
   rw[hW,CP (by omega),BL (by omega),AV (by omega)]
  obtain⟨W1,hW1⟩:∃W1,W1=W.take (i+1)++X.drop i++W.drop (i+1+(n-i)):=⟨_,rfl⟩
  have lW1:W1.length=n+1:=by rw[hW1];simp;omega
  have v6:min 1 (n+1-i)=1:=by omega
  have c1:bW (s1 σ id (.arr 27 2 W)) 2 (.sl id (n+1) (i+1) (n+1-(i+1))) (X.drop i)=some (s1 σ id (.arr 27 2 W1)):=
   bB (a2 _) lW.symm (by rw[hW1,ld]) (a4 _ _) (fun h=>by omega)
  have c2:bW (s1 σ id (.arr 27 2 W1)) 2 (.sl id (n+1) i (n+1-i)) [v]=some (s1 σ id (.arr 27 2 Y)):=by
   refine bB (a2 _) lW1.symm ?_ (a4 _ _) (fun h=>by simp at h)
   have e2:(W.take (i+1)).length=i+1:=by rw[Bi];omega
   show Y=W1.take i++[v]++W1.drop (i+1)
   rw[hY,hW1,AR (W.take (i+1)),BL (by omega),CL,BE (by omega),tW,Cm,e2,B7,Ch,A9 (by omega:(W.take (i+1)).length≤i+1),Be,A9 (by omega:W.length≤i+1+(n-i)),AK]
  have hcap2:(n+1≤cap)=True:=eq_true (by omega)
  repeat(first|((first|refine sA hL hn rfl ?_|refine sB hL hn rfl ?_);simp only[go_sem,reduceEqDiff,reduceCtorEq,w2])|((first|refine sC ?_|refine sH ?_|refine sI ?_|refine sJ ?_);try simp only[ap])|refine sD ?_|refine sE ?_|refine sF rfl ?_|refine sG rfl ?_)
  refine aa.xone hL (by rw[hn];rfl) ?_;simp only[fY,fH,go_sem,reduceEqDiff,reduceCtorEq,a2,lW,b7,b8,z1,z2,hcap2,or_true];refine(?_:aa C _ _ _ _)
  refine aa.ghost (ai.unx 60 rfl) ?_
  refine aa.weak' (l:=[(1,.int .i64 (i:Int)),(2,.sl J 1 0 1),(7,.int .i64 1),(60,.sl id (n+1) 0 (n+1))]) (by exact⟨rfl,rfl,rfl,rfl,trivial⟩) ?_
  repeat refine SW.seq ?_
  try refine SW.region ?_
  repeat(refine aa.one hL (by rw[hn];rfl) ?_;simp only[go_sem,reduceEqDiff,reduceCtorEq];refine(?_:aa C _ _ _ _))
  refine aa.nil ?_
  simp only[ap]
  repeat(first|((first|refine sA hL hn rfl ?_|refine sB hL hn rfl ?_);simp only[go_sem,reduceEqDiff,reduceCtorEq,aw,a2,lW,b9,b11,w1,z1])|((first|refine sC ?_|refine sH ?_|refine sI ?_|refine sJ ?_);try simp only[ap,aY,cx,bP,if_true,if_false,reduceEqDiff])|refine sD ?_|refine sE ?_|refine sF rfl ?_|refine sG rfl ?_)
  refine aa.op (d:=.bool false) (ob':=s1 σ id (.arr 27 2 W)) ?_ (fun t ht=>?_) ?_ ?_
  ·rfl
  ·cases ht;rw[hn];decide
  ·exact ar.overlaps hL rfl rfl rfl (by rw[hP];exact zE) L41 L27 rfl rfl hne (a3 _) (a2 _) rfl lW.symm (by decide) (.inl (by decide)) (by simp) (by omega) (by decide) (.inl (by omega))
  refine aa.weak' (l:=[(0,.sl id (n+1) 0 (n+1)),(1,.int .i64 (i:Int)),(2,.sl J 1 0 1),(7,.int .i64 1),(67,.bool false)]) (by exact⟨rfl,rfl,rfl,rfl,rfl,trivial⟩) ?_
  repeat refine SW.seq ?_
  try refine SW.region ?_
  repeat(refine aa.one hL (by rw[hn];rfl) ?_;simp only[go_sem,reduceEqDiff,reduceCtorEq];refine(?_:aa C _ _ _ _))
  refine aa.nil ?_
  simp only[ap]
  repeat(first|((first|refine sA hL hn rfl ?_|refine sB hL hn rfl ?_);simp only[go_sem,CH,Cq,CZ,reduceAdd,reduceEqDiff,reduceIte,reduceSub,Bv,reduceMul,reduceLeDiff,reduceCtorEq])|((first|refine sC ?_|refine sH ?_|refine sI ?_|refine sJ ?_);try simp only[ap,aY,cx,bP,if_true,if_false,reduceEqDiff])|refine sD ?_|refine sE ?_|refine sF rfl ?_|refine sG rfl ?_)
  refine SW.keep [(0,.sl id (n+1) 0 (n+1)),(1,.int .i64 (i:Int)),(2,.sl J 1 0 1),(7,.int .i64 1)] (by exact⟨rfl,rfl,rfl,rfl,trivial⟩) ?_
  obtain⟨M1,hM1⟩:∃M1,M1=s1 σ id (.arr 27 2 W):=⟨_,rfl⟩
  obtain⟨M2,hM2⟩:∃M2,M2=s1 σ id (.arr 27 2 W1):=⟨_,rfl⟩
  have k1:M1[id]?=some (.arr 27 2 W):=by rw[hM1];exact a2 _
  rw[←hM1,←hM2] at c1
  rw[←hM1]
  first|refine sL hL hm hn di27_15 [M1,M2] rfl rfl rfl ?_|refine sM hL hm hn di27_15 [M1,M2] rfl rfl rfl ?_
  unfold di27_15
  have f0:(W.drop i).take (n+1-i)=W.drop i:=AV (by rw[BP];omega)
  have f1:((W.drop i).all fun y=>y.cells.all DV.one)=false:=by
   rw[List.all_eq_false]
   refine⟨iO 2,?_,by simp[iO,DV.cells,DV.one]⟩
   rw[hW,CP (by omega),hX,show n+1-n=1 by omega]
   exact CG _ (by simp)
  have v8:min (W.drop i).length (n+1-(i+1))=n-i:=by rw[BP];omega
  have f2:(W.drop i).take (n-i)=X.drop i:=tWj
  have f3:=f1
  simp only[DV.cells] at f3
  have f4:bV M1 2 (.sl id (n+1) i (n+1-i))=some (W.drop i):=by simp only[bV,k1,lW,if_true,f0]
  repeat(rw[ah];simp (maxSteps:=2000000) only[go_sem,reduceEqDiff,reduceCtorEq,aw,k1,lW,b9,b10,b11,w1,z1,f0,f3,Bb])
  try rw[aj]
  try simp only[go_sem,CH,Cq,CZ,reduceAdd,reduceEqDiff,reduceIte,reduceSub,Bv,reduceMul,reduceLeDiff,reduceCtorEq,aw,k1,lW,b5,b6,b9,b10,b11,w1,w1',z1,z2,f0,f3,Bb]
  refine aI.run (d:=.int .i64 ((n-i:Nat):Int)) rfl ?_ ?_
  ·rw[←v8]
   refine ar.copyT hL rfl rfl rfl L41 L27 rfl rfl rfl f4 (fun y hy c hc=>?_) ?_
   ·rw[v8,f2] at hy
    exact AS.1 (AS.1 oXd y hy) c hc
   ·rw[v8,f2]
    exact c1
  rw[lC,aj]
  simp only[upo,up,ap]
  subst hM2
  repeat(first|((first|refine sA hL hn rfl ?_|refine sB hL hn rfl ?_);simp only[go_sem,reduceEqDiff,reduceCtorEq,aw,a2,a3,lW1,b9,b10,z1,v6,oV',c2])|((first|refine sC ?_|refine sH ?_|refine sI ?_|refine sJ ?_);try simp only[ap])|refine sD ?_|refine sE ?_|refine sF rfl ?_|refine sG rfl ?_)
  exact⟨_,_,_,ai.refl _ _,rfl,ag.refl _ _ _,rfl⟩
def di57_9:List DI:=[⟨[0],[],false,[0],some 45,[]⟩,⟨[1],[],false,[0],some 46,[]⟩,⟨[45,46],[0,1],false,[0],some 47,[0,1]⟩,⟨[47],[0,1,2],false,[0],some 48,[2]⟩,⟨[3],[],false,[0],some 49,[]⟩,⟨[49],[4],false,[0],some 50,[4]⟩,⟨[48,50],rg 0 6,false,[0],some 51,[3,5]⟩,⟨[0],[],false,[0],some 52,[]⟩,⟨[2],[],false,[0],some 53,[]⟩,⟨[52,53],[7,8],false,[0],some 54,[7,8]⟩,⟨[54],[7,8,9],false,[0],some 55,[9]⟩,⟨[51,55],rg 0 11,false,[0],some 56,[6,10]⟩,⟨[56],rg 0 12,false,[0],some 10,([11]++rg 0 12)⟩]
def di57_18:List DI:=[⟨[12],[],false,[0],some 98,[]⟩,⟨[1],[],false,[0],some 99,[]⟩,⟨[3],[],false,[0],some 100,[]⟩,⟨[100],[2],false,[0],some 101,[2]⟩,⟨[99,101],[1,2,3],false,[0],some 102,[1,3]⟩,⟨[98,102],rg 0 5,false,[0],some 103,[0,4]⟩,⟨[0],[],false,[0],some 104,[]⟩,⟨[2],[],false,[0],some 105,[]⟩,⟨[104,105],[6,7],false,[0],some 106,[6,7]⟩,⟨[103,106],rg 0 9,true,[],some 107,[5,8]⟩]
def di57_13:List DI:=[⟨[11],[],false,[0],some 73,[]⟩,⟨[1],[],false,[0],some 74,[]⟩,⟨[3],[],false,[0],some 75,[]⟩,⟨[75],[2],false,[0],some 76,[2]⟩,⟨[74,76],[1,2,3],false,[0],some 77,[1,3]⟩,⟨[73,77],rg 0 5,false,[0],some 78,[0,4]⟩,⟨[0],[],false,[0],some 79,[]⟩,⟨[2],[],false,[0],some 80,[]⟩,⟨[79,80],[6,7],false,[0],some 81,[6,7]⟩,⟨[78,81],rg 0 9,true,[],some 82,[5,8]⟩]
def di57_22:List DI:=[⟨[12],[],false,[0],some 121,[]⟩,⟨[1],[],false,[0],some 122,[]⟩,⟨[3],[],false,[0],some 123,[]⟩,⟨[123],[2],false,[0],some 124,[2]⟩,⟨[122,124],[1,2,3],false,[0],some 125,[1,3]⟩,⟨[121,125],rg 0 5,false,[0],some 126,[0,4]⟩,⟨[0],[],false,[0],some 127,[]⟩,⟨[2],[],false,[0],some 128,[]⟩,⟨[127,128],[6,7],false,[0],some 129,[6,7]⟩,⟨[126,129],rg 0 9,true,[],some 130,[5,8]⟩]
theorem tF{σ:List Ob}{id J n g i j k tot:Nat}{X V VV:List DV} (hid:id<σ.length) (hne:J≠id) (hV:σ[J]?=some (.arr 91 2 VV)) (hg:VV.length=g) (hVk:V=VV.take k) (hk:V.length=k) (hX:X.length=n) (h0:0<k) (hij:i+k≤j) (hjn:j<n) (hn9:n≤1048576)
  (oX:(X.all fun y=>y.cells.all DV.one)=true) (oV:(V.all fun y=>y.cells.all DV.one)=true) (htot:tot=i+k+(n-j)):
  Ok Try.prog 57 [.sl id n 0 n,.int .i64 (i:Int),.int .i64 (j:Int),.sl J g 0 k] (s1 σ id (.arr 91 2 X)) (.ret (.sl id n 0 tot)) (s1 σ id (.arr 91 2 (X.take i++V++X.drop j++AO (n-tot) (.agg [.int .i64 0,.int .u64 0]:DV)))):=by
 have a1:=fun O l=>du (σ:=σ) hid O l
 have a2:=fun O=>(by have:=du (σ:=σ) hid O [];rwa [AK] at this:(s1 σ id O)[id]?=some O)
 have a3:=fun O=>(by have:=eO (σ:=σ) hV hne O [];rwa [AK] at this:(s1 σ id O)[J]?=some (.arr 91 2 VV))
 have a4:=fun O O'=>(by have:=gQ (σ:=σ) hid O O' [];rwa [AK,AK] at this:(s1 σ id O).set id O'=s1 σ id O')
 have b1:au (some (.int .i64 (j:Int))) n n=some j:=az (by omega)
 have b2:au (some (.int .i64 (i:Int))) 0 j=some i:=az (by omega)
 have b3:au (some (.int .i64 (i:Int))) n n=some i:=az (by omega)
 have b4:au none 0 i=some 0:=rfl
 have b5:au none n n=some n:=rfl
 have b6:au (some (.int .i64 (j:Int))) 0 n=some j:=az (by omega)
 have b7:au (some (.int .i64 (tot:Int))) n n=some tot:=az (by omega)
 have b8:au none 0 tot=some 0:=rfl
 have b9:au none tot tot=some tot:=rfl
 have b10:au (some (.int .i64 (i:Int))) 0 tot=some i:=az (by omega)
 have b11:au (some (.int .i64 ((i+k:Nat):Int))) 0 tot=some (i+k):=az (by omega)
 have b12:au (some (.int .i64 (tot:Int))) 0 n=some tot:=az (by omega)
 have d1:((i:Int)==(j:Int))=false:=beq_eq_false_iff_ne.2 (by omega)
 have d2:((j:Int)==(n:Int))=false:=beq_eq_false_iff_ne.2 (by omega)
 have d3:decide (((i+k:Nat):Int)≤(j:Int))=true:=decide_eq_true (by omega)
 have w1:IntKind.i64.wrap ((i:Int)+(k:Int))=((i+k:Nat):Int):=wi (by omega) (by omega)
 have w2:IntKind.i64.wrap (((i+k:Nat):Int)+((n-j:Nat):Int))=(tot:Int):=wi (by omega) (by omega)
 have z1:∀x,0+x=x:=Bc
 have z2:∀x,x-0=x:=B6
 have z3:∀x:Nat,x≤x:=AU
 obtain⟨X1,hX1⟩:∃X1,X1=X.take i++V++X.drop (i+k):=⟨_,rfl⟩
 have l1:X1.length=n:=by rw[hX1];simp;omega
 obtain⟨X2,hX2⟩:∃X2,X2=X.take i++V++X.drop j++X.drop tot:=⟨_,rfl⟩
 have l2:X2.length=n:=by rw[hX2];simp;omega
 have ld:(X.drop j).length=n-j:=by rw[BP];omega
 have oXd:((X.drop j).all fun y=>y.cells.all DV.one)=true:=by
  rw[AS] at oX⊢
  exact fun x hx=>oX x (By hx)
 have oV':=oV
 have oXd':=oXd
 simp only[DV.cells] at oV' oXd'
 have g1:(g=VV.length)=True:=eq_true hg.symm
 have v1:VV.take k=V:=hVk.symm
 have v2:min V.length (tot-i)=k:=by rw[hk];omega
 have v3:V.take k=V:=AV (by omega)
 have e1:(X1.drop j).take (n-j)=X.drop j:=by
  rw[hX1,AR,Cm,Cm,A9 (by simp;omega),A9 (by simp;omega),Dp,Be,Be,AV (by simp;omega)]
  simp only[Bi,hX,hk]
  congr 1
  omega
 have v4:min (X.drop j).length (tot-(i+k))=n-j:=by rw[ld];omega
 have v5:(X.drop j).take (n-j)=X.drop j:=AV (by omega)
 have c1:bW (s1 σ id (.arr 91 2 X)) 2 (.sl id n i (tot-i)) V=some (s1 σ id (.arr 91 2 X1)):=
  bB (a2 _) hX.symm (by rw[hX1,hk]) (a4 _ _) (fun h=>by omega)
 have c2:bW (s1 σ id (.arr 91 2 X1)) 2 (.sl id n (i+k) (tot-(i+k))) (X.drop j)=some (s1 σ id (.arr 91 2 X2)):=by
  refine bB (a2 _) l1.symm ?_ (a4 _ _) (fun h=>by omega)
  rw[hX2,hX1,ld]
  have e2:(X.take i++V).length=i+k:=by simp;omega
  rw[CN,e2,B7,CF,AK,AV (by omega:(X.take i++V).length≤i+k),Cm,A9 (by omega:(X.take i++V).length≤i+k+(n-j)),Be,e2,Dp]
  congr 2
  omega
 have hz:X2.take tot=X.take i++V++X.drop j:=by
  have e2:(X.take i++V++X.drop j).length=tot:=by simp;omega
  rw[hX2,←e2,Dn]
 have c3:bW (s1 σ id (.arr 91 2 X2)) 2 (.sl id n tot (n-tot)) (AO (n-tot) (.agg [.int .i64 0,.int .u64 0]:DV))=some (s1 σ id (.arr 91 2 (X.take i++V++X.drop j++AO (n-tot) (.agg [.int .i64 0,.int .u64 0]:DV)))):=by
  refine bB (a2 _) l2.symm ?_ (a4 _ _) (fun h=>?_)
  ·rw[hz,Br,A9 (by omega:X2.length≤tot+(n-tot)),AK]
  ·rw[Br] at h
   have:X2=X.take i++V++X.drop j:=by rw[←hz,AV (by omega)]
   rw[h,BU,AK,←this]
 refine Ok.of_body ae Try.func57 rfl (by decide) (by simp[Try.ntmps57]) fun C hP hn hσ hfix hdd=>?_
 rw[show Try.f57.ntmps=224 from rfl] at hn
 have hL:af C.P L:=hP▸ae
 have hm:C.P.follows .mixedOrders=true:=hP▸ao
 repeat(first|((first|refine sA hL hn rfl ?_|refine sB hL hn rfl ?_);simp only[go_sem,reduceAdd,reduceEqDiff,reduceCtorEq,aw,a2,hX,b1,b2,d1,d2,z1])|((first|refine sC ?_|refine sH ?_|refine sI ?_|refine sJ ?_);try simp only[ap])|refine sD ?_|refine sE ?_|refine sF rfl ?_|refine sG rfl ?_)
 obtain⟨M,hM⟩:∃M,M=s1 σ id (.arr 91 2 X):=⟨_,rfl⟩
 have m1:M[id]?=some (.arr 91 2 X):=by rw[hM];exact a2 _
 have m2:M[J]?=some (.arr 91 2 VV):=by rw[hM];exact a3 _
 rw[←hM]
 first|refine sL hL hm hn di57_9 [M] rfl rfl rfl ?_|refine sM hL hm hn di57_9 [M] rfl rfl rfl ?_
 unfold di57_9
 repeat(rw[ah];simp (maxSteps:=2000000) only[go_sem,reduceEqDiff,reduceCtorEq,aw,m1,hX,b3,b4,b5,b6,w1,w2,z1,z2])
 try rw[aj]
 try simp only[go_sem]
 refine SW.keep [(0,.sl id n 0 n),(1,.int .i64 (i:Int)),(2,.int .i64 (j:Int)),(3,.sl J g 0 k),(10,.int .i64 (tot:Int))] (by exact⟨rfl,rfl,rfl,rfl,rfl,trivial⟩) ?_
 refine SW.expose 0 rfl fun cap hc1 hc2=>?_
 refine SW.keep [(0,.slx id n 0 n cap),(1,.int .i64 (i:Int)),(2,.int .i64 (j:Int)),(3,.sl J g 0 k),(10,.int .i64 (tot:Int))] (by exact⟨rfl,rfl,rfl,rfl,rfl,trivial⟩) ?_
 have d4:decide ((tot:Int)>(cap:Int))=false:=decide_eq_false (by omega)
 repeat refine SW.seq ?_
 try refine SW.region ?_
 repeat(refine aa.one hL (by rw[hn];rfl) ?_;simp only[go_sem,reduceEqDiff,reduceCtorEq];refine(?_:aa C _ _ _ _))
 refine aa.xone hL (by rw[hn];rfl) ?_;simp only[fY,go_sem,reduceEqDiff,reduceCtorEq];refine(?_:aa C _ _ _ _)
 repeat refine SW.seq ?_
 try refine SW.region ?_
 repeat(refine aa.one hL (by rw[hn];rfl) ?_;simp only[go_sem,reduceEqDiff,reduceCtorEq,d4];refine(?_:aa C _ _ _ _))
 refine aa.ghost (ai.unx 0 rfl) ?_
 refine aa.weak' (l:=[(0,.sl id n 0 n),(1,.int .i64 (i:Int)),(2,.int .i64 (j:Int)),(3,.sl J g 0 k),(10,.int .i64 (tot:Int)),(60,.bool false)]) (by exact⟨rfl,rfl,rfl,rfl,rfl,rfl,trivial⟩) ?_
 subst hM
 repeat(first|((first|refine sA hL hn rfl ?_|refine sB hL hn rfl ?_);simp only[go_sem,reduceEqDiff,reduceCtorEq,aw,a2,a3,hX,b7,b8,b9,b10,w1,d3,z1,z2,c1,g1,v1,v2,v3,oV'])|((first|refine sC ?_|refine sH ?_|refine sI ?_|refine sJ ?_);try simp only[ap])|refine sD ?_|refine sE ?_|refine sF rfl ?_|refine sG rfl ?_)
 refine SW.keep [(0,.sl id n 0 n),(1,.int .i64 (i:Int)),(2,.int .i64 (j:Int)),(3,.sl J g 0 k),(10,.int .i64 (tot:Int)),(12,.sl id n 0 tot)] (by exact⟨rfl,rfl,rfl,rfl,rfl,rfl,trivial⟩) ?_
 obtain⟨M1,hM1⟩:∃M1,M1=s1 σ id (.arr 91 2 X1):=⟨_,rfl⟩
 obtain⟨M2,hM2⟩:∃M2,M2=s1 σ id (.arr 91 2 X2):=⟨_,rfl⟩
 have m1:M1[id]?=some (.arr 91 2 X1):=by rw[hM1];exact a2 _
 have m2:M1[J]?=some (.arr 91 2 VV):=by rw[hM1];exact a3 _
 rw[←hM1,←hM2] at c2
 rw[←hM1]
 first|refine sL hL hm hn di57_18 [M1,M2] rfl rfl rfl ?_|refine sM hL hm hn di57_18 [M1,M2] rfl rfl rfl ?_
 unfold di57_18
 repeat(rw[ah];simp (maxSteps:=2000000) only[go_sem,reduceEqDiff,reduceCtorEq,aw,m1,l1,b5,b6,b9,b11,w1,z1,c2,e1,v4,v5,oXd'])
 try rw[aj]
 try simp only[go_sem]
 subst hM2
 refine SW.keep [(0,.sl id n 0 n),(10,.int .i64 (tot:Int)),(12,.sl id n 0 tot)] (by exact⟨rfl,rfl,rfl,trivial⟩) ?_
 repeat(first|((first|refine sA hL hn rfl ?_|refine sB hL hn rfl ?_);simp only[go_sem,reduceAdd,reduceEqDiff,reduceCtorEq,aw,a2,l2,b5,b12,z1,c3])|((first|refine sC ?_|refine sH ?_|refine sI ?_|refine sJ ?_);try simp only[ap])|refine sD ?_|refine sE ?_|refine sF rfl ?_|refine sG rfl ?_)
 exact⟨_,_,_,ai.refl _ _,rfl,ag.refl _ _ _,rfl⟩
theorem tG{σ:List Ob}{id J n g i k:Nat}{X V VV:List DV} (hid:id<σ.length) (hne:J≠id) (hV:σ[J]?=some (.arr 91 2 VV)) (hg:VV.length=g) (hVk:V=VV.take k) (hk:V.length=k) (hX:X.length=n) (h0:0<k) (hin:i+k≤n) (hn9:n≤1048576)
  (oX:(X.all fun y=>y.cells.all DV.one)=true) (oV:(V.all fun y=>y.cells.all DV.one)=true):
  Ok Try.prog 57 [.sl id n 0 n,.int .i64 (i:Int),.int .i64 (n:Int),.sl J g 0 k] (s1 σ id (.arr 91 2 X)) (.ret (.sl id n 0 (i+k))) (s1 σ id (.arr 91 2 (X.take i++V++AO (n-(i+k)) (.agg [.int .i64 0,.int .u64 0]:DV)))):=by
 have a2:=fun O=>(by have:=du (σ:=σ) hid O [];rwa [AK] at this:(s1 σ id O)[id]?=some O)
 have a3:=fun O=>(by have:=eO (σ:=σ) hV hne O [];rwa [AK] at this:(s1 σ id O)[J]?=some (.arr 91 2 VV))
 have a4:=fun O O'=>(by have:=gQ (σ:=σ) hid O O' [];rwa [AK,AK] at this:(s1 σ id O).set id O'=s1 σ id O')
 have b1:au (some (.int .i64 (n:Int))) n n=some n:=az (AU _)
 have b2:au (some (.int .i64 (i:Int))) 0 n=some i:=az (by omega)
 have b3:au (some (.int .i64 (i:Int))) n n=some i:=az (by omega)
 have b4:au none 0 i=some 0:=rfl
 have b5:au none n n=some n:=rfl
 have b6:au (some (.int .i64 ((i+k:Nat):Int))) 0 n=some (i+k):=az (by omega)
 have d1:((i:Int)==(n:Int))=false:=beq_eq_false_iff_ne.2 (by omega)
 have d2:((n:Int)==(n:Int))=true:=by simp
 have z1:∀x,0+x=x:=Bc
 have z2:∀x,x-0=x:=B6
 have z3:(0<n∨True)=True:=by simp
 obtain⟨X1,hX1⟩:∃X1,X1=X.take i++V++X.drop (i+k):=⟨_,rfl⟩
 have l1:X1.length=n:=by rw[hX1];simp;omega
 have hz:X1.take (i+k)=X.take i++V:=by
  have e2:(X.take i++V).length=i+k:=by simp;omega
  rw[hX1,←e2,Dn]
 have c3:bW (s1 σ id (.arr 91 2 X1)) 2 (.sl id n (i+k) (n-(i+k))) (AO (n-(i+k)) (.agg [.int .i64 0,.int .u64 0]:DV))=some (s1 σ id (.arr 91 2 (X.take i++V++AO (n-(i+k)) (.agg [.int .i64 0,.int .u64 0]:DV)))):=by
  refine bB (a2 _) l1.symm ?_ (a4 _ _) (fun h=>?_)
  ·rw[hz,Br,A9 (by omega:X1.length≤i+k+(n-(i+k))),AK]
  ·rw[Br] at h
   have:X1=X.take i++V:=by rw[←hz,AV (by omega)]
   rw[h,BU,AK,←this]
 refine Ok.of_body ae Try.func57 rfl (by decide) (by simp[Try.ntmps57]) fun C hP hn hσ hfix hdd=>?_
 rw[show Try.f57.ntmps=224 from rfl] at hn
 have hL:af C.P L:=hP▸ae
 have hm:C.P.follows .mixedOrders=true:=hP▸ao
 refine SW.expose 0 rfl fun cap hc1 hc2=>?_
 refine SW.keep [(0,.slx id n 0 n cap),(1,.int .i64 (i:Int)),(2,.int .i64 (n:Int)),(3,.sl J g 0 k)] (by exact⟨rfl,rfl,rfl,rfl,trivial⟩) ?_
 have hcap:n≤0+cap:=by omega
 have hcap':(n≤cap)=True:=eq_true hc1
 repeat(first|((first|refine sA hL hn rfl ?_|refine sB hL hn rfl ?_);simp only[go_sem,reduceEqDiff,reduceCtorEq])|((first|refine sC ?_|refine sH ?_|refine sI ?_|refine sJ ?_);try simp only[ap,aY,cx,bP,if_true,if_false,reduceEqDiff])|refine sD ?_|refine sE ?_|refine sF rfl ?_|refine sG rfl ?_)
 refine aa.xone hL (by rw[hn];rfl) ?_;simp only[fY,fH,go_sem,reduceEqDiff,reduceCtorEq,a2,hX,b1,b2,z1,z2,hcap',or_true];refine(?_:aa C _ _ _ _)
 repeat(first|((first|refine sA hL hn rfl ?_|refine sB hL hn rfl ?_);simp only[go_sem,reduceEqDiff,reduceCtorEq,d1])|((first|refine sC ?_|refine sH ?_|refine sI ?_|refine sJ ?_);try simp only[ap])|refine sD ?_|refine sE ?_|refine sF rfl ?_|refine sG rfl ?_)
 refine aa.xone hL (by rw[hn];rfl) ?_;simp only[fY,go_sem,reduceEqDiff,reduceCtorEq];refine(?_:aa C _ _ _ _)
 repeat refine SW.seq ?_
 try refine SW.region ?_
 repeat(refine aa.one hL (by rw[hn];rfl) ?_;simp only[go_sem,reduceEqDiff,reduceCtorEq,d2];refine(?_:aa C _ _ _ _))
 refine aa.nil ?_
 simp only[ap]
 repeat(first|((first|refine sA hL hn rfl ?_|refine sB hL hn rfl ?_);simp only[go_sem,reduceEqDiff,Bv,reduceCtorEq])|((first|refine sC ?_|refine sH ?_|refine sI ?_|refine sJ ?_);try simp only[ap,aY,cx,bP,if_true,if_false,reduceEqDiff])|refine sD ?_|refine sE ?_|refine sF rfl ?_|refine sG rfl ?_)
 refine aa.xone hL (by rw[hn];rfl) ?_;simp only[fY,fH,go_sem,reduceEqDiff,reduceCtorEq,a2,hX,b3,b4,z1,z2,hcap',or_true];refine(?_:aa C _ _ _ _)
 repeat refine SW.seq ?_
 try refine SW.region ?_
 repeat(refine aa.one hL (by rw[hn];rfl) ?_;simp only[go_sem,reduceEqDiff,Bv,reduceCtorEq];refine(?_:aa C _ _ _ _))
 have oneX:∀y∈X,∀c∈y.cells,c.one=true:=fun y hy c hc=>AS.1 (AS.1 oX y hy) c hc
 have oneV:∀y∈V,∀c∈y.cells,c.one=true:=fun y hy c hc=>AS.1 (AS.1 oV y hy) c hc
 refine aa.op (d:=.slx id n 0 (i+k) cap) (ob':=s1 σ id (.arr 91 2 X1)) ?_ (fun t ht=>?_) ?_ ?_
 ·rfl
 ·cases ht;rw[hn];decide
 ·rw[show DV.slx id n 0 (i+k) cap=.slx id X.length 0 (i+V.length) cap by rw[hX,hk],show s1 σ id (.arr 91 2 X1)=(s1 σ id (.arr 91 2 X)).set id (.arr 91 2 (X.take i++V++X.drop (i+V.length))) by rw[a4,hX1,hk]]
  refine ar.appIn hL rfl rfl rfl L86 L91 (by decide) rfl ?_ oneV oneX (a2 _) (by omega) (by show(i+V.length)*16≤_;omega) ?_ (by omega) (by omega)
  ·simp only[jf,L86,bV,ev,lk,a3,hg,if_true,if_false,Ch,←hVk,reduceEqDiff]
  ·rw[hX];rfl
 refine aa.ghost (ai.unx 34 rfl) ?_
 refine aa.ghost (ai.unx 0 rfl) ?_
 refine aa.weak' (l:=[(0,.sl id n 0 n),(34,.sl id n 0 (i+k))]) (by exact⟨rfl,rfl,trivial⟩) ?_
 repeat refine SW.seq ?_
 try refine SW.region ?_
 repeat(refine aa.one hL (by rw[hn];rfl) ?_;simp only[go_sem,reduceEqDiff,reduceCtorEq];refine(?_:aa C _ _ _ _))
 refine aa.nil ?_
 simp only[ap]
 by_cases hlt:i+k<n
 ·have d5:decide (((i+k:Nat):Int)<(n:Int))=true:=decide_eq_true (by omega)
  repeat(first|((first|refine sA hL hn rfl ?_|refine sB hL hn rfl ?_);simp only[go_sem,reduceAdd,reduceEqDiff,reduceCtorEq,aw,a2,l1,b5,b6,z1,d5,c3])|((first|refine sC ?_|refine sH ?_|refine sI ?_|refine sJ ?_);try simp only[ap])|refine sD ?_|refine sE ?_|refine sF rfl ?_|refine sG rfl ?_)
  exact⟨_,_,_,ai.refl _ _,rfl,ag.refl _ _ _,rfl⟩
 ·have d5:decide (((i+k:Nat):Int)<(n:Int))=false:=decide_eq_false (by omega)
  have hE:X.take i++(V++AO (n-(i+k)) (.agg [.int .i64 0,.int .u64 0]:DV))=X1:=by
   rw[show n-(i+k)=0 by omega,BU,AK,←hz,AV (by omega)]
  rw[hE]
  repeat(first|((first|refine sA hL hn rfl ?_|refine sB hL hn rfl ?_);simp only[go_sem,reduceEqDiff,reduceCtorEq,d5])|((first|refine sC ?_|refine sH ?_|refine sI ?_|refine sJ ?_);try simp only[ap])|refine sD ?_|refine sE ?_|refine sF rfl ?_|refine sG rfl ?_)
  exact⟨_,_,_,ai.refl _ _,rfl,ag.refl _ _ _,rfl⟩
theorem zD (v1 v2:Value) (w:World):(callFunc 65 #[v1,v2]).run Try.prog w=((Extern.SlicesOverlaps.overlaps #[86,86] #[4] #[v1,v2]).run Try.prog w).andThen fun v w=>.ok (.value v) w:=
 run_callFunc_extern Try.func65 (by kernel_rfl) (by kernel_rfl) (by kernel_rfl) (e:=Extern.SlicesOverlaps.overlaps #[86,86] #[4]) (by kernel_rfl) #[v1,v2] w
theorem wh{σ:List Ob}{id J n g i:Nat}{X V VV:List DV} (hid:id<σ.length) (hne:J≠id) (hV:σ[J]?=some (.arr 91 2 VV)) (hg:VV.length=g) (hVk:V=VV.take 2) (hk:V.length=2) (hX:X.length=n) (hin:i+1=n) (hn9:n≤1048576)
  (oX:(X.all fun y=>y.cells.all DV.one)=true) (oV:(V.all fun y=>y.cells.all DV.one)=true):
  Ok Try.prog 57 [.sl id n 0 n,.int .i64 (i:Int),.int .i64 (n:Int),.sl J g 0 2] (s1 σ id (.arr 91 2 X)) (.ret (.sl id (n+1) 0 (n+1))) (s1 σ id (.arr 91 2 (X.take i++V))):=by
 have a2:=fun O=>(by have:=du (σ:=σ) hid O [];rwa [AK] at this:(s1 σ id O)[id]?=some O)
 have a3:=fun O=>(by have:=eO (σ:=σ) hV hne O [];rwa [AK] at this:(s1 σ id O)[J]?=some (.arr 91 2 VV))
 have a4:=fun O O'=>(by have:=gQ (σ:=σ) hid O O' [];rwa [AK,AK] at this:(s1 σ id O).set id O'=s1 σ id O')
 have b1:au (some (.int .i64 (n:Int))) n n=some n:=az (AU _)
 have b2:au (some (.int .i64 (i:Int))) 0 n=some i:=az (by omega)
 have b3:au (some (.int .i64 (i:Int))) n n=some i:=az (by omega)
 have b4:au none 0 i=some 0:=rfl
 have d1:((i:Int)==(n:Int))=false:=beq_eq_false_iff_ne.2 (by omega)
 have d2:((n:Int)==(n:Int))=true:=by simp
 have z1:∀x,0+x=x:=Bc
 have z2:∀x,x-0=x:=B6
 have oneX:∀y∈X,∀c∈y.cells,c.one=true:=fun y hy c hc=>AS.1 (AS.1 oX y hy) c hc
 have oneV:∀y∈V,∀c∈y.cells,c.one=true:=fun y hy c hc=>AS.1 (AS.1 oV y hy) c hc
 refine Ok.of_body ae Try.func57 rfl (by decide) (by simp[Try.ntmps57]) fun C hP hn hσ hfix hdd=>?_
 rw[show Try.f57.ntmps=224 from rfl] at hn
 have hL:af C.P L:=hP▸ae
 have hm:C.P.follows .mixedOrders=true:=hP▸ao
 have f1:(i=n)=False:=eq_false (by omega)
 have g1:(g=VV.length)=True:=eq_true hg.symm
 have v1:VV.take 2=V:=hVk.symm
 have oV':=oV
 simp only[DV.cells] at oV'
 repeat(first|((first|refine sA hL hn rfl ?_|refine sB hL hn rfl ?_);simp only[go_sem,reduceAdd,reduceEqDiff,Bv,reduceCtorEq,aw,a2,a3,hX,b1,b2,b3,b4,d1,d2,z1,z2,aG,f1,g1,v1,oV',false_and,and_false])|((first|refine sC ?_|refine sH ?_|refine sI ?_|refine sJ ?_);try simp only[ap])|refine sD ?_|refine sE ?_|refine sF rfl ?_|refine sG rfl ?_)
 refine aa.op (d:=.sl id (n+1) 0 (n+1)) (ob':=s1 σ id (.arr 91 2 (X.take i++V))) ?_ (fun t ht=>?_) ?_ ?_
 ·rfl
 ·cases ht;rw[hn];decide
 ·rw[show DV.sl id (n+1) 0 (n+1)=.sl id (i+V.length) 0 (i+V.length) by rw[hk,←hin],show s1 σ id (.arr 91 2 (X.take i++V))=(s1 σ id (.arr 91 2 X)).set id (.arr 91 2 (X.take i++V)) by rw[a4]]
  refine ar.appLong hL rfl rfl rfl L86 L91 (by decide) rfl ?_ oneV oneX (a2 _) (by omega) (by show(i+V.length)*16≤_;omega) (.inl ?_) (by omega)
  ·simp only[jf,L86,bV,ev,lk,a3,hg,if_true,if_false,Ch,←hVk,reduceEqDiff]
  ·rw[hX];rfl
 refine aa.weak' (l:=[(0,.sl id n 0 n),(34,.sl id (n+1) 0 (n+1))]) (by exact⟨rfl,rfl,trivial⟩) ?_
 have d5:decide (((n+1:Nat):Int)<(n:Int))=false:=decide_eq_false (by omega)
 repeat refine SW.seq ?_
 try refine SW.region ?_
 repeat(refine aa.one hL (by rw[hn];rfl) ?_;simp only[go_sem,reduceEqDiff,reduceCtorEq];refine(?_:aa C _ _ _ _))
 refine aa.nil ?_
 simp only[ap]
 repeat(first|((first|refine sA hL hn rfl ?_|refine sB hL hn rfl ?_);simp only[go_sem,reduceEqDiff,reduceCtorEq,d5])|((first|refine sC ?_|refine sH ?_|refine sI ?_|refine sJ ?_);try simp only[ap])|refine sD ?_|refine sE ?_|refine sF rfl ?_|refine sG rfl ?_)
 exact⟨_,_,_,ai.refl _ _,rfl,ag.refl _ _ _,rfl⟩
theorem uG{σ:List Ob}{id J n g i j:Nat}{X V VV:List DV} (hid:id<σ.length) (hne:J≠id) (hV:σ[J]?=some (.arr 91 2 VV)) (hg:VV.length=g) (hVk:V=VV.take 2) (hk:V.length=2) (hX:X.length=n) (hij:j=i+1) (hjn:j<n) (hn9:n≤1048576)
  (oX:(X.all fun y=>y.cells.all DV.one)=true) (oV:(V.all fun y=>y.cells.all DV.one)=true) (lX:∀y∈X.take i++V++X.drop j,∀m,Low m y):
  Ok Try.prog 57 [.sl id n 0 n,.int .i64 (i:Int),.int .i64 (j:Int),.sl J g 0 2] (s1 σ id (.arr 91 2 X)) (.ret (.sl id (n+1) 0 (n+1))) (s1 σ id (.arr 91 2 (X.take i++V++X.drop j))):=by
 have a1:=fun O l=>du (σ:=σ) hid O l
 have a2:=fun O=>(by have:=du (σ:=σ) hid O [];rwa [AK] at this:(s1 σ id O)[id]?=some O)
 have a3:=fun O=>(by have:=eO (σ:=σ) hV hne O [];rwa [AK] at this:(s1 σ id O)[J]?=some (.arr 91 2 VV))
 have a4:=fun O O'=>(by have:=gQ (σ:=σ) hid O O' [];rwa [AK,AK] at this:(s1 σ id O).set id O'=s1 σ id O')
 have a5:=fun O l=>eO (σ:=σ) hV hne O l
 have sl:=fun O=>ey (σ:=σ) (a:=id) O
 have n1:∀O N,(s1 σ id O++[N])[σ.length]?=some N:=fun O N=>by rw[←sl O];simp
 have n2:∀O N N',(s1 σ id O++[N]).set σ.length N'=s1 σ id O++[N']:=fun O N N'=>by rw[←sl O];simp
 have z1:∀x,0+x=x:=Bc
 have z2:∀x,x-0=x:=B6
 have oneX:∀y∈X,∀c∈y.cells,c.one=true:=fun y hy c hc=>AS.1 (AS.1 oX y hy) c hc
 have oV':=oV
 simp only[DV.cells] at oV'
 have b1:au (some (.int .i64 (j:Int))) n n=some j:=az (by omega)
 have b2:au (some (.int .i64 (i:Int))) 0 j=some i:=az (by omega)
 have b3:au (some (.int .i64 (i:Int))) n n=some i:=az (by omega)
 have b4:au none 0 i=some 0:=rfl
 have b5:au none n n=some n:=rfl
 have b6:au (some (.int .i64 (j:Int))) 0 n=some j:=az (by omega)
 have b7:au (some (.int .i64 ((n+1:Nat):Int))) n (n+1)=some (n+1):=az (by omega)
 have b8:au none 0 (n+1)=some 0:=rfl
 have b9:au none (n+1) (n+1)=some (n+1):=rfl
 have b10:au (some (.int .i64 (i:Int))) 0 (n+1)=some i:=az (by omega)
 have b11:au (some (.int .i64 ((i+2:Nat):Int))) 0 (n+1)=some (i+2):=az (by omega)
 have d1:((i:Int)==(j:Int))=false:=beq_eq_false_iff_ne.2 (by omega)
 have d2:((j:Int)==(n:Int))=false:=beq_eq_false_iff_ne.2 (by omega)
 have d3:decide (((i+2:Nat):Int)≤(j:Int))=false:=decide_eq_false (by omega)
 have w1:IntKind.i64.wrap ((i:Int)+2)=((i+2:Nat):Int):=wi (by omega) (by omega)
 have w1':IntKind.i64.wrap ((i:Int)+((2:Nat):Int))=((i+2:Nat):Int):=wi (by omega) (by omega)
 have w2:IntKind.i64.wrap (((i+2:Nat):Int)+((n-j:Nat):Int))=((n+1:Nat):Int):=wi (by omega) (by omega)
 have w3:IntKind.i64.wrap (((n+1:Nat):Int)-(i:Int))=((n+1-i:Nat):Int):=wi (by omega) (by omega)
 have ld:(X.drop j).length=n-j:=by rw[BP];omega
 have oXd:((X.drop j).all fun y=>y.cells.all DV.one)=true:=by
  rw[AS] at oX⊢
  exact fun x hx=>oX x (By hx)
 have oXd':=oXd
 simp only[DV.cells] at oXd'
 have g1:(g=VV.length)=True:=eq_true hg.symm
 have v1:VV.take 2=V:=hVk.symm
 have v3:V.take 2=V:=AV (by omega)
 have v5:(X.drop j).take (n-j)=X.drop j:=AV (by omega)
 obtain⟨Y,hY⟩:∃Y,Y=X.take i++V++X.drop j:=⟨_,rfl⟩
 have hYl:Y.length=n+1:=by rw[hY];simp;omega
 rw[←hY] at lX⊢
 refine Ok.of_body ae Try.func57 rfl (by decide) (by simp[Try.ntmps57]) fun C hP hn hσ hfix hdd=>?_
 rw[show Try.f57.ntmps=224 from rfl] at hn
 have hL:af C.P L:=hP▸ae
 have hm:C.P.follows .mixedOrders=true:=hP▸ao
 repeat(first|((first|refine sA hL hn rfl ?_|refine sB hL hn rfl ?_);simp only[go_sem,reduceAdd,reduceEqDiff,reduceCtorEq,aw,a2,hX,b1,b2,d1,d2,z1])|((first|refine sC ?_|refine sH ?_|refine sI ?_|refine sJ ?_);try simp only[ap])|refine sD ?_|refine sE ?_|refine sF rfl ?_|refine sG rfl ?_)
 obtain⟨M,hM⟩:∃M,M=s1 σ id (.arr 91 2 X):=⟨_,rfl⟩
 have m1:M[id]?=some (.arr 91 2 X):=by rw[hM];exact a2 _
 have m2:M[J]?=some (.arr 91 2 VV):=by rw[hM];exact a3 _
 rw[←hM]
 first|refine sL hL hm hn di57_9 [M] rfl rfl rfl ?_|refine sM hL hm hn di57_9 [M] rfl rfl rfl ?_
 unfold di57_9
 repeat(rw[ah];simp (maxSteps:=2000000) only[go_sem,reduceEqDiff,reduceCtorEq,aw,m1,hX,b3,b4,b5,b6,w1',w2,z1,z2])
 try rw[aj]
 try simp only[go_sem]
 refine SW.keep [(0,.sl id n 0 n),(1,.int .i64 (i:Int)),(2,.int .i64 (j:Int)),(3,.sl J g 0 2),(10,.int .i64 ((n+1:Nat):Int))] (by exact⟨rfl,rfl,rfl,rfl,rfl,trivial⟩) ?_
 refine SW.expose 0 rfl fun cap hc1 hc2=>?_
 refine SW.keep [(0,.slx id n 0 n cap),(1,.int .i64 (i:Int)),(2,.int .i64 (j:Int)),(3,.sl J g 0 2),(10,.int .i64 ((n+1:Nat):Int))] (by exact⟨rfl,rfl,rfl,rfl,rfl,trivial⟩) ?_
 have hcap':(n≤cap)=True:=eq_true hc1
 repeat refine SW.seq ?_
 try refine SW.region ?_
 repeat(refine aa.one hL (by rw[hn];rfl) ?_;simp only[go_sem,reduceEqDiff,reduceCtorEq];refine(?_:aa C _ _ _ _))
 refine aa.xone hL (by rw[hn];rfl) ?_;simp only[fY,go_sem,reduceEqDiff,reduceCtorEq];refine(?_:aa C _ _ _ _)
 by_cases hcap:cap=n
 ·have d4:decide (((n+1:Nat):Int)>(cap:Int))=true:=decide_eq_true (by omega)
  repeat refine SW.seq ?_
  try refine SW.region ?_
  repeat(refine aa.one hL (by rw[hn];rfl) ?_;simp only[go_sem,reduceEqDiff,reduceCtorEq,d4];refine(?_:aa C _ _ _ _))
  refine aa.nil ?_
  simp only[ap]
  repeat(first|((first|refine sA hL hn rfl ?_|refine sB hL hn rfl ?_);simp only[go_sem,reduceAdd,reduceEqDiff,Bv,reduceCtorEq])|((first|refine sC ?_|refine sH ?_|refine sI ?_|refine sJ ?_);try simp only[ap,aY,cx,bP,if_true,if_false,reduceEqDiff])|refine sD ?_|refine sE ?_|refine sF rfl ?_|refine sG rfl ?_)
  refine aa.xone hL (by rw[hn];rfl) ?_;simp only[fY,fH,go_sem,reduceEqDiff,reduceCtorEq,m1,hX,b3,b4,z1,z2,hcap',or_true];refine(?_:aa C _ _ _ _)
  repeat refine SW.seq ?_
  try refine SW.region ?_
  repeat(refine aa.one hL (by rw[hn];rfl) ?_;simp only[go_sem,reduceAdd,reduceEqDiff,Bv,reduceCtorEq,w3];refine(?_:aa C _ _ _ _))
  obtain⟨Z0,hZ0⟩:∃Z0,Z0=X.take i++AO (n+1-i) (.agg [.int .i64 0,.int .u64 0]:DV):=⟨_,rfl⟩
  have lZ0:Z0.length=n+1:=by rw[hZ0];simp;omega
  have lr:(AO (n+1-i) (.agg [.int .i64 0,.int .u64 0]:DV)).length=n+1-i:=Br
  refine aa.op (d:=.sl M.length (n+1) 0 (n+1)) (ob':=M++[.arr 91 2 Z0]) ?_ (fun t ht=>?_) ?_ ?_
  ·rfl
  ·cases ht;rw[hn];decide
  ·have e1:i+(AO (n+1-i) (.agg [.int .i64 0,.int .u64 0]:DV)).length=n+1:=by rw[lr];omega
   rw[show DV.sl M.length (n+1) 0 (n+1)=.sl M.length (i+(AO (n+1-i) (.agg [.int .i64 0,.int .u64 0]:DV)).length) 0 (i+(AO (n+1-i) (.agg [.int .i64 0,.int .u64 0]:DV)).length) by rw[e1],hZ0]
   refine ar.appNew hL rfl rfl rfl L86 L91 (by decide) rfl ?_ (fun y hy c hc=>?_) oneX m1 (by rw[lr];omega) (by rw[e1];show(n+1)*16≤_;omega) (cap:=cap) ?_ (by rw[e1];omega)
   ·have t1:(0:Int)≤((n+1-i:Nat):Int)∧((n+1-i:Nat):Int)*((16:Nat):Int)≤1073741824:=by omega
    simp only[jf,L3,ev,lk,if_true,if_false,reduceEqDiff,Bg]
    rw[if_pos ⟨t1.1,t1.2,rfl⟩]
   ·rw[(BK.1 hy).2] at hc
    simp only[DV.cells,Bh,Bw,or_false] at hc
    rcases hc with rfl|rfl<;>rfl
   ·rw[hX];rfl
  refine aa.ghost (ai.unx 0 rfl) ?_
  refine aa.weak' (l:=[(0,.sl id n 0 n),(1,.int .i64 (i:Int)),(2,.int .i64 (j:Int)),(3,.sl J g 0 2),(67,.sl M.length (n+1) 0 (n+1))]) (by exact⟨rfl,rfl,rfl,rfl,rfl,trivial⟩) ?_
  have hMl:M.length=σ.length:=by rw[hM];exact sl _
  rw[hMl]
  subst hM
  repeat refine SW.seq ?_
  try refine SW.region ?_
  repeat(refine aa.one hL (by rw[hn];rfl) ?_;simp only[go_sem,reduceEqDiff,reduceCtorEq];refine(?_:aa C _ _ _ _))
  refine aa.nil ?_
  simp only[ap]
  obtain⟨Z1,hZ1⟩:∃Z1,Z1=Z0.take i++V++Z0.drop (i+2):=⟨_,rfl⟩
  have lZ1:Z1.length=n+1:=by rw[hZ1];simp;omega
  have t0:Z0.take i=X.take i:=by
   rw[hZ0,CN,CL,Nat.min_self,show i-(X.take i).length=0 by rw[Bi];omega,CF,AK]
  have v6:min V.length (n+1-i)=2:=by omega
  have v7:min (X.drop j).length (n+1-(i+2))=n-j:=by omega
  have c1:bW (s1 σ id (.arr 91 2 X)++[.arr 91 2 Z0]) 2 (.sl σ.length (n+1) i (n+1-i)) V=some (s1 σ id (.arr 91 2 X)++[.arr 91 2 Z1]):=
   bB (n1 _ _) lZ0.symm (by rw[hZ1,hk]) (n2 _ _ _) (fun h=>by omega)
  have c2:bW (s1 σ id (.arr 91 2 X)++[.arr 91 2 Z1]) 2 (.sl σ.length (n+1) (i+2) (n+1-(i+2))) (X.drop j)=some (s1 σ id (.arr 91 2 X)++[.arr 91 2 Y]):=by
   refine bB (n1 _ _) lZ1.symm ?_ (n2 _ _ _) (fun h=>by omega)
   have e2:(X.take i++V).length=i+2:=by simp;omega
   rw[A9 (show Z1.length≤i+2+(X.drop j).length by omega),AK,hY,hZ1,t0,CN,e2,B7,CF,AK,AV (by omega:(X.take i++V).length≤i+2)]
  repeat(first|((first|refine sA hL hn rfl ?_|refine sB hL hn rfl ?_);simp only[go_sem,reduceEqDiff,reduceCtorEq,aw,n1,lZ0,b9,b10,z1,a5,g1,v1,v3,v6,oV',c1])|((first|refine sC ?_|refine sH ?_|refine sI ?_|refine sJ ?_);try simp only[ap,aY,cx,bP,if_true,if_false,reduceEqDiff])|refine sD ?_|refine sE ?_|refine sF rfl ?_|refine sG rfl ?_)
  refine SW.keep [(0,.sl id n 0 n),(1,.int .i64 (i:Int)),(2,.int .i64 (j:Int)),(3,.sl J g 0 2),(11,.sl σ.length (n+1) 0 (n+1))] (by exact⟨rfl,rfl,rfl,rfl,rfl,trivial⟩) ?_
  obtain⟨M1,hM1⟩:∃M1,M1=s1 σ id (.arr 91 2 X)++[.arr 91 2 Z1]:=⟨_,rfl⟩
  obtain⟨M2,hM2⟩:∃M2,M2=s1 σ id (.arr 91 2 X)++[.arr 91 2 Y]:=⟨_,rfl⟩
  have k1:M1[id]?=some (.arr 91 2 X):=by rw[hM1];exact a1 _ _
  have k2:M1[J]?=some (.arr 91 2 VV):=by rw[hM1];exact a5 _ _
  have k3:M1[σ.length]?=some (.arr 91 2 Z1):=by rw[hM1];exact n1 _ _
  rw[←hM1,←hM2] at c2
  rw[←hM1]
  first|refine sL hL hm hn di57_13 [M1,M2] rfl rfl rfl ?_|refine sM hL hm hn di57_13 [M1,M2] rfl rfl rfl ?_
  unfold di57_13
  repeat(rw[ah];simp (maxSteps:=2000000) only[go_sem,reduceEqDiff,reduceCtorEq,aw,k1,k3,hX,lZ1,b5,b6,b9,b11,w1',z1,c2,v5,v7,oXd'])
  try rw[aj]
  try simp only[go_sem]
  subst hM2
  repeat(first|((first|refine sA hL hn rfl ?_|refine sB hL hn rfl ?_);simp only[go_sem,reduceEqDiff,reduceCtorEq])|((first|refine sC ?_|refine sH ?_|refine sI ?_|refine sJ ?_);try simp only[ap])|refine sD ?_|refine sE ?_|refine sF rfl ?_|refine sG rfl ?_)
  refine⟨_,.sl σ.length (n+1) 0 (n+1),_,ai.refl _ _,rfl,?_,rfl⟩
  have hmv:=ag.move (C:=C) (t:=91) (k:=2) (off:=0) (len:=n+1) (ys:=Y) hσ hfix (a2 _) (by omega) (fun y hy=>lX y hy _)
  rw[sl,hYl,a4] at hmv
  exact hmv
 ·have d4:decide (((n+1:Nat):Int)>(cap:Int))=false:=decide_eq_false (by omega)
  repeat refine SW.seq ?_
  try refine SW.region ?_
  repeat(refine aa.one hL (by rw[hn];rfl) ?_;simp only[go_sem,reduceEqDiff,reduceCtorEq,d4];refine(?_:aa C _ _ _ _))
  refine aa.nil ?_
  simp only[ap]
  refine SW.keep [(0,.slx id n 0 n cap),(1,.int .i64 (i:Int)),(2,.int .i64 (j:Int)),(3,.sl J g 0 2),(10,.int .i64 ((n+1:Nat):Int)),(60,.bool false)] (by exact⟨rfl,rfl,rfl,rfl,rfl,rfl,trivial⟩) ?_
  refine SW.ghost (ai.growx 0 (n+1) (xs:=X) (by rw[hX];rfl) m1 (by omega) (by omega) (by omega)) ?_
  have hne':¬(J=id∧g=X.length):=fun h=>hne h.1
  refine SW.keep [(0,.slx id (n+1) 0 n cap),(1,.int .i64 (i:Int)),(2,.int .i64 (j:Int)),(3,.sl J g 0 2),(10,.int .i64 ((n+1:Nat):Int)),(60,.bool false)] (by
   refine⟨?_,?_,?_,?_,?_,?_,trivial⟩<;>rw[sU]
   ·show re1 id X.length (n+1) (.slx id n 0 n cap)=_
    simp[re1,hX]
   ·rfl
   ·rfl
   ·show re1 id X.length (n+1) (.sl J g 0 2)=_
    simp only[re1]
    rw[if_neg hne']
   ·rfl
   ·rfl) ?_
  obtain⟨W,hW⟩:∃W,W=X++AO (n+1-X.length) (iO 2):=⟨_,rfl⟩
  have lW:W.length=n+1:=by rw[hW];simp;omega
  rw[←hW,hM,a4]
  have tW:W.take i=X.take i:=by rw[hW,BL (by omega)]
  have tWj:(W.drop j).take (n-j)=X.drop j:=by
   rw[hW,CP (by omega),BL (by omega),AV (by omega)]
  obtain⟨W1,hW1⟩:∃W1,W1=W.take (i+2)++X.drop j++W.drop (i+2+(n-j)):=⟨_,rfl⟩
  have lW1:W1.length=n+1:=by rw[hW1];simp;omega
  have v6:min V.length (n+1-i)=2:=by omega
  have v7:min (X.drop j).length (n+1-(i+2))=n-j:=by omega
  have c1:bW (s1 σ id (.arr 91 2 W)) 2 (.sl id (n+1) (i+2) (n+1-(i+2))) (X.drop j)=some (s1 σ id (.arr 91 2 W1)):=
   bB (a2 _) lW.symm (by rw[hW1,ld]) (a4 _ _) (fun h=>by omega)
  have c2:bW (s1 σ id (.arr 91 2 W1)) 2 (.sl id (n+1) i (n+1-i)) V=some (s1 σ id (.arr 91 2 Y)):=by
   refine bB (a2 _) lW1.symm ?_ (a4 _ _) (fun h=>by omega)
   have e2:(W.take (i+2)).length=i+2:=by rw[Bi];omega
   rw[hY,hW1,hk,AR (W.take (i+2)),BL (by omega),CL,BE (by omega),tW,Cm,e2,B7,Ch,A9 (by omega:(W.take (i+2)).length≤i+2),Be,A9 (by omega:W.length≤i+2+(n-j)),AK]
  have hcap2:(n+1≤cap)=True:=eq_true (by omega)
  repeat(first|((first|refine sA hL hn rfl ?_|refine sB hL hn rfl ?_);simp only[go_sem,reduceEqDiff,reduceCtorEq])|((first|refine sC ?_|refine sH ?_|refine sI ?_|refine sJ ?_);try simp only[ap])|refine sD ?_|refine sE ?_|refine sF rfl ?_|refine sG rfl ?_)
  refine aa.xone hL (by rw[hn];rfl) ?_;simp only[fY,fH,go_sem,reduceEqDiff,reduceCtorEq,a2,lW,b7,b8,z1,z2,hcap2,or_true];refine(?_:aa C _ _ _ _)
  refine aa.ghost (ai.unx 86 rfl) ?_
  refine aa.ghost (ai.unx 0 rfl) ?_
  refine aa.weak' (l:=[(0,.sl id (n+1) 0 n),(1,.int .i64 (i:Int)),(2,.int .i64 (j:Int)),(3,.sl J g 0 2),(10,.int .i64 ((n+1:Nat):Int)),(86,.sl id (n+1) 0 (n+1))]) (by exact⟨rfl,rfl,rfl,rfl,rfl,rfl,trivial⟩) ?_
  repeat refine SW.seq ?_
  try refine SW.region ?_
  repeat(refine aa.one hL (by rw[hn];rfl) ?_;simp only[go_sem,reduceEqDiff,reduceCtorEq];refine(?_:aa C _ _ _ _))
  refine aa.nil ?_
  simp only[ap]
  repeat(first|((first|refine sA hL hn rfl ?_|refine sB hL hn rfl ?_);simp only[go_sem,reduceEqDiff,reduceCtorEq,aw,a2,lW,b9,b11,w1',d3,z1])|((first|refine sC ?_|refine sH ?_|refine sI ?_|refine sJ ?_);try simp only[ap])|refine sD ?_|refine sE ?_|refine sF rfl ?_|refine sG rfl ?_)
  refine aa.op (d:=.bool false) (ob':=s1 σ id (.arr 91 2 W)) ?_ (fun t ht=>?_) ?_ ?_
  ·rfl
  ·cases ht;rw[hn];decide
  ·exact ar.overlaps hL rfl rfl rfl (by rw[hP];exact zD) L86 L91 rfl rfl (fun h=>hne h.symm) (a2 _) (a3 _) lW.symm hg.symm (by decide) (.inl (by omega)) (by omega) (by have:2≤VV.length:=(by rw[hVk,Bi] at hk;omega);omega) (by decide) (.inl (by decide))
  refine aa.weak' (l:=[(0,.sl id (n+1) 0 n),(1,.int .i64 (i:Int)),(2,.int .i64 (j:Int)),(3,.sl J g 0 2),(12,.sl id (n+1) 0 (n+1)),(119,.bool false)]) (by exact⟨rfl,rfl,rfl,rfl,rfl,rfl,trivial⟩) ?_
  repeat refine SW.seq ?_
  try refine SW.region ?_
  repeat(refine aa.one hL (by rw[hn];rfl) ?_;simp only[go_sem,reduceEqDiff,reduceCtorEq];refine(?_:aa C _ _ _ _))
  refine aa.nil ?_
  simp only[ap]
  repeat(first|((first|refine sA hL hn rfl ?_|refine sB hL hn rfl ?_);simp only[go_sem,CH,Cq,CZ,reduceAdd,reduceEqDiff,reduceIte,reduceSub,Bv,reduceMul,reduceLeDiff,reduceCtorEq])|((first|refine sC ?_|refine sH ?_|refine sI ?_|refine sJ ?_);try simp only[ap,aY,cx,bP,if_true,if_false,reduceEqDiff])|refine sD ?_|refine sE ?_|refine sF rfl ?_|refine sG rfl ?_)
  refine SW.keep [(0,.sl id (n+1) 0 n),(1,.int .i64 (i:Int)),(2,.int .i64 (j:Int)),(3,.sl J g 0 2),(12,.sl id (n+1) 0 (n+1))] (by exact⟨rfl,rfl,rfl,rfl,rfl,trivial⟩) ?_
  obtain⟨M1,hM1⟩:∃M1,M1=s1 σ id (.arr 91 2 W):=⟨_,rfl⟩
  obtain⟨M2,hM2⟩:∃M2,M2=s1 σ id (.arr 91 2 W1):=⟨_,rfl⟩
  have k1:M1[id]?=some (.arr 91 2 W):=by rw[hM1];exact a2 _
  have k2:M1[J]?=some (.arr 91 2 VV):=by rw[hM1];exact a3 _
  have b12:au none n n=some n:=rfl
  rw[←hM1,←hM2] at c1
  rw[←hM1]
  first|refine sL hL hm hn di57_22 [M1,M2] rfl rfl rfl ?_|refine sM hL hm hn di57_22 [M1,M2] rfl rfl rfl ?_
  unfold di57_22
  repeat(rw[ah];simp (maxSteps:=2000000) only[go_sem,reduceEqDiff,reduceCtorEq,aw,k1,lW,b5,b6,b9,b11,w1',z1,c1,v5,v7,oXd',tWj])
  try rw[aj]
  try simp only[go_sem]
  subst hM2
  repeat(first|((first|refine sA hL hn rfl ?_|refine sB hL hn rfl ?_);simp only[go_sem,reduceEqDiff,reduceCtorEq,aw,a2,a3,lW1,b9,b10,z1,g1,v1,v3,v6,oV',c2])|((first|refine sC ?_|refine sH ?_|refine sI ?_|refine sJ ?_);try simp only[ap])|refine sD ?_|refine sE ?_|refine sF rfl ?_|refine sG rfl ?_)
  exact⟨_,_,_,ai.refl _ _,rfl,ag.refl _ _ _,rfl⟩
def ef (ps:List Pg) (at_:Int):List UInt8:=((ps[(at_-1).toNat]?).getD (0,[])).2
def cM (ps0:List Pg) (ps:List Pg):Prop:=∀(i:Nat) (p:Pg),ps0[i]?=some p→0<p.2.length→ps[i]?=some p
theorem cM.refl (ps:List Pg):cM ps ps:=fun _ _ h _=>h
theorem kf:∀(m:Nat){ps:List Pg}{n i:Nat}{p:Pg},ps.length-n=m→br ps n=i→ps[i]?=some p→p.2.length=0
 |m,ps,n,i,p,hm,h,hp=>by
  rcases Bp n ps.length with hlt|hge
  ·obtain⟨r,hr⟩:∃r,ps[n]?=some r:=⟨_,AI hlt⟩
   by_cases h0:0<r.2.length
   ·match m,hm with
    |0,hm=>omega
    |m+1,hm=>exact kf m (n:=n+1) (by omega) (by rw[jo hr h0];exact h) hp
   ·have h0:r.2.length=0:=by omega
    rw[jq hr h0] at h
    subst h
    rw[hr] at hp
    cases hp
    exact h0
  ·rw[ow hge] at h
   subst h
   rw[BA hge] at hp
   cases hp
theorem rh{ps:List Pg}{n i:Nat}{p:Pg} (h:br ps n=i) (hp:ps[i]?=some p):p.2.length=0:=kf _ rfl h hp
theorem cM.page{ps0:List Pg}{w w':Wr}{body:List UInt8}{k:Nat} (h:cM ps0 w.ps) (hw:w.ok) (hp:cP w body=some (k,w')):cM ps0 w'.ps:=by
 unfold cP at hp
 split at hp<;>cases hp
 intro i p h0 hl
 have hi:=h i p h0 hl
 have hlt:=(AH.1 hi).1
 show(dl w.ps w.n body)[i]?=some p
 unfold dl
 split
 ·rw[AJ hlt];exact hi
 ·have hne:br w.ps w.n≠i:=fun e=>by
   have:=rh e hi
   omega
  rw[A6 hne];exact hi
theorem rt:(av []).2≠0:=by decide
theorem cM.at{ps0 ps:List Pg}{at_:Int} (h:cM ps0 ps) (h1:0<at_) (h2:at_≤(ps0.length:Int)) (hd:(av (ef ps0 at_)).2=0):ef ps at_=ef ps0 at_∧at_≤(ps.length:Int):=by
 have hlt:(at_-1).toNat<ps0.length:=by omega
 obtain⟨p,hp⟩:∃p,ps0[(at_-1).toNat]?=some p:=⟨_,AI hlt⟩
 have e0:ef ps0 at_=p.2:=by unfold ef;rw[hp];rfl
 have hl:0<p.2.length:=by
  rw[e0] at hd
  cases hq:p.2 with
  |nil=>rw[hq] at hd;exact absurd hd rt
  |cons x r=>simp
 have:=h _ _ hp hl
 have hlt2:=(AH.1 this).1
 exact⟨by rw[e0];unfold ef;rw[this];rfl,by omega⟩
theorem eg{ps0:List Pg}:∀(bs:List (List UInt8×Int)) (w:Wr) (l l':List aE) (w':Wr),w.ok→cM ps0 w.ps→dV w bs l=some (l',w')→w'.ok∧cM ps0 w'.ps∧l'.length=l.length+bs.length
 | [],w,l,l',w',hw,hk,h=>by cases h;exact⟨hw,hk,rfl⟩
 |b::r,w,l,l',w',hw,hk,h=>by
  simp only[dV] at h
  cases hp:cP w b.1 with
  |none=>rw[hp] at h;cases h
  |some q=>
   obtain⟨k,w1⟩:=q
   rw[hp] at h
   obtain⟨a1,a2,a3⟩:=eg r w1 _ l' w' (qx hw hp) (hk.page hw hp) h
   refine⟨a1,a2,?_⟩
   rw[a3]
   simp only[AP,A5,Bj]
   omega
end Go.VL
