/- Proved: TreeOwn: whatever tree, root and item come in (together of bulk at most 1048576), the call returns true and they read as they did; no other condition. This text is part 9 of 18. -/
import Derived.Test.YtghomgiklhbjiaaW08
set_option linter.unusedSimpArgs false
set_option linter.unusedVariables false
set_option maxRecDepth 10000
set_option maxHeartbeats 4000000
open List renaming all_eq_true → AS,drop_eq_getElem_cons → BW,drop_of_length_le → Cp,getElem?_eq_getElem → AI,getElem?_map → AQ,getElem_mem → BS,length_append → AP,length_cons → A5,length_map → AN,length_nil → Bj,length_set → Ci,map_append → B8,range → Bs,set_append_left → Bo,take_append_getElem → BN,take_length → Co
open Nat renaming mul_one → Dk,pow_succ → DH,zero_add → Bc
open Bool renaming false_eq_true → Bb
namespace Go.VL
open Go Go.Proofs
open Nat (reduceAdd reduceEqDiff reduceSub reduceMul reduceLeDiff)
def di47_7:List DI:=[⟨[3],[],false,[0],some 72,[]⟩,⟨[72],[0],false,[0],some 73,[0]⟩,⟨[73],[0,1],false,[0],some 74,[1]⟩,⟨[13,74],[0,1,2],false,[0],some 75,[2]⟩,⟨[74,75],rg 0 4,false,[0],some 76,[3,2]⟩,⟨[3,74],[0,1,2],false,[0],some 77,[2]⟩,⟨[74,77],[0,1,2,5],false,[0],some 78,[5,2]⟩,⟨[74,78],[0,1,2,5,6],false,[0],some 79,[6,2]⟩,⟨[74,76,79],rg 0 8,false,[0],some 80,[4,7,2]⟩,⟨[74,80],rg 0 9,false,[0],some 81,[2,8]⟩,⟨[81],rg 0 10,false,[0],some 82,[9,2]⟩,⟨[4,82],rg 0 11,false,[0],some 83,[10]⟩,⟨[82,83],rg 0 12,false,[0],some 84,[11,10]⟩,⟨[82,84],rg 0 13,false,[0],some 85,[12,10,10]⟩,⟨[13,85],rg 0 14,false,[0],some 86,[13]⟩,⟨[85,86],rg 0 15,false,[0],some 87,[14,13]⟩,⟨[4,85],rg 0 14,false,[0],some 88,[13]⟩,⟨[85,88],(rg 0 14++[16]),false,[0],some 89,[16,13]⟩,⟨[85,89],(rg 0 14++[16,17]),false,[0],some 90,[17,13]⟩,⟨[85,87,90],rg 0 19,false,[0],some 91,[15,18,13]⟩,⟨[82,85,91],rg 0 20,false,[0],some 92,[13,19,10]⟩,⟨[82,92],rg 0 21,false,[0],some 93,[10,20]⟩,⟨[93],rg 0 22,true,[],some 94,[21,13]⟩]
def di47_12:List DI:=[⟨[0],[],false,[0,1],some 118,[]⟩,⟨[0],[],false,[0],some 119,[]⟩,⟨[119],[1],false,[0],some 120,[1]⟩,⟨[120],[1,2],false,[0],some 121,[2]⟩,⟨[121],[1,2,3],false,[0],some 122,[3]⟩,⟨[10],[],false,[0],some 123,[]⟩,⟨[123],[5],false,[0],some 124,[5]⟩,⟨[122,124],rg 1 6,true,[],some 125,[4,6]⟩,⟨[118],rg 0 8,false,[1],some 126,([0]++rg 0 8)⟩,⟨[126],rg 0 9,false,[1],some 127,([8]++rg 0 8)⟩,⟨[125,127],rg 0 10,true,[],none,([9,7,7]++rg 0 8)⟩]
theorem lx (bs:List UInt8):(av bs).1.1.length≤3∧(av bs).1.2.length≤4:=by
 by_cases h:(av bs).2=0
 ·have:av bs=(cV (cv bs).1,0):=by
   unfold av at h⊢
   split
   ·rename_i h1;rw[if_pos h1] at h;cases h
   ·rename_i h1
    rw[if_neg h1] at h
    split
    ·rename_i h2;rw[if_pos h2] at h;exact absurd h h2
    ·rename_i h2
     rw[if_neg h2] at h
     split
     ·rename_i h3;rw[if_pos h3] at h;cases h
     ·rename_i h3
      rw[if_neg h3] at h
      split
      ·rename_i h4;rw[if_pos h4] at h;cases h
      ·rfl
  rw[this]
  exact nW _
 ·rw[ly h];simp
theorem iX{bs:List UInt8} (h:(av bs).2=0):bM (av bs).1.1 (av bs).1.2=0:=by
 unfold av at h⊢
 split
 ·rename_i h1;rw[if_pos h1] at h;cases h
 ·rename_i h1
  rw[if_neg h1] at h
  split
  ·rename_i h2;rw[if_pos h2] at h;exact absurd h h2
  ·rename_i h2
   rw[if_neg h2] at h
   split
   ·rename_i h3;rw[if_pos h3] at h;cases h
   ·rename_i h3
    rw[if_neg h3] at h
    split
    ·rename_i h4;rw[if_pos h4] at h;cases h
    ·rename_i h4
     simp only
     apply Classical.byContradiction
     intro hq
     apply h4
     left
     unfold bl
     rw[if_pos hq]
     exact hq
theorem oq{rec:Int→Option Int→Option Int→WS→WS×Bool}{B:Nat} (hr:∀k lo hi w,(rec k lo hi w).1.items.length≤w.items.length+B) (xs:List It) (lo hi:Option Int):∀(ks:List Int) (i:Nat) (w:WS),
  (d8 rec xs lo hi ks i w).1.items.length≤w.items.length+B*ks.length
 | [],_,w=>by simp[d8]
 |k::r,i,w=>by
  have h1:=hr k (if 0<i then(xs[i-1]?).map (·.1) else lo) (if i<xs.length then(xs[i]?).map (·.1) else hi) w
  simp only[d8,A5]
  revert h1
  generalize rec k (if 0<i then(xs[i-1]?).map (·.1) else lo) (if i<xs.length then(xs[i]?).map (·.1) else hi) w=q
  intro h1
  have e:B*(r.length+1)=B*r.length+B:=by rw[Nat.mul_add,Dk]
  rw[e]
  split
  ·have h2:=oq hr xs lo hi r (i+1) q.1
   omega
  ·show q.1.items.length≤_
   omega
theorem n9 (ps:List Pg):∀(n:Nat) (at_ level:Int) (lo hi:Option Int) (w:WS),(bX ps n at_ level lo hi w).1.items.length≤w.items.length+3*4^n
 |0,_,_,_,_,w=>by simp[bX]
 |n+1,at_,level,lo,hi,w=>by
  have hd:=lx ((ps[(at_-1).toNat]?).getD (0,[])).2
  have hp:4^(n+1)=4^n*4:=DH ..
  have hp0:0<4^n:=Nat.pow_pos (by omega)
  simp only[bX]
  split
  ·split
   ·simp only;omega
   ·split
    ·simp only;omega
    ·split
     ·split
      ·simp only[AP];omega
      ·simp only;omega
     ·have:=oq (B:=3*4^n) (fun k a b w=>n9 ps n k (level+1) a b w) (av ((ps[(at_-1).toNat]?).getD (0,[])).2).1.1 lo hi (av ((ps[(at_-1).toNat]?).getD (0,[])).2).1.2 0 ⟨w.met++[at_],w.items,w.leaf⟩
      simp only at this
      have h4:3*4^n*(av ((ps[(at_-1).toNat]?).getD (0,[])).2).1.2.length≤3*4^n*4:=Nat.mul_le_mul_left _ hd.2
      omega
  ·simp only;omega
theorem nJ{σ:List Ob}{a b i:Nat} (h3:Three σ a b i) (c:Nat) (ps:List Pg) (w:WS) (l:List Ob):wS (σ++l) a b i c ps w=wS σ a b i c ps w++l:=by
 unfold wS s3
 rw[Bo _ _ h3.la,Bo _ _ (by rw[Ci];exact h3.lb),Bo _ _ (by rw[Ci,Ci];exact h3.lc)]
theorem Three.append{σ:List Ob}{a b i:Nat} (h:Three σ a b i) (l:List Ob):Three (σ++l) a b i:=by
 have h1:=h.la
 have h2:=h.lb
 have h4:=h.lc
 exact⟨by rw[AP];omega,by rw[AP];omega,by rw[AP];omega,h.ab,h.ac,h.bc⟩
theorem jL{w:World}{F:Nat→Nat→Prop}{μ:Nat→Option Nat}{σ:List Ob}{c:Nat}{a b:DV}{v:Value} (h:Rep w F μ σ (.vptr c [a,b]) v):Rep w F μ σ (.vptr c [a]) v:=by
 cases h with
 |vptr u hF hu hr=>
  refine .vptr u hF (fun i hi=>hu i (by simp at hi⊢;omega)) fun i d hd=>?_
  match i,hd with
  |0,hd=>exact hr 0 d hd
  |i+1,hd=>simp at hd
theorem tQ{P:Program}{f:FuncId}{x y z l m l' m':DV}{σ σ':List Ob}{o:Out} (h:Ok P f [x,y,z,l,m] σ o σ') (h1:∀(w:World) (F:Nat→Nat→Prop) (μ:Nat→Option Nat) (v:Value),Rep w F μ σ l' v→Rep w F μ σ l v)
  (h2:∀(w:World) (F:Nat→Nat→Prop) (μ:Nat→Option Nat) (v:Value),Rep w F μ σ m' v→Rep w F μ σ m v):Ok P f [x,y,z,l',m'] σ o σ':=
 h.less rfl fun w F μ i d d' v hd hd' hv=>by
  match i,hd,hd' with
  |0,hd,hd'=>cases hd;cases hd';exact hv
  |1,hd,hd'=>cases hd;cases hd';exact hv
  |2,hd,hd'=>cases hd;cases hd';exact hv
  |3,hd,hd'=>cases hd;cases hd';exact h1 w F μ v hv
  |4,hd,hd'=>cases hd;cases hd';exact h2 w F μ v hv
  |i+5,hd,_=>simp at hd
theorem yg (c:Nat) (ps:List Pg) (hps:ps.length≤2048) (a b i:Nat):∀(n:Nat) (σ:List Ob),Three σ a b i→∀(at_ level:Int) (lo hi:Option Int) (w:WS),level+n=17→0≤level→w.items.length+3*4^n≤1000000000000→
  Ok Try.prog 47 [.ptr a 1 0 0,.int .i64 at_,.int .i64 level,pD lo,pD hi] (wS σ a b i c ps w)
   (if(bX ps n at_ level lo hi w).2=true then .ret (.tup []) else .pan (be 9)) (wS σ a b i c ps (bX ps n at_ level lo hi w).1):=by
 intro n
 induction n with
 |zero=>
  intro σ h3 at_ level lo hi w hlev hlev0 hit
  simp only[bX,Bb,if_false]
  exact mL c ps hps σ a b i h3 at_ level lo hi w (by omega)
 |succ n ih=>
  intro σ h3 at_ level lo hi w hlev hlev0 hit
  by_cases hc:level≤16∧at_>0∧at_≤(ps.length:Int)∧at_∉w.met
  rotate_left
  ·simp only[bX,if_neg hc,Bb,if_false]
   exact mL c ps hps σ a b i h3 at_ level lo hi w hc
  obtain⟨w1,hw1⟩:∃w1:WS,w1=⟨w.met++[at_],w.items,w.leaf⟩:=⟨_,rfl⟩
  obtain⟨pg,hpg⟩:∃pg,pg=(ps[(at_-1).toNat]?).getD (0,[]):=⟨_,rfl⟩
  have hdl:=lx pg.2
  obtain⟨dq,hdq⟩:∃dq,dq=av pg.2:=⟨_,rfl⟩
  have hdec:=u9 pg.1 pg.2
  have hnF:bX ps (n+1) at_ level lo hi w=if dq.2≠0 then(w1,false) else if dq.1.1.all (inB lo hi)=false then(w1,false) else if dq.1.2.length=0 then(if w.leaf=0∨w.leaf=level then(⟨w1.met,w.items++dq.1.1,level⟩,true) else(w1,false)) else d8 (fun k a b w=>bX ps n k (level+1) a b w) dq.1.1 lo hi dq.1.2 0 w1:=by
   rw[bX,if_pos hc,hdq,hpg,hw1]
  have hdf:=fun h=>em (iX (bs:=pg.2) h)
  rw[←hdq] at hdl hdec hdf
  obtain⟨⟨xs,ks⟩,e⟩:=dq
  simp only at hdl hdec hnF hdf
  obtain⟨q,hq⟩:∃q,q=bX ps (n+1) at_ level lo hi w:=⟨_,rfl⟩
  rw[←hq] at hnF⊢
  obtain⟨Q,hQ⟩:∃Q,Q=Tid (wS σ a b i c ps w) 0 (fun o O=>o=(if q.2=true then .ret (.tup []) else .pan (be 9))∧O=wS σ a b i c ps q.1):=⟨_,rfl⟩
  have qret:∀(w':WS) (G:List Ob),q=(w',true)→Q (.ret (.tup [])) (wS σ a b i c ps w'++G):=by
   intro w' G h
   rw[hQ]
   exact Tid.ret (tq h3 c ps w w') (.low (by simp[eh])) ⟨by rw[h];rfl,by rw[h]⟩
  have qpan:∀(w':WS) (G:List Ob),q=(w',false)→Q (.pan (be 9)) (wS σ a b i c ps w'++G):=by
   intro w' G h
   rw[hQ]
   exact Tid.pan (tq h3 c ps w w') (.low (by simp[be,dz,ax])) ⟨by rw[h];rfl,by rw[h]⟩
  refine OkE.ok (OkE.tidy (c:=0) (R:=fun o O=>o=(if q.2=true then .ret (.tup []) else .pan (be 9))∧O=wS σ a b i c ps q.1) ?_) (fun o O h=>h)
  rw[←hQ]
  clear hQ
  have hneed:=mP 9
  have hpan:=jZ 9
  obtain⟨hc1,hc2,hc3,hc4⟩:=hc
  obtain⟨X,hX⟩:∃X,X=ps.map ePg:=⟨_,rfl⟩
  have hXl:X.length=ps.length:=by rw[hX,AN]
  obtain⟨D,hD⟩:∃D,D=nE w.met:=⟨_,rfl⟩
  have hfd:=kM at_ w.met 0
  rw[←hD,if_neg hc4] at hfd
  have hko:ls L 3 (.int .i64 at_)=true:=rfl
  obtain⟨kl,hkl⟩:∃kl,kl=w.met.length:=⟨_,rfl⟩
  obtain⟨M1,hM1⟩:∃M1,M1=wM w1:=⟨_,rfl⟩
  have hMe:Ob.oth (.map (Bs kl++[kl]) (kl+1)) (D++[.int .i64 at_,.bool true])=M1:=by
   rw[hM1,hw1,hD,hkl]
   unfold wM
   simp only[AP,A5,Bj,qN,List.range_succ,Bc]
   rfl
  obtain⟨A,hA⟩:∃A,A=xs.map eT:=⟨_,rfl⟩
  obtain⟨K,hK⟩:∃K,K=ks.map eI:=⟨_,rfl⟩
  have hAl:A.length=xs.length:=by rw[hA,AN]
  have hKl:K.length=ks.length:=by rw[hK,AN]
  obtain⟨PB,hPB⟩:∃PB,PB=pg.2.map eB:=⟨_,rfl⟩
  unfold jY at hdec
  rw[←hA,←hK,←hPB] at hdec
  unfold wS wW wM wI pgsD
  obtain⟨N,hN⟩:∃N,N=w.items.length:=⟨_,rfl⟩
  obtain⟨IX,hIX⟩:∃IX,IX=w.items.map eT:=⟨_,rfl⟩
  have hIXl:IX.length=N:=by rw[hIX,hN,AN]
  obtain⟨LF,hLF⟩:∃LF,LF=w.leaf:=⟨_,rfl⟩
  rw[←hX,←hD,←hN,←hIX,←hkl,←hLF]
  have ga:=xW h3
  have gb:=xV h3
  have gc:=zw h3
  have ga0:=fun x y z=>by simpa using xW h3 x y z []
  have gb0:=fun x y z=>by simpa using xV h3 x y z []
  have gc0:=fun x y z=>by simpa using zw h3 x y z []
  have sa:=xT h3
  have sb:=tB h3
  have sc:=xS h3
  have sb0:=fun x y z x'=>by simpa using tB h3 x y z x' []
  obtain⟨nn,hnn⟩:∃nn,nn=σ.length:=⟨_,rfl⟩
  have so:=fun x y z=>rY (a:=a) (b:=b) (c:=i) hnn x y z
  have so0:=fun x y z=>tC (a:=a) (b:=b) (c:=i) hnn x y z
  have ss:=fun x y z=>vW (a:=a) (b:=b) (c:=i) hnn x y z
  have ss0:=fun x y z=>xU (a:=a) (b:=b) (c:=i) hnn x y z
  have sl:∀x y z,(s3 σ a b i x y z).length=nn:=fun x y z=>by rw[hnn];exact bN x y z
  have d1:decide (level≤16)=true:=decide_eq_true hc1
  have d2:decide (at_>0)=true:=decide_eq_true hc2
  have d3:decide (at_≤(ps.length:Int))=true:=decide_eq_true hc3
  have wm1:IntKind.i64.wrap (at_-1)=at_-1:=wi (by omega) rfl
  have e2:(0≤at_-1∧at_-1<(ps.length:Int)):=by omega
  have e3:X[(at_-1).toNat]?.getD .undef=.vec pg.1 1 PB:=by
   have hlt:(at_-1).toNat<ps.length:=by omega
   rw[hX,hPB,hpg]
   rw[AQ,AI hlt]
   rfl
  have hw1e:w1=⟨w1.met,w.items,w.leaf⟩:=by rw[hw1]
  refine OkE.of_body ae Try.func47 rfl (by decide) (by simp[Try.ntmps47]) fun C hP hn hσ hfix hdd=>?_
  rw[show Try.f47.ntmps=164 from rfl] at hn
  have hL:af C.P L:=hP▸ae
  have hm:C.P.follows .mixedOrders=true:=hP▸ao
  repeat refine SW.seq ?_
  try refine SW.region ?_
  repeat(refine aa.one hL (by rw[hn];rfl) ?_;simp only[go_sem,seval,d1,d2,d3,ga0,gb0,hXl,hfd,hko];refine(?_:aa C _ _ _ _))
  refine sK hP hL hn rfl rfl (hneed _) rfl rfl rfl rfl ?_;simp (maxSteps:=2000000) only[go_sem,seval]
  repeat(first|(refine sB hL hn rfl ?_;simp only[go_sem,seval,hMe,ga0,gb0,sb0,nt,hko,hfd,L72,wm1,hXl,e2,e3])|refine sN rfl ?_|refine sC ?_)
  have hS1:s3 σ a b i (Ob.arr 74 4 [.agg [.vec c 1 X,.mp b,.sl i N 0 N,.int .i64 LF]]) M1 (.arr 27 2 IX)=wS σ a b i c ps w1:=by
   rw[hM1,hX,hN,hLF,hIX,hw1];rfl
  refine sK hP hL hn rfl rfl (hdec _) rfl rfl rfl rfl ?_;simp (maxSteps:=2000000) only[go_sem,seval]
  by_cases he:e=0
  rotate_left
  ·rw[if_pos he] at hnF
   have d4:(e==0)=false:=by simpa using he
   repeat(first|(refine sB hL hn rfl ?_;simp only[go_sem,seval,sl,d4])|refine sN rfl ?_|refine sC ?_)
   refine aa.callp hP (by rw[hn];rfl) (hpan _) rfl rfl rfl rfl ?_;simp (maxSteps:=2000000) only[go_sem,seval]
   rw[hS1]
   exact⟨_,_,qpan _ _ hnF,_,ag.refl _ _ _,rfl⟩
  rw[if_neg (by simpa using he)] at hnF
  have d4:(e==0)=true:=by simpa using he
  repeat(first|(refine sB hL hn rfl ?_;simp only[go_sem,seval,sl,d4])|refine sN rfl ?_|refine sC ?_)
  refine sK hP hL hn rfl rfl (hneed _) rfl rfl rfl rfl ?_;simp (maxSteps:=2000000) only[go_sem,seval]
  repeat(first|(refine sB hL hn rfl ?_;simp only[go_sem,seval,so0,hAl])|refine sN rfl ?_|refine sC ?_)
  refine SW.lpg (fun x:Nat×List Ob=>⟨[(0,.ptr a 1 0 0),(2,.int .i64 level),(3,pD lo),(4,pD hi),(10,.ptr nn 1 0 0),(66,.vec 0 2 A),(67,.int .i64 xs.length),(68,.int .i64 x.1)],s3 σ a b i (Ob.arr 74 4 [.agg [.vec c 1 X,.mp b,.sl i N 0 N,.int .i64 LF]]) M1 (.arr 27 2 IX)++(Ob.arr 95 2 [.agg [.vec 0 2 A,.vec 0 1 K]]::x.2)⟩) (fun x=>xs.length-x.1) (fun x=>x.1≤xs.length∧(xs.take x.1).all (inB lo hi)=true) (0,[]) ⟨by simp,rfl⟩ (.of rfl (by simp[aC,lk])) ?_
  rintro⟨k,T⟩ ⟨hk,hall⟩
  simp only at hk hall
  by_cases hlt:k<xs.length
  ·have e1:decide ((k:Int)<(xs.length:Int))=true:=decide_eq_true (by omega)
   have e4:(0≤(k:Int)∧(k:Int)<(xs.length:Int)):=by omega
   obtain⟨p,hp⟩:∃p,p=xs[k]'hlt:=⟨_,rfl⟩
   have htk:(xs.take (k+1)).all (inB lo hi)=inB lo hi p:=by
    rw[←BN hlt,List.all_append,hall,←hp];simp
   have hpm:p∈xs:=by rw[hp];exact BS hlt
   obtain⟨p1,p2⟩:=p
   have e5:A[k]?.getD .undef=.agg [.int .u64 p1,.int .u64 p2]:=by rw[hA];simp[hlt,eT,←hp]
   have w2:IntKind.i64.wrap ((k:Int)+1)=((k+1:Nat):Int):=wi (by omega) (by omega)
   have gT:∀x:Ob,(T++[x])[T.length]?=some x:=fun x=>by simp
   have sT:∀x y:Ob,(T++[x]).set T.length y=T++[y]:=fun x y=>by simp
   repeat(first|(refine sB hL hn rfl ?_;simp only[go_sem,seval,hAl,e4,e5,so,ss,sl,gT,sT])|refine sN rfl ?_|refine sC ?_)
   have hbad:inB lo hi (p1,p2)=false→xs.all (inB lo hi)=false:=fun h=>by
    apply Classical.byContradiction
    intro h2
    have h3:xs.all (inB lo hi)=true:=by simpa using h2
    rw[AS] at h3
    rw[h3 _ hpm] at h
    cases h
   have qpan':∀G,q=(w1,false)→Q (.pan (be 9)) (s3 σ a b i (Ob.arr 74 4 [.agg [.vec c 1 X,.mp b,.sl i N 0 N,.int .i64 LF]]) M1 (.arr 27 2 IX)++G):=fun G h=>by rw[hS1];exact qpan _ _ h
   cases lo with
   |none=>
    cases hi with
    |none=>
     have hb:inB none none (p1,p2)=true:=by simp[inB]
     refine(?_:SW C _ _ _);refine sM hL hm hn di47_7 [s3 σ a b i (Ob.arr 74 4 [.agg [.vec c 1 X,.mp b,.sl i N 0 N,.int .i64 LF]]) M1 (.arr 27 2 IX)++(Ob.arr 95 2 [.agg [.vec 0 2 A,.vec 0 1 K]]::(T++[Ob.arr 27 2 [.agg [.int .u64 p1,.int .u64 p2]]])),s3 σ a b i (Ob.arr 74 4 [.agg [.vec c 1 X,.mp b,.sl i N 0 N,.int .i64 LF]]) M1 (.arr 27 2 IX)++(Ob.arr 95 2 [.agg [.vec 0 2 A,.vec 0 1 K]]::(T++[Ob.arr 27 2 [.agg [.int .u64 p1,.int .u64 p2]]]))] rfl rfl rfl ?_
     unfold di47_7
     repeat(rw[ah];simp (maxSteps:=2000000) only[go_sem,seval,pD])
     try rw[aj]
     try simp only[go_sem,seval,pD,so,so0,ss,ss0,sl,gT,sT]
     refine aI.effx hP (hneed _) rfl rfl rfl rfl ?_;simp (maxSteps:=2000000) only[go_sem,seval,aj]
     repeat(first|(refine sB hL hn rfl ?_;simp only[go_sem,seval,w2])|refine sN rfl ?_|refine sC ?_)
     exact Lp.nextg (k+1,T++[Ob.arr 27 2 [.agg [.int .u64 p1,.int .u64 p2]]]) ⟨by show k+1≤_;omega,by show(xs.take (k+1)).all _=true;rw[htk,hb]⟩ (by show xs.length-(k+1)<_;omega) (.of rfl (by simp[aC,lk]))
    |some h=>
     cases hB:decide (p1<h)
     ·have hb:inB none (some h) (p1,p2)=false:=by simp[inB,hB]
      rw[if_pos (hbad hb)] at hnF
      refine(?_:SW C _ _ _);refine sM hL hm hn di47_7 [s3 σ a b i (Ob.arr 74 4 [.agg [.vec c 1 X,.mp b,.sl i N 0 N,.int .i64 LF]]) M1 (.arr 27 2 IX)++(Ob.arr 95 2 [.agg [.vec 0 2 A,.vec 0 1 K]]::(T++[Ob.arr 27 2 [.agg [.int .u64 p1,.int .u64 p2]]])),s3 σ a b i (Ob.arr 74 4 [.agg [.vec c 1 X,.mp b,.sl i N 0 N,.int .i64 LF]]) M1 (.arr 27 2 IX)++(Ob.arr 95 2 [.agg [.vec 0 2 A,.vec 0 1 K]]::(T++[Ob.arr 27 2 [.agg [.int .u64 p1,.int .u64 p2]]]))] rfl rfl rfl ?_
      unfold di47_7
      repeat(rw[ah];simp (maxSteps:=2000000) only[go_sem,seval,pD,so,gT,hB])
      try rw[aj]
      try simp only[go_sem,seval,pD,so,so0,ss,ss0,sl,gT,sT,hB]
      refine aI.panx hP (hpan _) rfl rfl rfl rfl rfl ?_;simp (maxSteps:=2000000) only[go_sem,seval]
      exact⟨_,_,qpan' _ hnF,_,ag.refl _ _ _,rfl⟩
     ·have hb:inB none (some h) (p1,p2)=true:=by simp[inB,hB]
      refine(?_:SW C _ _ _);refine sM hL hm hn di47_7 [s3 σ a b i (Ob.arr 74 4 [.agg [.vec c 1 X,.mp b,.sl i N 0 N,.int .i64 LF]]) M1 (.arr 27 2 IX)++(Ob.arr 95 2 [.agg [.vec 0 2 A,.vec 0 1 K]]::(T++[Ob.arr 27 2 [.agg [.int .u64 p1,.int .u64 p2]]])),s3 σ a b i (Ob.arr 74 4 [.agg [.vec c 1 X,.mp b,.sl i N 0 N,.int .i64 LF]]) M1 (.arr 27 2 IX)++(Ob.arr 95 2 [.agg [.vec 0 2 A,.vec 0 1 K]]::(T++[Ob.arr 27 2 [.agg [.int .u64 p1,.int .u64 p2]]]))] rfl rfl rfl ?_
      unfold di47_7
      repeat(rw[ah];simp (maxSteps:=2000000) only[go_sem,seval,pD,so,gT,hB])
      try rw[aj]
      try simp only[go_sem,seval,pD,so,so0,ss,ss0,sl,gT,sT,hB]
      refine aI.effx hP (hneed _) rfl rfl rfl rfl ?_;simp (maxSteps:=2000000) only[go_sem,seval,aj]
      repeat(first|(refine sB hL hn rfl ?_;simp only[go_sem,seval,w2])|refine sN rfl ?_|refine sC ?_)
      exact Lp.nextg (k+1,T++[Ob.arr 27 2 [.agg [.int .u64 p1,.int .u64 p2]]]) ⟨by show k+1≤_;omega,by show(xs.take (k+1)).all _=true;rw[htk,hb]⟩ (by show xs.length-(k+1)<_;omega) (.of rfl (by simp[aC,lk]))
   |some l=>
    cases hA':decide (p1≥l)
    ·have hb:inB (some l) hi (p1,p2)=false:=by simp[inB,hA']
     rw[if_pos (hbad hb)] at hnF
     refine(?_:SW C _ _ _);refine sM hL hm hn di47_7 [s3 σ a b i (Ob.arr 74 4 [.agg [.vec c 1 X,.mp b,.sl i N 0 N,.int .i64 LF]]) M1 (.arr 27 2 IX)++(Ob.arr 95 2 [.agg [.vec 0 2 A,.vec 0 1 K]]::(T++[Ob.arr 27 2 [.agg [.int .u64 p1,.int .u64 p2]]])),s3 σ a b i (Ob.arr 74 4 [.agg [.vec c 1 X,.mp b,.sl i N 0 N,.int .i64 LF]]) M1 (.arr 27 2 IX)++(Ob.arr 95 2 [.agg [.vec 0 2 A,.vec 0 1 K]]::(T++[Ob.arr 27 2 [.agg [.int .u64 p1,.int .u64 p2]]]))] rfl rfl rfl ?_
     unfold di47_7
     repeat(rw[ah];simp (maxSteps:=2000000) only[go_sem,seval,pD,so,gT,hA'])
     try rw[aj]
     try simp only[go_sem,seval,pD,so,so0,ss,ss0,sl,gT,sT,hA']
     refine aI.panx hP (hpan _) rfl rfl rfl rfl rfl ?_;simp (maxSteps:=2000000) only[go_sem,seval]
     exact⟨_,_,qpan' _ hnF,_,ag.refl _ _ _,rfl⟩
    ·cases hi with
     |none=>
      have hb:inB (some l) none (p1,p2)=true:=by simp[inB,hA']
      refine(?_:SW C _ _ _);refine sM hL hm hn di47_7 [s3 σ a b i (Ob.arr 74 4 [.agg [.vec c 1 X,.mp b,.sl i N 0 N,.int .i64 LF]]) M1 (.arr 27 2 IX)++(Ob.arr 95 2 [.agg [.vec 0 2 A,.vec 0 1 K]]::(T++[Ob.arr 27 2 [.agg [.int .u64 p1,.int .u64 p2]]])),s3 σ a b i (Ob.arr 74 4 [.agg [.vec c 1 X,.mp b,.sl i N 0 N,.int .i64 LF]]) M1 (.arr 27 2 IX)++(Ob.arr 95 2 [.agg [.vec 0 2 A,.vec 0 1 K]]::(T++[Ob.arr 27 2 [.agg [.int .u64 p1,.int .u64 p2]]]))] rfl rfl rfl ?_
      unfold di47_7
      repeat(rw[ah];simp (maxSteps:=2000000) only[go_sem,seval,pD,so,gT,hA'])
      try rw[aj]
      try simp only[go_sem,seval,pD,so,so0,ss,ss0,sl,gT,sT,hA']
      refine aI.effx hP (hneed _) rfl rfl rfl rfl ?_;simp (maxSteps:=2000000) only[go_sem,seval,aj]
      repeat(first|(refine sB hL hn rfl ?_;simp only[go_sem,seval,w2])|refine sN rfl ?_|refine sC ?_)
      exact Lp.nextg (k+1,T++[Ob.arr 27 2 [.agg [.int .u64 p1,.int .u64 p2]]]) ⟨by show k+1≤_;omega,by show(xs.take (k+1)).all _=true;rw[htk,hb]⟩ (by show xs.length-(k+1)<_;omega) (.of rfl (by simp[aC,lk]))
     |some h=>
      cases hB:decide (p1<h)
      ·have hb:inB (some l) (some h) (p1,p2)=false:=by simp[inB,hA',hB]
       rw[if_pos (hbad hb)] at hnF
       refine(?_:SW C _ _ _);refine sM hL hm hn di47_7 [s3 σ a b i (Ob.arr 74 4 [.agg [.vec c 1 X,.mp b,.sl i N 0 N,.int .i64 LF]]) M1 (.arr 27 2 IX)++(Ob.arr 95 2 [.agg [.vec 0 2 A,.vec 0 1 K]]::(T++[Ob.arr 27 2 [.agg [.int .u64 p1,.int .u64 p2]]])),s3 σ a b i (Ob.arr 74 4 [.agg [.vec c 1 X,.mp b,.sl i N 0 N,.int .i64 LF]]) M1 (.arr 27 2 IX)++(Ob.arr 95 2 [.agg [.vec 0 2 A,.vec 0 1 K]]::(T++[Ob.arr 27 2 [.agg [.int .u64 p1,.int .u64 p2]]]))] rfl rfl rfl ?_
       unfold di47_7
       repeat(rw[ah];simp (maxSteps:=2000000) only[go_sem,seval,pD,so,gT,hA',hB])
       try rw[aj]
       try simp only[go_sem,seval,pD,so,so0,ss,ss0,sl,gT,sT,hA',hB]
       refine aI.panx hP (hpan _) rfl rfl rfl rfl rfl ?_;simp (maxSteps:=2000000) only[go_sem,seval]
       exact⟨_,_,qpan' _ hnF,_,ag.refl _ _ _,rfl⟩
      ·have hb:inB (some l) (some h) (p1,p2)=true:=by simp[inB,hA',hB]
       refine(?_:SW C _ _ _);refine sM hL hm hn di47_7 [s3 σ a b i (Ob.arr 74 4 [.agg [.vec c 1 X,.mp b,.sl i N 0 N,.int .i64 LF]]) M1 (.arr 27 2 IX)++(Ob.arr 95 2 [.agg [.vec 0 2 A,.vec 0 1 K]]::(T++[Ob.arr 27 2 [.agg [.int .u64 p1,.int .u64 p2]]])),s3 σ a b i (Ob.arr 74 4 [.agg [.vec c 1 X,.mp b,.sl i N 0 N,.int .i64 LF]]) M1 (.arr 27 2 IX)++(Ob.arr 95 2 [.agg [.vec 0 2 A,.vec 0 1 K]]::(T++[Ob.arr 27 2 [.agg [.int .u64 p1,.int .u64 p2]]]))] rfl rfl rfl ?_
       unfold di47_7
       repeat(rw[ah];simp (maxSteps:=2000000) only[go_sem,seval,pD,so,gT,hA',hB])
       try rw[aj]
       try simp only[go_sem,seval,pD,so,so0,ss,ss0,sl,gT,sT,hA',hB]
       refine aI.effx hP (hneed _) rfl rfl rfl rfl ?_;simp (maxSteps:=2000000) only[go_sem,seval,aj]
       repeat(first|(refine sB hL hn rfl ?_;simp only[go_sem,seval,w2])|refine sN rfl ?_|refine sC ?_)
       exact Lp.nextg (k+1,T++[Ob.arr 27 2 [.agg [.int .u64 p1,.int .u64 p2]]]) ⟨by show k+1≤_;omega,by show(xs.take (k+1)).all _=true;rw[htk,hb]⟩ (by show xs.length-(k+1)<_;omega) (.of rfl (by simp[aC,lk]))
  ·have e1:decide ((k:Int)<(xs.length:Int))=false:=decide_eq_false (by omega)
   obtain rfl:k=xs.length:=by omega
   rw[Co] at hall
   rw[if_neg (by rw[hall];simp)] at hnF
   by_cases hk0:ks.length=0
   ·rw[if_pos hk0] at hnF
    have d5:(((ks.length:Nat):Int)==0)=true:=by rw[hk0];rfl
    rw[←hLF] at hnF
    by_cases hlf:LF=0∨LF=level
    ·rw[if_pos hlf] at hnF
     have d6:((LF==0)=true)∨((LF==0)=false∧(LF==level)=true):=by
      by_cases h:LF=0
      ·left;simpa using h
      ·right;exact⟨by simpa using h,by simpa using hlf.resolve_left h⟩
     have hfin:s3 σ a b i (Ob.arr 74 4 [.agg [.vec c 1 X,.mp b,.sl i (N+xs.length) 0 (N+xs.length),.int .i64 level]]) M1 (.arr 27 2 (IX++A))=wS σ a b i c ps ⟨w1.met,w.items++xs,level⟩:=by
      have hwm:wM ⟨w1.met,w.items++xs,level⟩=wM w1:=rfl
      unfold wS
      rw[hwm,hM1,hX,hN,hIX,hA]
      unfold wW wI pgsD
      simp only[AP,B8]
     have aA:(A.all fun y=>y.cells.all DV.one)=true:=by rw[hA];exact xr xs
     simp only[DV.cells] at aA
     have hNb:N≤1000000000000:=by omega
     have hcap:((N+xs.length)*16≤140737488355328)=True:=eq_true (by omega)
     have hx1:=(hdf he).1
     have gz:(xs.length=0)=False:=eq_false (by omega)
     rcases d6 with d6|⟨d6,d7⟩
     rotate_left
     repeat(first|(refine sB hL hn rfl ?_;simp only[go_sem,seval,e1,so0,hKl,d5,d6,d7,ga])|refine sN rfl ?_|refine sC ?_)
     rotate_left
     repeat(first|(refine sB hL hn rfl ?_;simp only[go_sem,seval,e1,so0,hKl,d5,d6,ga])|refine sN rfl ?_|refine sC ?_)
     all_goals
      refine sK hP hL hn rfl rfl (hneed _) rfl rfl rfl rfl ?_;simp (maxSteps:=2000000) only[go_sem,seval]
      repeat(first|(refine sB hL hn rfl ?_;simp only[go_sem,seval,ga,sa])|refine sN rfl ?_|refine sC ?_)
      refine(?_:SW C _ _ _);first|refine sL hL hm hn di47_12 [s3 σ a b i (Ob.arr 74 4 [.agg [.vec c 1 X,.mp b,.sl i (N) 0 (N),.int .i64 level]]) M1 (.arr 27 2 (IX))++(Ob.arr 95 2 [.agg [.vec 0 2 A,.vec 0 1 K]]::T),s3 σ a b i (Ob.arr 74 4 [.agg [.vec c 1 X,.mp b,.sl i (N) 0 (N),.int .i64 level]]) M1 (.arr 27 2 (IX++A))++(Ob.arr 95 2 [.agg [.vec 0 2 A,.vec 0 1 K]]::T),s3 σ a b i (Ob.arr 74 4 [.agg [.vec c 1 X,.mp b,.sl i (N+xs.length) 0 (N+xs.length),.int .i64 level]]) M1 (.arr 27 2 (IX++A))++(Ob.arr 95 2 [.agg [.vec 0 2 A,.vec 0 1 K]]::T)] rfl rfl rfl ?_|refine sM hL hm hn di47_12 [s3 σ a b i (Ob.arr 74 4 [.agg [.vec c 1 X,.mp b,.sl i (N) 0 (N),.int .i64 level]]) M1 (.arr 27 2 (IX))++(Ob.arr 95 2 [.agg [.vec 0 2 A,.vec 0 1 K]]::T),s3 σ a b i (Ob.arr 74 4 [.agg [.vec c 1 X,.mp b,.sl i (N) 0 (N),.int .i64 level]]) M1 (.arr 27 2 (IX++A))++(Ob.arr 95 2 [.agg [.vec 0 2 A,.vec 0 1 K]]::T),s3 σ a b i (Ob.arr 74 4 [.agg [.vec c 1 X,.mp b,.sl i (N+xs.length) 0 (N+xs.length),.int .i64 level]]) M1 (.arr 27 2 (IX++A))++(Ob.arr 95 2 [.agg [.vec 0 2 A,.vec 0 1 K]]::T)] rfl rfl rfl ?_
      unfold di47_12
      repeat(rw[ah];simp (maxSteps:=2000000) only[go_sem,seval,ga,gc,so0,aG,aA,hIXl,hAl,hcap,sc,sa])
      try rw[aj]
      try simp only[go_sem,seval]
      repeat(first|(refine sB hL hn rfl ?_;simp only[go_sem,seval])|refine sN rfl ?_|refine sC ?_)
      rw[hfin]
      exact⟨_,_,qret _ _ hnF,_,_,_,ai.refl _ _,rfl,ag.refl _ _ _,rfl⟩
    ·rw[if_neg hlf] at hnF
     have d6:(LF==0)=false:=by simpa using fun h=>hlf (.inl h)
     have d7:(LF==level)=false:=by simpa using fun h=>hlf (.inr h)
     repeat(first|(refine sB hL hn rfl ?_;simp only[go_sem,seval,e1,so0,hKl,d5,d6,d7,ga])|refine sN rfl ?_|refine sC ?_)
     refine aa.callp hP (by rw[hn];rfl) (hpan _) rfl rfl rfl rfl ?_;simp (maxSteps:=2000000) only[go_sem,seval]
     rw[hS1]
     exact⟨_,_,qpan _ _ hnF,_,ag.refl _ _ _,rfl⟩
   ·rw[if_neg hk0] at hnF
    obtain⟨hf1,hf2,hf3,hf4⟩:=hdf he
    have hkx:ks.length=xs.length+1:=by omega
    have d5:(((ks.length:Nat):Int)==0)=false:=beq_eq_false_iff_ne.2 (by omega)
    have soW:∀(w:WS) (l:List Ob) (k:Nat),(wS σ a b i c ps w++l)[nn+k]?=l[k]?:=fun w l k=>rY hnn _ _ _ l k
    have soW0:∀(w:WS) (l:List Ob),(wS σ a b i c ps w++l)[nn]?=l[0]?:=fun w l=>tC hnn _ _ _ l
    have hp4:4^(n+1)=4^n*4:=DH ..
    obtain⟨B,hB⟩:∃B,B=3*4^n:=⟨_,rfl⟩
    have hit1:w1.items.length+B*ks.length≤1000000000000:=by
     have:B*ks.length≤B*4:=Nat.mul_le_mul_left _ hdl.2
     rw[hw1]
     show w.items.length+_≤_
     omega
    have wl:IntKind.i64.wrap (level+1)=level+1:=wi (by omega) rfl
    repeat(first|(refine sB hL hn rfl ?_;simp only[go_sem,seval,e1,so0,hKl,d5])|refine sN rfl ?_|refine sC ?_)
    refine SW.lpg (fun x:Nat×WS=>⟨[(0,.ptr a 1 0 0),(2,.int .i64 level),(3,pD lo),(4,pD hi),(10,.ptr nn 1 0 0),(129,.vec 0 1 K),(130,.int .i64 ks.length),(131,.int .i64 x.1)],wS σ a b i c ps x.2++(Ob.arr 95 2 [.agg [.vec 0 2 A,.vec 0 1 K]]::T)⟩) (fun x=>ks.length-x.1) (fun x=>x.1≤ks.length∧q=d8 (fun k a b w=>bX ps n k (level+1) a b w) xs lo hi (ks.drop x.1) x.1 x.2∧x.2.items.length+B*(ks.length-x.1)≤1000000000000) (0,w1) ⟨by simp,hnF,hit1⟩ (.of (by rw[hS1]) (by simp[aC,lk])) ?_
    rintro⟨k,wk⟩ ⟨hk,hrest,hitk⟩
    simp only at hk hrest hitk
    by_cases hlt:k<ks.length
    ·have e1:decide ((k:Int)<(ks.length:Int))=true:=decide_eq_true (by omega)
     have e4:(0≤(k:Int)∧(k:Int)<(ks.length:Int)):=by omega
     obtain⟨p,hp⟩:∃p,p=ks[k]'hlt:=⟨_,rfl⟩
     have e5:K[k]?.getD .undef=.int .i64 p:=by rw[hK];simp[hlt,eI,←hp]
     have w2:IntKind.i64.wrap ((k:Int)+1)=((k+1:Nat):Int):=wi (by omega) (by omega)
     rw[BW hlt,←hp] at hrest
     simp only[d8] at hrest
     obtain⟨lo',hlo'⟩:∃lo',lo'=if 0<k then(xs[k-1]?).map (·.1) else lo:=⟨_,rfl⟩
     obtain⟨hi',hhi'⟩:∃hi',hi'=if k<xs.length then(xs[k]?).map (·.1) else hi:=⟨_,rfl⟩
     rw[←hlo',←hhi'] at hrest
     have hBe:B*(ks.length-k)=B*(ks.length-(k+1))+B:=by rw[show ks.length-k=(ks.length-(k+1))+1 by omega,Nat.mul_add,Dk]
     have hcall:=ih (σ++(Ob.arr 95 2 [.agg [.vec 0 2 A,.vec 0 1 K]]::T)) (h3.append _) p (level+1) lo' hi' wk (by omega) (by omega) (by rw[←hB];omega)
     rw[nJ h3,nJ h3] at hcall
     have hln:=n9 ps n p (level+1) lo' hi' wk
     obtain⟨res,hres⟩:∃res,res=bX ps n p (level+1) lo' hi' wk:=⟨_,rfl⟩
     rw[←hres] at hrest hcall hln
     have hlo:(decide ((k:Int)>0)=false∧pD lo'=pD lo)∨∃(j:Nat) (pk:It),k=j+1∧decide ((k:Int)>0)=true∧A[j]?.getD .undef=.agg [.int .u64 pk.1,.int .u64 pk.2]∧pD lo'=.vptr 0 [.int .u64 pk.1]:=by
      by_cases h0:0<k
      ·right
       obtain⟨pv,hpv⟩:∃pv,xs[k-1]?=some pv:=⟨_,AI (by omega)⟩
       refine⟨k-1,pv,by omega,decide_eq_true (by omega),?_,?_⟩
       ·rw[hA,AQ,hpv];rfl
       ·rw[hlo',if_pos h0,hpv];rfl
      ·left
       exact⟨decide_eq_false (by omega),by rw[hlo',if_neg h0]⟩
     have hhi:(decide ((k:Int)<(xs.length:Int))=false∧pD hi'=pD hi)∨∃pk:It,decide ((k:Int)<(xs.length:Int))=true∧(0≤(k:Int)∧(k:Int)<(xs.length:Int))∧A[k]?.getD .undef=.agg [.int .u64 pk.1,.int .u64 pk.2]∧pD hi'=.vptr 0 [.int .u64 pk.1]:=by
      by_cases h0:k<xs.length
      ·right
       obtain⟨pv,hpv⟩:∃pv,xs[k]?=some pv:=⟨_,AI h0⟩
       refine⟨pv,decide_eq_true (by omega),by omega,?_,?_⟩
       ·rw[hA,AQ,hpv];rfl
       ·rw[hhi',if_pos h0,hpv];rfl
      ·left
       exact⟨decide_eq_false (by omega),by rw[hhi',if_neg h0]⟩
     have next:∀{env:List (Nat×DV)},res.2=true→aC env [(0,.ptr a 1 0 0),(2,.int .i64 level),(3,pD lo),(4,pD hi),(10,.ptr nn 1 0 0),(129,.vec 0 1 K),(130,.int .i64 ks.length),(131,.int .i64 ((k+1:Nat):Int))]→True:=fun _ _=>trivial
     obtain⟨LO,hLO⟩:∃LO,LO=pD lo':=⟨_,rfl⟩
     obtain⟨HI,hHI⟩:∃HI,HI=pD hi':=⟨_,rfl⟩
     rw[←hLO,←hHI] at hcall
     rw[←hLO] at hlo
     rw[←hHI] at hhi
     rcases hlo with⟨l1,l2⟩|⟨j,pk,hkj,l1,l3,l2⟩<;>rcases hhi with⟨r1,r2⟩|⟨pk2,r1,r4,r3,r2⟩
     ·have hcall:=tQ (l':=pD lo) (m':=pD hi) hcall (fun w F μ v h=>by rw[l2];exact h) (fun w F μ v h=>by rw[r2];exact h)
      by_cases hr2:res.2=true
      ·rw[if_pos hr2] at hrest hcall
       repeat(first|(refine sB hL hn rfl ?_;simp only[go_sem,seval,hKl,e4,e5,soW0,hAl,wl,l1,r1])|refine sN rfl ?_|refine sC ?_)
       refine sK hP hL hn rfl rfl (hcall) rfl rfl rfl rfl ?_;simp (maxSteps:=2000000) only[go_sem,seval]
       repeat(first|(refine sB hL hn rfl ?_;simp only[go_sem,seval,w2])|refine sN rfl ?_|refine sC ?_)
       exact Lp.nextg (k+1,res.1) ⟨by show k+1≤_;omega,hrest,by show res.1.items.length+B*(ks.length-(k+1))≤_;omega⟩ (by show ks.length-(k+1)<_;omega) (.of rfl (by simp[aC,lk]))
      ·rw[if_neg hr2] at hrest hcall
       repeat(first|(refine sB hL hn rfl ?_;simp only[go_sem,seval,hKl,e4,e5,soW0,hAl,wl,l1,r1])|refine sN rfl ?_|refine sC ?_)
       refine aa.callp hP (by rw[hn];rfl) (hcall) rfl rfl rfl rfl ?_;simp (maxSteps:=2000000) only[go_sem,seval]
       exact⟨_,_,qpan _ _ hrest,_,ag.refl _ _ _,rfl⟩
     ·have hcall:=tQ (l':=pD lo) (m':=.vptr 0 [.int .u64 pk2.1,.int .u64 pk2.2]) hcall (fun w F μ v h=>by rw[l2];exact h) (fun w F μ v h=>by rw[r2];exact jL h)
      by_cases hr2:res.2=true
      ·rw[if_pos hr2] at hrest hcall
       repeat(first|(refine sB hL hn rfl ?_;simp only[go_sem,seval,hKl,e4,e5,soW0,hAl,wl,l1,r4,r3])|refine sN rfl ?_|refine sC ?_)
       refine sK hP hL hn rfl rfl (hcall) rfl rfl rfl rfl ?_;simp (maxSteps:=2000000) only[go_sem,seval]
       repeat(first|(refine sB hL hn rfl ?_;simp only[go_sem,seval,w2])|refine sN rfl ?_|refine sC ?_)
       exact Lp.nextg (k+1,res.1) ⟨by show k+1≤_;omega,hrest,by show res.1.items.length+B*(ks.length-(k+1))≤_;omega⟩ (by show ks.length-(k+1)<_;omega) (.of rfl (by simp[aC,lk]))
      ·rw[if_neg hr2] at hrest hcall
       repeat(first|(refine sB hL hn rfl ?_;simp only[go_sem,seval,hKl,e4,e5,soW0,hAl,wl,l1,r4,r3])|refine sN rfl ?_|refine sC ?_)
       refine aa.callp hP (by rw[hn];rfl) (hcall) rfl rfl rfl rfl ?_;simp (maxSteps:=2000000) only[go_sem,seval]
       exact⟨_,_,qpan _ _ hrest,_,ag.refl _ _ _,rfl⟩
     ·have wj:IntKind.i64.wrap (((k:Nat):Int)-1)=(j:Int):=wi (by omega) (by omega)
      have l4:(0≤(j:Int)∧(j:Int)<(xs.length:Int)):=by omega
      have hcall:=tQ (l':=.vptr 0 [.int .u64 pk.1,.int .u64 pk.2]) (m':=pD hi) hcall (fun w F μ v h=>by rw[l2];exact jL h) (fun w F μ v h=>by rw[r2];exact h)
      by_cases hr2:res.2=true
      ·rw[if_pos hr2] at hrest hcall
       repeat(first|(refine sB hL hn rfl ?_;simp only[go_sem,seval,hKl,e4,e5,soW0,hAl,wl,l1,wj,l3,l4,r1])|refine sN rfl ?_|refine sC ?_)
       refine sK hP hL hn rfl rfl (hcall) rfl rfl rfl rfl ?_;simp (maxSteps:=2000000) only[go_sem,seval]
       repeat(first|(refine sB hL hn rfl ?_;simp only[go_sem,seval,w2])|refine sN rfl ?_|refine sC ?_)
       exact Lp.nextg (k+1,res.1) ⟨by show k+1≤_;omega,hrest,by show res.1.items.length+B*(ks.length-(k+1))≤_;omega⟩ (by show ks.length-(k+1)<_;omega) (.of rfl (by simp[aC,lk]))
      ·rw[if_neg hr2] at hrest hcall
       repeat(first|(refine sB hL hn rfl ?_;simp only[go_sem,seval,hKl,e4,e5,soW0,hAl,wl,l1,wj,l3,l4,r1])|refine sN rfl ?_|refine sC ?_)
       refine aa.callp hP (by rw[hn];rfl) (hcall) rfl rfl rfl rfl ?_;simp (maxSteps:=2000000) only[go_sem,seval]
       exact⟨_,_,qpan _ _ hrest,_,ag.refl _ _ _,rfl⟩
     ·have wj:IntKind.i64.wrap (((k:Nat):Int)-1)=(j:Int):=wi (by omega) (by omega)
      have l4:(0≤(j:Int)∧(j:Int)<(xs.length:Int)):=by omega
      have hcall:=tQ (l':=.vptr 0 [.int .u64 pk.1,.int .u64 pk.2]) (m':=.vptr 0 [.int .u64 pk2.1,.int .u64 pk2.2]) hcall (fun w F μ v h=>by rw[l2];exact jL h) (fun w F μ v h=>by rw[r2];exact jL h)
      by_cases hr2:res.2=true
      ·rw[if_pos hr2] at hrest hcall
       repeat(first|(refine sB hL hn rfl ?_;simp only[go_sem,seval,hKl,e4,e5,soW0,hAl,wl,l1,wj,l3,l4,r4,r3])|refine sN rfl ?_|refine sC ?_)
       refine sK hP hL hn rfl rfl (hcall) rfl rfl rfl rfl ?_;simp (maxSteps:=2000000) only[go_sem,seval]
       repeat(first|(refine sB hL hn rfl ?_;simp only[go_sem,seval,w2])|refine sN rfl ?_|refine sC ?_)
       exact Lp.nextg (k+1,res.1) ⟨by show k+1≤_;omega,hrest,by show res.1.items.length+B*(ks.length-(k+1))≤_;omega⟩ (by show ks.length-(k+1)<_;omega) (.of rfl (by simp[aC,lk]))
      ·rw[if_neg hr2] at hrest hcall
       repeat(first|(refine sB hL hn rfl ?_;simp only[go_sem,seval,hKl,e4,e5,soW0,hAl,wl,l1,wj,l3,l4,r4,r3])|refine sN rfl ?_|refine sC ?_)
       refine aa.callp hP (by rw[hn];rfl) (hcall) rfl rfl rfl rfl ?_;simp (maxSteps:=2000000) only[go_sem,seval]
       exact⟨_,_,qpan _ _ hrest,_,ag.refl _ _ _,rfl⟩
    ·have e1:decide ((k:Int)<(ks.length:Int))=false:=decide_eq_false (by omega)
     rw[Cp (by omega)] at hrest
     simp only[d8] at hrest
     repeat(first|(refine sB hL hn rfl ?_;simp only[go_sem,seval,e1])|refine sN rfl ?_|refine sC ?_)
     exact⟨_,_,qret _ _ hrest,_,_,_,ai.refl _ _,rfl,ag.refl _ _ _,rfl⟩
end Go.VL
