/- Proved: TreeOwn: whatever tree, root and item come in (together of bulk at most 1048576), the call returns true and they read as they did; no other condition. This text is part 11 of 18. -/
import Derived.Test.YtghomgiklhbjiaaW10
set_option linter.unusedSimpArgs false
set_option linter.unusedVariables false
set_option maxRecDepth 10000
set_option maxHeartbeats 2000000
open List renaming append_assoc → AR,append_nil → AK,cons_append → Bq,drop_zero → Ch,getD_eq_getElem?_getD → AZ,getElem?_append_left → AJ,getElem?_append_right → AT,getElem?_cons_zero → AY,getElem?_drop → Bk,getElem?_eq_getElem → AI,getElem?_eq_some_iff → AH,getElem?_map → AQ,getElem?_set_ne → A6,getElem?_take → CY,headD_cons → Cd,length → Cr,length_append → AP,length_cons → A5,length_drop → BP,length_map → AN,length_nil → Bj,length_set → Ci,length_take → Bi,map_take → Dy,mem_cons → Bh,mem_map → Ba,mem_of_getElem? → AM,nil_append → Be,not_mem_nil → Bw,set_append_left → Bo,set_append_right → Cg,take_of_length_le → AV,take_take → CL
open Nat renaming add_assoc → C0,add_zero → Bt,le_refl → AU,min_eq_left → BE,sub_self → B7,zero_add → Bc,zero_le → BD
open Option renaming getD_some → A8,map_some → AW,some → AX
open Int renaming toNat → Ce,toNat_natCast → Bg
namespace Go.VL
open Go Go.Proofs
open Nat (reduceAdd reduceEqDiff reduceSub reduceMul reduceLeDiff)
theorem am{σ:List Ob}{a p:Nat} (w:Wr):(wS2 σ a p w).length=σ.length:=by unfold wS2 wrS;exact bq _ _
theorem aT{σ:List Ob}{a p:Nat} (h2:Two σ a p) (w0 w:Wr) (T:List Ob):wS2 (wS2 σ a p w0++T) a p w=wS2 σ a p w++T:=by unfold wS2 wrS;exact zx h2 _ _ _ _ _
theorem ca{σ:List Ob}{a p:Nat} (h2:Two σ a p) (w:Wr) (T:List Ob):Two (wS2 σ a p w++T) a p:=by unfold wS2 wrS;exact h2.app _ _ _
theorem oW{σ:List Ob}{a b i:Nat} (ha:i≠a) (hb:i≠b){o:Ob} (h:σ[i]?=some o) (x y:Ob) (l:List Ob):(s2 σ a b x y++l)[i]?=some o:=by
 rw[AJ (by rw[bq];exact(AH.1 h).1)]
 unfold s2
 rw[A6 (by omega),A6 (by omega)]
 exact h
theorem bO{σ:List Ob}{a p i:Nat} (ha:i≠a) (hp:i≠p){o:Ob} (h:σ[i]?=some o) (w:Wr) (l:List Ob):(wS2 σ a p w++l)[i]?=some o:=by unfold wS2 wrS;exact oW ha hp h _ _ _
theorem Fz.part{α:Type} (e:α→DV) (h:∀a,Low 0 (e a)){O:List Ob}{c id t k o n N:Nat}{XX:List DV}{l:List α} (ho:O[id]?=some (.arr t k XX)) (hN:XX.length=N) (hp:(XX.drop o).take n=l.map e) (hn:l.length=n):Fz O c (.sl id N o n) (.vec c k (l.map e)):=by
 subst hN
 have hx:∀(j:Nat) (x y:DV),j<n→XX[o+j]?=some x→(l.map e)[j]?=some y→x=y:=fun j x y hj hx hy=>by
  rw[←hp,CY,if_pos hj,Bk,hx] at hy
  exact AX.inj hy
 refine Fz.sl (O:=O) (c:=c) (off:=o) (l:=n) (ys:=l.map e) ho (by simp[hn]) (fun j x y hj hx1 hy=>by rw[hx j x y hj hx1 hy]) (fun j i x y d D hj hx1 hy hd hD=>?_)
 rw[hx j x y hj hx1 hy,hD] at hd
 cases hd
 refine .low (cI (h:=?_) hD)
 obtain⟨a,_,rfl⟩:=Ba.1 (AM hy)
 exact h a
theorem yS (g:List It) (hl:g.length≤1048576) (σ:List Ob){id N o n:Nat}{XX:List DV} (hI:σ[id]?=some (.arr 27 2 XX)) (hN:XX.length=N) (hp:(XX.drop o).take n=g.map eT) (hn:g.length=n):
  Ok Try.prog 63 [.agg [.sl id N o n,.nils]] σ (.ret (.tup [.vec 0 1 ((bl g []).1.map eB),.int .i64 (bl g []).2])) σ:=by
 refine Ok.lendF (c:=1) (kN 1 1 g [] hl (by simp) []) rfl (fun i x y hx hy=>?_) (ki (pG eB _ _ (fun _=>.int) (by decide) _) .int)
 match i,hx,hy with
 |0,hx,hy=>
  cases hx;cases hy
  refine .agg rfl fun i x y hx hy=>?_
  match i,hx,hy with
  |0,hx,hy=>cases hx;cases hy;exact Fz.part eT (cD 0) hI hN hp hn
  |1,hx,hy=>cases hx;cases hy;exact .nil
  |i+2,hx,_=>simp at hx
 |i+1,hx,_=>simp at hx
theorem qz{g:List It} (hl:g.length≤1048576){σ:List Ob}{a p:Nat} (h2:Two σ a p){id N o n:Nat}{XX:List DV} (hI:σ[id]?=some (.arr 27 2 XX)) (hia:id≠a) (hip:id≠p) (hN:XX.length=N) (hp:(XX.drop o).take n=g.map eT) (hn:g.length=n) (T:List Ob){w:Wr} (hw:w.ok):
  (∀k w',cP w (bl g []).1=some (k,w')→Ok Try.prog 53 [.ptr a 1 0 0,.agg [.sl id N o n,.nils]] (wS2 σ a p w++T) (.ret (.int .i64 (k:Int))) (wS2 σ a p w'++T))∧
  (cP w (bl g []).1=none→∃w',Ok Try.prog 53 [.ptr a 1 0 0,.agg [.sl id N o n,.nils]] (wS2 σ a p w++T) (.pan (be 51)) (wS2 σ a p w'++T)):=by
 have hI':=bO hia hip hI w T
 have l1:Low (wS2 σ a p w++T).length (.sl id N o n):=(da _ _ _ _).2 (AH.1 hI').1
 have l2:Low (wS2 σ a p w++T).length .nils:=fQ.2 trivial
 have henc:=fun x y l=>yS g hl (s2 (wS2 σ a p w++T) a p x y++l) (oW hia hip hI' x y l) hN hp hn
 refine⟨fun k w' h=>?_,fun h=>?_⟩
 ·have:=qy (σ:=wS2 σ a p w++T) (ca h2 w T) l1 l2 henc hw h
  rw[aT h2,aT h2] at this
  exact this
 ·obtain⟨w',this⟩:=n6 (σ:=wS2 σ a p w++T) (ca h2 w T) l1 l2 hw h
  rw[aT h2,aT h2] at this
  exact⟨w',this⟩
def dV:Wr→List (List UInt8×Int)→List aE→Option (List aE×Wr)
 |w,[],l=>some (l,w)
 |w,b::r,l=>match cP w b.1 with
  |some (k,w')=>dV w' r (l++[((k:Int),b.2)])
  |none=>none
theorem jh:∀(bs:List (List UInt8×Int)) (w:Wr) (l:List aE),w.ok→∃(st:Nat→List aE×Wr) (j:Nat),j≤bs.length∧st 0=(l,w)∧(∀i,i≤j→(st i).2.ok∧(st i).1.length=l.length+i)∧
  (∀i b,i<j→bs[i]?=some b→∃k,cP (st i).2 b.1=some (k,(st (i+1)).2)∧(st (i+1)).1=(st i).1++[((k:Int),b.2)])∧
  ((j=bs.length∧dV w bs l=some (st j))∨(∃b,bs[j]?=some b∧cP (st j).2 b.1=none∧dV w bs l=none))
 | [],w,l,hw=>⟨fun _=>(l,w),0,AU _,rfl,fun i hi=>⟨hw,by have:i=0:=(by omega);subst this;rfl⟩,fun i b hi=>by omega,.inl ⟨rfl,rfl⟩⟩
 |b::r,w,l,hw=>by
  cases h:cP w b.1 with
  |none=>exact⟨fun _=>(l,w),0,BD _,rfl,fun i hi=>⟨hw,by have:i=0:=(by omega);subst this;rfl⟩,fun i b hi=>by omega,.inr ⟨b,rfl,h,by simp only[dV,h]⟩⟩
  |some q=>
   obtain⟨k,w1⟩:=q
   obtain⟨st,j,h1,h2,h3,h4,h5⟩:=jh r w1 (l++[((k:Int),b.2)]) (qx hw h)
   refine⟨fun i=>match i with|0=>(l,w)|i+1=>st i,j+1,by simpa using h1,rfl,fun i hi=>?_,fun i b' hi hb=>?_,?_⟩
   ·cases i with
    |zero=>exact⟨hw,rfl⟩
    |succ i=>
     have:=h3 i (by omega)
     refine⟨this.1,?_⟩
     show(st i).1.length=_
     rw[this.2];simp;omega
   ·cases i with
    |zero=>
     simp only[AY,AX.injEq] at hb
     subst hb
     exact⟨k,by show cP w b.1=some (k,(st 0).2);rw[h2];exact h,by show(st 0).1=l++[((k:Int),b.2)];rw[h2]⟩
    |succ i=>exact h4 i b' (by omega) (by simpa using hb)
   ·rcases h5 with⟨rfl,h5⟩|⟨b',h5,h6,h7⟩
    ·exact .inl ⟨rfl,by simp only[dV,h];exact h5⟩
    ·exact .inr ⟨b',by simpa using h5,h6,by simp only[dV,h];exact h7⟩
def wq (n:Nat) (l:List aE):DV:=match l with
 | []=>.nils
 |_::_=>.sl n l.length 0 l.length
def uN (l:List aE):List Ob:=match l with
 | []=> []
 |_::_=> [.arr 91 2 (l.map ePt)]
theorem iF (n:Nat) (x:aE):Low n (ePt x):=by simp[ePt,aH,ax]
def dO (xs:List It):List (List It):=if xs.length=0 then [] else if xs.length=4 then [xs.take 2,xs.drop 2] else [xs]
def ub (g:List It):List UInt8×Int:=((bl g []).1,(g.headD (0,0)).1)
def iV (w:Wr) (xs:List It):Option (List aE×Wr):=dV w ((dO xs).map ub) []
def goI (xs:List It):List (Nat×Nat):=if xs.length=0 then [] else if xs.length=4 then [(0,2),(2,2)] else [(0,xs.length)]
theorem yL (xs:List It) (hl:xs.length≤4):Grp 3 0 xs.length (goI xs):=by
 unfold goI
 by_cases h0:xs.length=0
 ·rw[if_pos h0,h0];exact .nil 0
 rw[if_neg h0]
 by_cases h4:xs.length=4
 ·rw[if_pos h4,h4]
  exact .cons 2 (by decide) rfl (.cons 2 (by decide) rfl (.nil 4))
 ·rw[if_neg h4]
  refine .cons xs.length (by omega) (by rw[if_neg (by omega)];omega) ?_
  rw[B7]
  exact .nil _
theorem yM (xs:List It) (i:Nat) (g:List It) (h:(dO xs)[i]?=some g):∃o,(goI xs)[i]?=some (o,g.length)∧o+g.length≤xs.length∧(xs.drop o).take g.length=g:=by
 unfold dO at h
 unfold goI
 by_cases h0:xs.length=0
 ·rw[if_pos h0] at h;cases h
 rw[if_neg h0] at h⊢
 by_cases h4:xs.length=4
 ·rw[if_pos h4] at h⊢
  match i,h with
  |0,h=>
   cases h
   have e:(xs.take 2).length=2:=by rw[Bi];omega
   exact⟨0,by rw[e];rfl,by omega,by rw[e];rfl⟩
  |1,h=>
   cases h
   have e:(xs.drop 2).length=2:=by rw[BP];omega
   exact⟨2,by rw[e];rfl,by omega,AV (AU _)⟩
  |i+2,h=>simp at h
 ·rw[if_neg h4] at h⊢
  match i,h with
  |0,h=>cases h;exact⟨0,rfl,by omega,AV (AU _)⟩
  |i+1,h=>simp at h
theorem pr (xs:List It):(goI xs).length=(dO xs).length:=by
 unfold goI dO
 split
 ·rfl
 split<;>rfl
theorem mW (xs:List It):(dO xs).length≤2∧∀g∈dO xs,g≠ []∧g.length≤xs.length:=by
 unfold dO
 split
 ·simp
 split
 ·refine⟨by simp,fun g hg=>?_⟩
  simp only[Bh,Bw,or_false] at hg
  rcases hg with rfl|rfl
  ·exact⟨fun h=>by have:=congrArg Cr h;rw[Bi,Bj] at this;omega,by rw[Bi];omega⟩
  ·exact⟨fun h=>by have:=congrArg Cr h;rw[BP,Bj] at this;omega,by rw[BP];omega⟩
 ·refine⟨by simp,fun g hg=>?_⟩
  simp only[Bh,Bw,or_false] at hg
  subst hg
  exact⟨fun h=>by subst h;simp at*,AU _⟩
theorem wX (y b id N l0:Nat) (ob:List Ob) (hob:ob[b]?=some (.arr 41 1 [.sl id N 0 l0])) (σ':List Ob) (hg:Ok Try.prog 52 [.sl id N 0 l0,.int .i64 3,.yld y] ob (.ret (.tup [])) σ'):
  Ok Try.prog 51 [.yld y,.ptr b 1 0 0] ob (.ret (.tup [])) σ':=by
 refine Ok.of_body ae Try.func51 rfl (by decide) (by simp[Try.ntmps51]) fun C hP hn hσ hfix hdd=>?_
 rw[show Try.f51.ntmps=6 from rfl] at hn
 have hL:af C.P L:=hP▸ae
 have hm:C.P.follows .mixedOrders=true:=hP▸ao
 repeat(first|(refine sB hL hn rfl ?_;simp only[go_sem,seval,hob])|refine sN rfl ?_|refine sC ?_)
 refine sK hP hL hn rfl rfl (hg) rfl rfl rfl rfl ?_;simp (maxSteps:=2000000) only[go_sem,seval]
 repeat(first|(refine sB hL hn rfl ?_;simp only[go_sem,seval])|refine sN rfl ?_|refine sC ?_)
 exact⟨_,_,_,ai.refl _ _,rfl,ag.refl _ _ _,rfl⟩
theorem uZ (y b id N l0:Nat) (ob:List Ob) (hob:ob[b]?=some (.arr 41 1 [.sl id N 0 l0])) (σ':List Ob) (d:DV) (hg:Ok Try.prog 52 [.sl id N 0 l0,.int .i64 3,.yld y] ob (.pan d) σ'):
  Ok Try.prog 51 [.yld y,.ptr b 1 0 0] ob (.pan d) σ':=by
 refine Ok.of_body ae Try.func51 rfl (by decide) (by simp[Try.ntmps51]) fun C hP hn hσ hfix hdd=>?_
 rw[show Try.f51.ntmps=6 from rfl] at hn
 have hL:af C.P L:=hP▸ae
 have hm:C.P.follows .mixedOrders=true:=hP▸ao
 repeat(first|(refine sB hL hn rfl ?_;simp only[go_sem,seval,hob])|refine sN rfl ?_|refine sC ?_)
 refine aa.callp hP (by rw[hn];rfl) (hg) rfl rfl rfl rfl ?_;simp (maxSteps:=2000000) only[go_sem,seval]
 exact⟨_,ag.refl _ _ _,rfl⟩
theorem yO (a m:Nat) (s:DV) (l:List aE) (x y:Ob):(flO a m s l x).set 4 y=flO a m s l y:=rfl
theorem yQ (a m:Nat) (s:DV) (l:List aE) (x:Ob):(flO a m s l x)[4]?=some x:=rfl
theorem yP (a m:Nat) (s:DV) (l:List aE) (x:Ob):((flO a m s l x).set 3 (.oth .defd [.bool true]))[2]?=some (.arr 86 1 [gW (m+3) l]):=rfl
theorem qn{B:List Ob}{m s:Nat}{T:List Ob} (hB:B.length=m){d:DV}{k:Nat} (hT:T[k]?=some (.arr 86 1 [d])) (hd:d.cells=[d]):aF L ⟨[(s,.ptr (m+k) 1 0 0)],B++T⟩ [Go.ResultVar.cell s 86]=some d:=by
 have g:(B++T)[m+k]?=some (.arr 86 1 [d]):=by subst hB;rw[ak];exact hT
 simp only[aF,cA,aV,lk,if_true,e9,L86,en,g,A5,Bj,hd,AY,Ch,TD.isAgg]
 rfl
theorem sy (D:Nat) (l:List aE):(gW D l).cells=[gW D l]:=by cases l<;>rfl
theorem uW{f:FuncId}{args:List DV}{σ:List Ob}{a p:Nat} (h2:Two σ a p){w w':Wr}{l:List aE}{x:Ob} (hl:l.length≤2){b1 b2:Ob} (h:Ok Try.prog f args (wS2 σ a p w) (.ret (gW (σ.length+3) l)) (wS2 σ a p w'++([b1,b2,.arr 86 1 [gW (σ.length+3) l],.oth .defd [.bool true],x]++ptO l))):
  Ok Try.prog f args (wS2 σ a p w) (.ret (wq σ.length l)) (wS2 σ a p w'++uN l):=by
 have hlen:(wS2 σ a p w).length=σ.length:=am w
 have hlen':(wS2 σ a p w').length=σ.length:=am w'
 match l,hl with
 | [],_=>
  have:=Ok.tidy (c:=0) (D:=.nils) none h (cO h2 _ _) (.low (fQ.2 trivial)) (fun i hi=>by cases hi)
  exact this
 | [y],_=>
  have hg:(wS2 σ a p w'++([b1,b2,.arr 86 1 [gW (σ.length+3) [y]],.oth .defd [.bool true],x]++ptO [y]))[σ.length+6]?=some (.arr 91 2 [ePt y]):=by rw[←hlen',ak];rfl
  have:=Ok.tidy (c:=0) (D:=.sl σ.length 1 0 1) (some (σ.length+6)) h (cO h2 _ _) (by rw[hlen];exact .own rfl) (fun i hi=>by
   cases hi
   refine⟨by rw[hlen];omega,_,_,_,hg,fun z hz=>?_⟩
   simp only[Bh,Bw,or_false] at hz
   subst hz
   exact iF _ _)
  simp only[df,AZ,hg] at this
  exact this
 | [y,z],_=>
  have hg:(wS2 σ a p w'++([b1,b2,.arr 86 1 [gW (σ.length+3) [y,z]],.oth .defd [.bool true],x]++ptO [y,z]))[σ.length+6]?=some (.arr 91 2 [ePt y,ePt z]):=by rw[←hlen',ak];rfl
  have:=Ok.tidy (c:=0) (D:=.sl σ.length 2 0 2) (some (σ.length+6)) h (cO h2 _ _) (by rw[hlen];exact .own rfl) (fun i hi=>by
   cases hi
   refine⟨by rw[hlen];omega,_,_,_,hg,fun z hz=>?_⟩
   simp only[Bh,Bw,or_false] at hz
   rcases hz with rfl|rfl<;>exact iF _ _)
  simp only[df,AZ,hg] at this
  exact this
theorem dJ{f:FuncId}{args:List DV}{σ:List Ob}{a p:Nat} (h2:Two σ a p){w w':Wr}{e:Int}{G:List Ob} (h:Ok Try.prog f args (wS2 σ a p w) (.pan (be e)) (wS2 σ a p w'++G)):Ok Try.prog f args (wS2 σ a p w) (.pan (be e)) (wS2 σ a p w'):=
 (OkE.tidy (c:=0) (R:=fun o O=>o=.pan (be e)∧O=wS2 σ a p w') (h.toE (Tid.pan (cO h2 _ _) (.low (by simp[be,dz,ax])) ⟨rfl,rfl⟩))).ok fun o O h=>h
theorem pu{σ:List Ob}{a p:Nat} (h2:Two σ a p){w:Wr} (hw:w.ok){id N:Nat}{XX:List DV} (hI:σ[id]?=some (.arr 27 2 XX)) (hia:id≠a) (hip:id≠p) (hN:XX.length=N) (xs:List It) (hl:xs.length≤4) (hX:XX.take xs.length=xs.map eT) (hle:xs.length≤N):
  (∀l w',iV w xs=some (l,w')→Ok Try.prog 38 [.ptr a 1 0 0,.sl id N 0 xs.length] (wS2 σ a p w) (.ret (wq σ.length l)) (wS2 σ a p w'++uN l))∧
  (iV w xs=none→∃w',Ok Try.prog 38 [.ptr a 1 0 0,.sl id N 0 xs.length] (wS2 σ a p w) (.pan (be 51)) (wS2 σ a p w')):=by
 obtain⟨A,R,E,asg,bo,hb,hA,hR,hasg,hbo,hbp,hE⟩:=uX
 obtain⟨st,j,j1,j2,j3,j4,j5⟩:=jh ((dO xs).map ub) w [] hw
 rw[AN] at j1 j5
 obtain⟨g1,g2⟩:=mW xs
 have hG:=yL xs hl
 obtain⟨s,hs⟩:∃s,s=DV.sl id N 0 xs.length:=⟨_,rfl⟩
 obtain⟨m,hm⟩:∃m,m=σ.length:=⟨_,rfl⟩
 have hlen:∀w,(wS2 σ a p w).length=m:=fun w=>by rw[hm];exact am w
 obtain⟨S,hS⟩:∃S:Nat→Ob→List Ob,S=fun i x=>wS2 σ a p (st i).2++flO a m s (st i).1 x:=⟨_,rfl⟩
 obtain⟨vs,hvs⟩:∃vs:Nat→DV,vs=fun i=>.sl id N ((goI xs).getD i (0,0)).1 ((goI xs).getD i (0,0)).2:=⟨_,rfl⟩
 have hat:∀(w:Wr) (T:List Ob),(wS2 σ a p w++T)[id]?=some (.arr 27 2 XX):=fun w T=>bO hia hip hI w T
 have hat0:∀(w:Wr),(wS2 σ a p w)[id]?=some (.arr 27 2 XX):=fun w=>by have:=hat w [];rwa [AK] at this
 have hxg:∀(o n:Nat) (g:List It),n=g.length→o+n≤xs.length→(xs.drop o).take n=g→(XX.drop o).take n=g.map eT:=fun o n g hn ho hg=>by
  have:(XX.drop o).take n=((XX.take xs.length).drop o).take n:=by rw[List.drop_take,CL,BE (by omega)]
  rw[this,hX,←List.map_drop,←Dy,hg]
 have hvi:∀i o n,(goI xs)[i]?=some (o,n)→vs i=.sl id N o n:=fun i o n h=>by rw[hvs];simp only[AZ,h,A8]
 have grp:∀i,i<(dO xs).length→∃it r o,(dO xs)[i]?=some (it::r)∧(it::r).length≤4∧(goI xs)[i]?=some (o,(it::r).length)∧(XX.drop o).take (it::r).length=(it::r).map eT:=fun i hi=>by
  have hg:(dO xs)[i]?=some ((dO xs)[i]'hi):=AI hi
  have:=g2 _ (AM hg)
  cases hq:(dO xs)[i]'hi with
  |nil=>rw[hq] at this;exact absurd rfl this.1
  |cons it r=>
   rw[hq] at hg
   obtain⟨o,o1,o2,o3⟩:=yM xs i _ hg
   exact⟨it,r,o,hg,by rw[←hq];omega,o1,hxg o _ _ rfl o2 o3⟩
 have hrng:Rng Try.prog 21 (m+3) 7 5 asg bo [(2,.ptr m 1 0 0),(4,.ptr (m+2) 1 0 0),(6,.fn 51 [.ptr (m+1) 1 0 0])] [(2,.ptr m 1 0 0),(4,.ptr (m+2) 1 0 0)] S vs j:=by
  refine⟨by decide,fun t d ht=>?_,fun i x y=>?_,fun i x=>?_,fun C hP hn d ob=>hasg C hP hn m d ob,fun C hP hn i x hi=>?_⟩
  ·simp only[Bh,Prod.mk.injEq,Bw,or_false] at ht
   rcases ht with⟨rfl,rfl⟩|⟨rfl,rfl⟩<;>exact⟨by decide,by decide,rfl⟩
  ·rw[hS]
   show(wS2 σ a p (st i).2++_).set (m+4) y=_
   rw[←hlen (st i).2,ay,hlen,yO]
  ·rw[hS]
   show(wS2 σ a p (st i).2++_)[m+4]?=_
   rw[←hlen (st i).2,ak,hlen,yQ]
  ·obtain⟨it,r,o,hg,hlr,hgo,hgx⟩:=grp i (by omega)
   obtain⟨k,k1,k2⟩:=j4 i (ub (it::r)) hi (by rw[AQ,hg];rfl)
   have hpg:=(qz (g:=it::r) (by omega) h2 hI hia hip hN hgx rfl (flO a m s (st i).1 x) (j3 i (by omega)).1).1 k _ k1
   have hit:XX[o]?=some (eT it):=by
    have:=congrArg (fun l:List DV=>l[0]?) hgx
    simpa using this
   have:=hbo C hP hn (wS2 σ a p (st i).2) (wS2 σ a p (st (i+1)).2) m a id N o _ XX s it (st i).1 k x (hlen _) (hlen _) (by rw[(j3 i (by omega)).2];simp;omega) (hat0 _) (hat0 _) hN hit (by simp) hpg
   rw[hvi i _ _ hgo,hS]
   simp only[k2]
   exact this
 have hAA:=fun C hP hn=>hA C hP hn a id N xs.length (wS2 σ a p w)
 rw[hlen] at hAA
 have hRR:=fun C hP hn=>hR C hP hn m (wS2 σ a p w++[.arr 82 1 [.ptr a 1 0 0],.arr 41 1 [.sl id N 0 xs.length],.arr 86 1 [.nils]])
 have hS0:∀x,S 0 x=((wS2 σ a p w++[.arr 82 1 [.ptr a 1 0 0],.arr 41 1 [.sl id N 0 xs.length],.arr 86 1 [.nils]])++[.oth .defd []])++[x]:=fun x=>by
  rw[hS]
  simp only[j2,flO,ptO,gW,hs,AR,Bq,Be]
 have hcell:∀x,(S 0 x)[m+1]?=some (.arr 41 1 [.sl id N 0 xs.length]):=fun x=>by
  rw[hS]
  show(wS2 σ a p (st 0).2++_)[m+1]?=_
  rw[←hlen (st 0).2,ak,←hs]
  rfl
 have hSid:∀i x,(S i x)[id]?=some (.arr 27 2 XX):=fun i x=>by rw[hS];exact hat _ _
 have hds:∀(l:List aE) (w:Wr) (x y:Ob),(wS2 σ a p w++flO a m s l x).set (m+3) y=wS2 σ a p w++(flO a m s l x).set 3 y:=fun l w x y=>by rw[←hlen w,ay,hlen]
 rcases j5 with⟨rfl,j5⟩|⟨b,hb1,hb2,j5⟩
 ·refine⟨fun l w' hf=>?_,fun hf=>?_⟩
  ·unfold iV at hf
   rw[j5] at hf
   have hst:st (dO xs).length=(l,w'):=AX.inj hf
   obtain⟨x,hok⟩:=nX (args:=[.ptr a 1 0 0,.sl id N 0 xs.length]) (σ:=wS2 σ a p w) (g:=6) (obF:=fun x=>wS2 σ a p (st (dO xs).length).2++flO a m s (st (dO xs).length).1 x) (dres:=gW (m+3) (st (dO xs).length).1) (envE:=[(4,.ptr (m+2) 1 0 0)]) (envF:=[(4,.ptr (m+2) 1 0 0)]) hrng ae Try.func38 (by decide) (by simp[Try.ntmps38]) rfl hb hAA hRR (by rw[AP,hlen];rfl) hS0 rfl (fun x hr=>by
     refine wX _ _ id N xs.length _ (hcell x) _ ?_
     exact ov (m+4) 3 id N 0 xs.length XX _ (by decide) (by decide) (by omega) (by omega) hG (fun i=>S i x) _ (by rw[pr];exact AU _) _ _ (fun i _=>hSid i x) hN (fun i o n hi hg=>by rw[←hvi i o n hg];exact hr i hi) (.inl ⟨by rw[pr],rfl,rfl⟩)) ⟨rfl,trivial⟩ (fun C hP hn x=>by
     rw[hS]
     exact hE C hP hn (wS2 σ a p (st (dO xs).length).2) m a s (st (dO xs).length).1 x (hlen _) (by rw[(j3 _ (AU _)).2];simp;omega)) (fun x=>by
     show(wS2 σ a p _++_)[m+3]?=_
     rw[←hlen (st (dO xs).length).2,ak]
     rfl) (fun x=>by
     rw[hds]
     exact qn (hlen _) (yP a m s _ x) (sy _ _))
   rw[hds,hst] at hok
   subst hm
   exact uW h2 (by
    have:=(j3 _ (AU _)).2
    rw[hst] at this
    simp at this
    omega) hok
  ·unfold iV at hf;rw[j5] at hf;cases hf
 ·refine⟨fun l w' hf=>(by unfold iV at hf;rw[j5] at hf;cases hf),fun _=>?_⟩
  have hjl:j<(dO xs).length:=by
   have:=(AH.1 hb1).1
   simpa using this
  obtain⟨it,r,o,hg,hlr,hgo,hgx⟩:=grp j hjl
  have hit:XX[o]?=some (eT it):=by
   have:=congrArg (fun l:List DV=>l[0]?) hgx
   simpa using this
  rw[AQ,hg] at hb1
  obtain rfl:ub (it::r)=b:=AX.inj hb1
  have hwx:∀x,∃w',Ok Try.prog 53 [.ptr a 1 0 0,.agg [.sl id N o (it::r).length,.nils]] (wS2 σ a p (st j).2++flO a m s (st j).1 x) (.pan (be 51)) (wS2 σ a p w'++flO a m s (st j).1 x):=fun x=>(qz (g:=it::r) (by omega) h2 hI hia hip hN hgx rfl (flO a m s (st j).1 x) (j3 j (AU _)).1).2 hb2
  obtain⟨wp,hwp⟩:=Classical.axiomOfChoice hwx
  obtain⟨x,hok⟩:=nY (args:=[.ptr a 1 0 0,.sl id N 0 xs.length]) (σ:=wS2 σ a p w) (g:=6) (d:=be 51) (σp:=fun x=>wS2 σ a p (wp x)++flO a m s (st j).1 x) hrng ae Try.func38 (by decide) (by simp[Try.ntmps38]) rfl hb hAA hRR (by rw[AP,hlen];rfl) hS0 rfl (fun C hP hn x=>by
    have:=hbp C hP hn (wS2 σ a p (st j).2) (wS2 σ a p (wp x)) m a id N o _ XX s it (st j).1 x (hlen _) (hlen _) (by rw[(j3 j (AU _)).2];simp;omega) (hat0 _) (hat0 _) hN hit (by simp) (hwp x)
    rw[hvi j _ _ hgo,hS]
    exact this) (fun x y hr hpn=>by
    refine uZ _ _ id N xs.length _ (hcell x) _ _ ?_
    refine ov (m+4) 3 id N 0 xs.length XX _ (by decide) (by decide) (by omega) (by omega) hG (fun i=>S i x) j (by rw[pr];exact j1) _ _ (fun i _=>hSid i x) hN (fun i o n hi hg=>by rw[←hvi i o n hg];exact hr i hi) (.inr ⟨o,_,be 51,hgo,rfl,?_⟩)
    rw[←hvi j _ _ hgo]
    exact hpn) (fun x=>by
    show(wS2 σ a p _++_)[m+3]?=_
    rw[←hlen (wp x),ak]
    rfl)
  rw[hds] at hok
  exact⟨_,dJ h2 hok⟩
def di40_11:List DI:=[⟨[4],[],false,[0,1,2],some 36,[]⟩,⟨[2],[],false,[0],some 37,[]⟩,⟨[6],[],false,[0],some 38,[]⟩,⟨[37,38],[1,2],true,[],some 39,[1,2]⟩,⟨[5],[],false,[0,1],some 40,[]⟩,⟨[40],[4],false,[0,1],some 41,[4]⟩,⟨[41],[4,5],false,[0,1],some 42,[5]⟩,⟨[42],[4,5,6],false,[0,1],some 43,[6]⟩,⟨[39,43],rg 1 7,false,[1],some 44,[3,7]⟩,⟨[44],rg 1 8,true,[],some 45,[8]⟩,⟨[36,45],rg 0 10,true,[],some 46,[0,9,3]⟩,⟨[4,46],rg 0 11,true,[],none,([10,10]++rg 0 11)⟩]
def iP (x:aE):DV:=.agg [.int .u64 x.2,.int .u64 0]
def itO (e:Nat) (p0 p1 p2 p3:aE):Nat→List Ob
 |0=> [.arr 95 2 [.agg [.nils,.nils]]]
 |1=> [.arr 95 2 [.agg [.nils,.sl (e+3) 1 0 1]],.arr 91 2 [ePt p0],.arr 3 1 [.int .i64 (p0.1:Int)],.arr 3 1 [.int .i64 (p0.1:Int)]]
 |2=> [.arr 95 2 [.agg [.sl (e+7) 1 0 1,.sl (e+3) 2 0 2]],.arr 91 2 [ePt p0],.arr 3 1 [.int .i64 (p0.1:Int)],.arr 3 1 [.int .i64 (p0.1:Int),.int .i64 (p1.1:Int)],.arr 91 2 [ePt p1],.arr 3 1 [.int .i64 (p1.1:Int)],.arr 27 2 [iP p1],.arr 27 2 [iP p1]]
 |3=> [.arr 95 2 [.agg [.sl (e+7) 2 0 2,.sl (e+3) 3 0 3]],.arr 91 2 [ePt p0],.arr 3 1 [.int .i64 (p0.1:Int)],.arr 3 1 [.int .i64 (p0.1:Int),.int .i64 (p1.1:Int),.int .i64 (p2.1:Int)],.arr 91 2 [ePt p1],.arr 3 1 [.int .i64 (p1.1:Int)],.arr 27 2 [iP p1],.arr 27 2 [iP p1,iP p2],.arr 91 2 [ePt p2],.arr 3 1 [.int .i64 (p2.1:Int)],.arr 27 2 [iP p2]]
 |_=> [.arr 95 2 [.agg [.sl (e+7) 3 0 3,.sl (e+3) 4 0 4]],.arr 91 2 [ePt p0],.arr 3 1 [.int .i64 (p0.1:Int)],.arr 3 1 [.int .i64 (p0.1:Int),.int .i64 (p1.1:Int),.int .i64 (p2.1:Int),.int .i64 (p3.1:Int)],.arr 91 2 [ePt p1],.arr 3 1 [.int .i64 (p1.1:Int)],.arr 27 2 [iP p1],.arr 27 2 [iP p1,iP p2,iP p3],.arr 91 2 [ePt p2],.arr 3 1 [.int .i64 (p2.1:Int)],.arr 27 2 [iP p2],.arr 91 2 [ePt p3],.arr 3 1 [.int .i64 (p3.1:Int)],.arr 27 2 [iP p3]]
theorem SW.then{C:Ctx}{x y:Code}{st st':St}{K:XE→St→Prop} (h:SW C x st (cX C .normal st')) (hy:SW C y st' K):SW C (.seq x y) st K:=
 SW.seq fun a w hr=>wpIn_mono (h a w hr) fun ex a w hq=>by
  cases ex with
  |normal=>obtain⟨s,⟨_,hg⟩,hr⟩:=hq;exact⟨s,SW.ghost hg hy,hr⟩
  |exit i=>obtain⟨s,⟨h1,_⟩,_⟩:=hq;cases h1
  |ret=>obtain⟨s,⟨h1,_⟩,_⟩:=hq;cases h1
  |panic ch=>obtain⟨s,d,v,F,μ,⟨h1,_⟩,_⟩:=hq;cases h1
  |goto l=>exact hq.elim
  |outgrown=>exact hq.elim
theorem SWP.then{C:Ctx}{x y:Code}{st st':St}{K:XE→St→Prop} (h:SW C x st (cX C .normal st')) (hy:SWP C y st' K):SWP C (.seq x y) st K:=
 SWP.seq fun a w hr=>wpIn_mono (h a w hr) fun ex a w hq=>by
  cases ex with
  |normal=>obtain⟨s,⟨_,hg⟩,hr⟩:=hq;exact⟨s,⟨rfl,fun a w hr=>hy a w (hg a w hr)⟩,hr⟩
  |exit i=>obtain⟨s,⟨h1,_⟩,_⟩:=hq;cases h1
  |ret=>obtain⟨s,⟨h1,_⟩,_⟩:=hq;cases h1
  |panic ch=>obtain⟨s,d,v,F,μ,⟨h1,_⟩,_⟩:=hq;cases h1
  |goto l=>exact hq.elim
  |outgrown=>exact hq.elim
theorem uo:∃(A R E asg r3 lp r11:Code),Try.f40.body=some (A.seq ((R.seq (.block 0 (.rangeFunc (.tmp 9) #[10] asg (.block 1 (r3.seq (lp.seq r11)))))).seq (E.seq .ret)))∧
  (∀C:Ctx,C.P=Try.prog→C.n=48→∀(a id N l0:Nat) (ob:List Ob),SW C A ⟨[(0,.ptr a 1 0 0),(1,.sl id N 0 l0)],ob⟩ (cX C .normal ⟨[(2,.ptr ob.length 1 0 0),(3,.ptr (ob.length+1) 1 0 0),(4,.ptr (ob.length+2) 1 0 0)],ob++[.arr 82 1 [.ptr a 1 0 0],.arr 86 1 [.sl id N 0 l0],.arr 86 1 [.nils]]⟩))∧
  (∀C:Ctx,C.P=Try.prog→C.n=48→∀(m:Nat) (ob:List Ob),SW C R ⟨[(2,.ptr m 1 0 0),(3,.ptr (m+1) 1 0 0),(4,.ptr (m+2) 1 0 0)],ob⟩ (cX C .normal ⟨[(2,.ptr m 1 0 0),(4,.ptr (m+2) 1 0 0),(9,.fn 58 [.ptr (m+1) 1 0 0])],ob⟩))∧
  (∀C:Ctx,C.P=Try.prog→C.n=48→∀(m:Nat) (d:DV) (ob:List Ob),SW C asg ⟨[(2,.ptr m 1 0 0),(4,.ptr (m+2) 1 0 0)]++[(10,d)],ob⟩ (cX C .normal ⟨[(2,.ptr m 1 0 0),(4,.ptr (m+2) 1 0 0)]++[(5,d)],ob⟩))∧
  (∀C:Ctx,C.P=Try.prog→C.n=48→∀(m:Nat) (d:DV) (Q:List Ob),SW C r3 ⟨[(2,.ptr m 1 0 0),(4,.ptr (m+2) 1 0 0)]++[(5,d)],Q⟩ (cX C .normal ⟨[(2,.ptr m 1 0 0),(4,.ptr (m+2) 1 0 0),(5,d),(6,.ptr Q.length 1 0 0)],Q++[.arr 95 2 [.agg [.nils,.nils]]]⟩))∧
  (∀C:Ctx,C.P=Try.prog→C.n=48→∀(m id N o e n:Nat) (XX:List DV) (p0 p1 p2 p3:aE) (Q:List Ob),Q.length=e→Q[id]?=some (.arr 91 2 XX)→XX.length=N→n≤4→(0<n→XX[o+0]?=some (ePt p0))→(1<n→XX[o+1]?=some (ePt p1))→(2<n→XX[o+2]?=some (ePt p2))→(3<n→XX[o+3]?=some (ePt p3))→
   SW C lp ⟨[(2,.ptr m 1 0 0),(4,.ptr (m+2) 1 0 0),(5,.sl id N o n),(6,.ptr e 1 0 0)],Q++[.arr 95 2 [.agg [.nils,.nils]]]⟩ (cX C .normal ⟨[(2,.ptr m 1 0 0),(4,.ptr (m+2) 1 0 0),(5,.sl id N o n),(6,.ptr e 1 0 0)],Q++itO e p0 p1 p2 p3 n⟩))∧
  (∀C:Ctx,C.P=Try.prog→C.n=48→∀(M M1:List Ob) (m a id N oo n e f k:Nat) (XX:List DV) (p0:aE) (ni nk o:DV),o=.nils→M[m]?=some (.arr 82 1 [.ptr a 1 0 0])→M[m+2]?=some (.arr 86 1 [o])→M[e]?=some (.arr 95 2 [.agg [ni,nk]])→M1.length=f→M1[m+2]?=some (.arr 86 1 [o])→M1[m]?=some (.arr 82 1 [.ptr a 1 0 0])→M1[e]?=some (.arr 95 2 [.agg [ni,nk]])→
   ((∃i g p l,ni=.sl i g p l)∨ni=.nils)→(∃i g p l,nk=.sl i g p l)→M[id]?=some (.arr 91 2 XX)→M1[id]?=some (.arr 91 2 XX)→XX.length=N→XX[oo]?=some (ePt p0)→0<n→
   Ok Try.prog 53 [.ptr a 1 0 0,.agg [ni,nk]] M (.ret (.int .i64 (k:Int))) M1→
   SW C r11 ⟨[(2,.ptr m 1 0 0),(4,.ptr (m+2) 1 0 0),(5,.sl id N oo n),(6,.ptr e 1 0 0)],M⟩ (cX C .normal ⟨[],M1.set (m+2) (.arr 86 1 [.sl (f+1) 1 0 1])++[.arr 91 2 [ePt ((k:Int),p0.2)],.arr 91 2 [ePt ((k:Int),p0.2)]]⟩))∧
  (∀C:Ctx,C.P=Try.prog→C.n=48→∀(M M1:List Ob) (m a id N oo n e f k j:Nat) (XX:List DV) (p0 y:aE) (ni nk o:DV),o=.sl j 1 0 1→M1[j]?=some (.arr 91 2 [ePt y])→j≠m+2→M[m]?=some (.arr 82 1 [.ptr a 1 0 0])→M[m+2]?=some (.arr 86 1 [o])→M[e]?=some (.arr 95 2 [.agg [ni,nk]])→M1.length=f→M1[m+2]?=some (.arr 86 1 [o])→M1[m]?=some (.arr 82 1 [.ptr a 1 0 0])→M1[e]?=some (.arr 95 2 [.agg [ni,nk]])→
   ((∃i g p l,ni=.sl i g p l)∨ni=.nils)→(∃i g p l,nk=.sl i g p l)→M[id]?=some (.arr 91 2 XX)→M1[id]?=some (.arr 91 2 XX)→XX.length=N→XX[oo]?=some (ePt p0)→0<n→
   Ok Try.prog 53 [.ptr a 1 0 0,.agg [ni,nk]] M (.ret (.int .i64 (k:Int))) M1→
   SW C r11 ⟨[(2,.ptr m 1 0 0),(4,.ptr (m+2) 1 0 0),(5,.sl id N oo n),(6,.ptr e 1 0 0)],M⟩ (cX C .normal ⟨[],(M1.set j (.arr 91 2 [ePt y,ePt ((k:Int),p0.2)])).set (m+2) (.arr 86 1 [.sl j 2 0 2])++[.arr 91 2 [ePt ((k:Int),p0.2)]]⟩))∧
  (∀C:Ctx,C.P=Try.prog→C.n=48→∀(M M1:List Ob) (m a id N oo n e f:Nat) (XX:List DV) (p0:aE) (ni nk o:DV),(o=.nils∨∃j y,o=.sl j 1 0 1∧M1[j]?=some (.arr 91 2 [ePt y])∧j≠m+2)→M[m]?=some (.arr 82 1 [.ptr a 1 0 0])→M[m+2]?=some (.arr 86 1 [o])→M[e]?=some (.arr 95 2 [.agg [ni,nk]])→M1.length=f→M1[m+2]?=some (.arr 86 1 [o])→M1[m]?=some (.arr 82 1 [.ptr a 1 0 0])→M1[e]?=some (.arr 95 2 [.agg [ni,nk]])→
   ((∃i g p l,ni=.sl i g p l)∨ni=.nils)→(∃i g p l,nk=.sl i g p l)→M[id]?=some (.arr 91 2 XX)→M1[id]?=some (.arr 91 2 XX)→XX.length=N→XX[oo]?=some (ePt p0)→0<n→
   Ok Try.prog 53 [.ptr a 1 0 0,.agg [ni,nk]] M (.pan (be 51)) M1→
   SWP C r11 ⟨[(2,.ptr m 1 0 0),(4,.ptr (m+2) 1 0 0),(5,.sl id N oo n),(6,.ptr e 1 0 0)],M⟩ (td (be 51) M1))∧
  (∀C:Ctx,C.P=Try.prog→C.n=48→∀(ob:List Ob) (m:Nat) (o:DV),ob[m+2]?=some (.arr 86 1 [o])→(o=.nils∨∃i g f l,o=.sl i g f l)→SW C E ⟨[(4,.ptr (m+2) 1 0 0)],ob⟩ (cX C .normal ⟨[(4,.ptr (m+2) 1 0 0)],ob⟩)):=by
 refine⟨_,_,_,_,_,_,_,rfl,?_,?_,?_,?_,?_,?_,?_,?_,?_⟩
 all_goals
  intro C hP hn
  have hL:af C.P L:=hP▸ae
  have hm:C.P.follows .mixedOrders=true:=hP▸ao
 ·intro a id N l0 ob
  repeat(first|(refine sB hL hn rfl ?_;simp only[go_sem,seval])|refine sN rfl ?_|refine sC ?_)
  exact⟨rfl,.of (by simp) ⟨rfl,by simp[lk],by simp[lk],trivial⟩⟩
 ·intro m ob
  repeat(first|(refine sB hL hn rfl ?_;simp only[go_sem,seval])|refine sN rfl ?_|refine sC ?_)
  exact⟨rfl,.of rfl ⟨rfl,rfl,rfl,trivial⟩⟩
 ·intro m d ob
  repeat(first|(refine sB hL hn rfl ?_;simp only[go_sem,seval])|refine sN rfl ?_|refine sC ?_)
  exact⟨rfl,.of rfl ⟨rfl,rfl,rfl,trivial⟩⟩
 ·intro m d Q
  repeat(first|(refine sB hL hn rfl ?_;simp only[go_sem,seval])|refine sN rfl ?_|refine sC ?_)
  exact⟨rfl,.of rfl ⟨rfl,rfl,rfl,rfl,trivial⟩⟩
 ·intro m id N o e n XX p0 p1 p2 p3 Q hQ hI hX hn4 x0 x1 x2 x3
  have qI:∀l:List Ob,(Q++l)[id]?=some (.arr 91 2 XX):=fun l=>by rw[AJ (AH.1 hI).1];exact hI
  have lq:∀l,(Q++l).length=e+l.length:=fun l=>by rw[AP,hQ]
  have q0:∀(l:List Ob),(Q++l)[e]?=l[0]?:=fun l=>by subst hQ;exact aL _ _
  have q1:∀(l:List Ob) (i:Nat),(Q++l)[e+i]?=l[i]?:=fun l i=>by subst hQ;exact ak _ _ _
  have q2:∀(l:List Ob) (o:Ob),(Q++l).set e o=Q++l.set 0 o:=fun l o=>by subst hQ;exact gV _ _ _
  have q3:∀(l:List Ob) (i:Nat) (o:Ob),(Q++l).set (e+i) o=Q++l.set i o:=fun l i o=>by subst hQ;exact ay _ _ _ _
  have hb:∀v,bf L 27 [(0,.int .u64 v)]=some (.agg [.int .u64 v,.int .u64 0]):=fun v=>rfl
  repeat(first|(refine sB hL hn rfl ?_;simp only[go_sem,seval])|refine sN rfl ?_|refine sC ?_)
  refine SW.lpg (fun k:Nat=>⟨[(2,.ptr m 1 0 0),(4,.ptr (m+2) 1 0 0),(5,.sl id N o n),(6,.ptr e 1 0 0),(11,.sl id N o n),(12,.int .i64 (n:Int)),(13,.int .i64 (k:Int))],Q++itO e p0 p1 p2 p3 k⟩) (fun k=>n-k) (fun k=>k≤n) 0 (BD _) (.of rfl ⟨rfl,rfl,rfl,rfl,rfl,rfl,rfl,trivial⟩) ?_
  intro k hk
  by_cases hlt:k<n
  ·have e1:decide ((k:Int)<(n:Int))=true:=decide_eq_true (by omega)
   have e0:(0≤(k:Int))=True:=eq_true (by omega)
   have e2:((k:Int)<(n:Int))=True:=eq_true (by omega)
   have w1:IntKind.i64.wrap ((k:Int)+1)=((k+1:Nat):Int):=wi (by omega) (by omega)
   rcases(show k=0∨k=1∨k=2∨k=3 by omega) with h|h|h|h
   ·have hO:itO e p0 p1 p2 p3 k=[.arr 95 2 [.agg [.nils,.nils]]]:=by rw[h];rfl
    have hO':itO e p0 p1 p2 p3 (k+1)=[.arr 95 2 [.agg [.nils,.sl (e+3) 1 0 1]],.arr 91 2 [ePt p0],.arr 3 1 [.int .i64 (p0.1:Int)],.arr 3 1 [.int .i64 (p0.1:Int)]]:=by rw[h];rfl
    have d0:decide ((k:Int)>0)=false:=by rw[h];rfl
    have e3:XX[o+k]?=some (.agg [.int .i64 (p0.1:Int),.int .u64 p0.2]):=by rw[h,x0 (by omega)];rfl
    rw[hO]
    repeat(first|(refine sB hL hn rfl ?_;simp only[go_sem,seval,e0,e2,e3,w1,d0,hX,lq,q0,q1,q2,q3,aG,qI,Bg])|refine sN rfl ?_|refine sC ?_)
    refine Lp.nextg (k+1) hlt (by omega) (.of ?_ ⟨rfl,rfl,rfl,rfl,rfl,rfl,rfl,trivial⟩)
    rw[hO']
    simp only[ePt]
   ·have hO:itO e p0 p1 p2 p3 k=[.arr 95 2 [.agg [.nils,.sl (e+3) 1 0 1]],.arr 91 2 [ePt p0],.arr 3 1 [.int .i64 (p0.1:Int)],.arr 3 1 [.int .i64 (p0.1:Int)]]:=by rw[h];rfl
    have hO':itO e p0 p1 p2 p3 (k+1)=[.arr 95 2 [.agg [.sl (e+7) 1 0 1,.sl (e+3) 2 0 2]],.arr 91 2 [ePt p0],.arr 3 1 [.int .i64 (p0.1:Int)],.arr 3 1 [.int .i64 (p0.1:Int),.int .i64 (p1.1:Int)],.arr 91 2 [ePt p1],.arr 3 1 [.int .i64 (p1.1:Int)],.arr 27 2 [iP p1],.arr 27 2 [iP p1]]:=by rw[h];rfl
    have d0:decide ((k:Int)>0)=true:=by rw[h];rfl
    have e3:XX[o+k]?=some (.agg [.int .i64 (p1.1:Int),.int .u64 p1.2]):=by rw[h,x1 (by omega)];rfl
    rw[hO]
    repeat(first|(refine sB hL hn rfl ?_;simp only[go_sem,seval,e0,e2,e3,w1,d0,hX,lq,q0,q1,q2,q3,aG,ePt,hb,qI,Bg])|refine sN rfl ?_|refine sC ?_)
    refine Lp.nextg (k+1) hlt (by omega) (.of ?_ ⟨rfl,rfl,rfl,rfl,rfl,rfl,rfl,trivial⟩)
    rw[hO']
    simp only[ePt,iP]
   ·have hO:itO e p0 p1 p2 p3 k=[.arr 95 2 [.agg [.sl (e+7) 1 0 1,.sl (e+3) 2 0 2]],.arr 91 2 [ePt p0],.arr 3 1 [.int .i64 (p0.1:Int)],.arr 3 1 [.int .i64 (p0.1:Int),.int .i64 (p1.1:Int)],.arr 91 2 [ePt p1],.arr 3 1 [.int .i64 (p1.1:Int)],.arr 27 2 [iP p1],.arr 27 2 [iP p1]]:=by rw[h];rfl
    have hO':itO e p0 p1 p2 p3 (k+1)=[.arr 95 2 [.agg [.sl (e+7) 2 0 2,.sl (e+3) 3 0 3]],.arr 91 2 [ePt p0],.arr 3 1 [.int .i64 (p0.1:Int)],.arr 3 1 [.int .i64 (p0.1:Int),.int .i64 (p1.1:Int),.int .i64 (p2.1:Int)],.arr 91 2 [ePt p1],.arr 3 1 [.int .i64 (p1.1:Int)],.arr 27 2 [iP p1],.arr 27 2 [iP p1,iP p2],.arr 91 2 [ePt p2],.arr 3 1 [.int .i64 (p2.1:Int)],.arr 27 2 [iP p2]]:=by rw[h];rfl
    have d0:decide ((k:Int)>0)=true:=by rw[h];rfl
    have e3:XX[o+k]?=some (.agg [.int .i64 (p2.1:Int),.int .u64 p2.2]):=by rw[h,x2 (by omega)];rfl
    rw[hO]
    repeat(first|(refine sB hL hn rfl ?_;simp only[go_sem,seval,e0,e2,e3,w1,d0,hX,lq,q0,q1,q2,q3,aG,ePt,iP,hb,qI,Bg])|refine sN rfl ?_|refine sC ?_)
    refine Lp.nextg (k+1) hlt (by omega) (.of ?_ ⟨rfl,rfl,rfl,rfl,rfl,rfl,rfl,trivial⟩)
    rw[hO']
    simp only[ePt,iP]
   ·have hO:itO e p0 p1 p2 p3 k=[.arr 95 2 [.agg [.sl (e+7) 2 0 2,.sl (e+3) 3 0 3]],.arr 91 2 [ePt p0],.arr 3 1 [.int .i64 (p0.1:Int)],.arr 3 1 [.int .i64 (p0.1:Int),.int .i64 (p1.1:Int),.int .i64 (p2.1:Int)],.arr 91 2 [ePt p1],.arr 3 1 [.int .i64 (p1.1:Int)],.arr 27 2 [iP p1],.arr 27 2 [iP p1,iP p2],.arr 91 2 [ePt p2],.arr 3 1 [.int .i64 (p2.1:Int)],.arr 27 2 [iP p2]]:=by rw[h];rfl
    have hO':itO e p0 p1 p2 p3 (k+1)=[.arr 95 2 [.agg [.sl (e+7) 3 0 3,.sl (e+3) 4 0 4]],.arr 91 2 [ePt p0],.arr 3 1 [.int .i64 (p0.1:Int)],.arr 3 1 [.int .i64 (p0.1:Int),.int .i64 (p1.1:Int),.int .i64 (p2.1:Int),.int .i64 (p3.1:Int)],.arr 91 2 [ePt p1],.arr 3 1 [.int .i64 (p1.1:Int)],.arr 27 2 [iP p1],.arr 27 2 [iP p1,iP p2,iP p3],.arr 91 2 [ePt p2],.arr 3 1 [.int .i64 (p2.1:Int)],.arr 27 2 [iP p2],.arr 91 2 [ePt p3],.arr 3 1 [.int .i64 (p3.1:Int)],.arr 27 2 [iP p3]]:=by rw[h];rfl
    have d0:decide ((k:Int)>0)=true:=by rw[h];rfl
    have e3:XX[o+k]?=some (.agg [.int .i64 (p3.1:Int),.int .u64 p3.2]):=by rw[h,x3 (by omega)];rfl
    rw[hO]
    repeat(first|(refine sB hL hn rfl ?_;simp only[go_sem,seval,e0,e2,e3,w1,d0,hX,lq,q0,q1,q2,q3,aG,ePt,iP,hb,qI,Bg])|refine sN rfl ?_|refine sC ?_)
    refine Lp.nextg (k+1) hlt (by omega) (.of ?_ ⟨rfl,rfl,rfl,rfl,rfl,rfl,rfl,trivial⟩)
    rw[hO']
    simp only[ePt,iP]
  ·obtain rfl:k=n:=by omega
   have e1:decide ((k:Int)<(k:Int))=false:=decide_eq_false (by omega)
   repeat(first|(refine sB hL hn rfl ?_;simp only[go_sem,seval,e1])|refine sN rfl ?_|refine sC ?_)
   exact⟨rfl,.of rfl ⟨rfl,rfl,rfl,rfl,trivial⟩⟩
 ·intro M M1 m a id N oo n e f k XX p0 ni nk o ho h1 h2 h3 h4 h5 h6 h7 hni hnk u1 u2 u3 u4 u5 hpg
  subst ho
  have lM:∀l,(M1++l).length=f+l.length:=fun l=>by rw[AP,h4]
  have gx:∀(i:Nat) (o:Ob) (l:List Ob),M1[i]?=some o→(M1++l)[i]?=some o:=fun i o l h=>by
   rw[AJ (AH.1 h).1];exact h
  have sx:∀(i:Nat) (o z:Ob) (l:List Ob),M1[i]?=some o→(M1++l).set i z=M1.set i z++l:=fun i o z l h=>Bo _ _ (AH.1 h).1
  have k1:=fun l=>gx _ _ l h5
  have k2:=fun l=>gx _ _ l h6
  have k3:=fun l=>gx _ _ l h7
  have k4:=fun z l=>sx _ _ z l h5
  have k5:∀(l:List Ob) (i:Nat),(M1++l)[f+i]?=l[i]?:=fun l i=>by subst h4;exact ak _ _ _
  have k6:∀(l:List Ob),(M1++l)[f]?=l[0]?:=fun l=>by subst h4;exact aL _ _
  have hb2:∀x y,bf L 91 [(0,.int .i64 x),(1,.int .u64 y)]=some (.agg [.int .i64 x,.int .u64 y]):=fun x y=>rfl
  have e0:((0:Int)<(n:Int))=True:=eq_true (by omega)
  have t9:∀x:Nat,x+0=x:=Bt
  have k0:=fun l=>gx _ _ l u2
  have t0:Ce 0=0:=rfl
  obtain⟨p1,p2⟩:=p0
  simp only[ePt] at*
  obtain⟨q1,q2,q3,q4,rfl⟩:=hnk
  rcases hni with⟨n1,n2,n3,n4,rfl⟩|rfl
  ·refine(?_:SW C _ _ _);refine sM hL hm hn di40_11 [M,M1,M1++[.arr 91 2 [.agg [.int .i64 (k:Int),.int .u64 p2]]],M1++[.arr 91 2 [.agg [.int .i64 (k:Int),.int .u64 p2]],.arr 91 2 [.agg [.int .i64 (k:Int),.int .u64 p2]]],M1.set (m+2) (.arr 86 1 [.sl (f+1) 1 0 1])++[.arr 91 2 [.agg [.int .i64 (k:Int),.int .u64 p2]],.arr 91 2 [.agg [.int .i64 (k:Int),.int .u64 p2]]]] rfl rfl rfl ?_
   unfold di40_11
   repeat(rw[ah];simp (maxSteps:=2000000) only[go_sem,seval,h1,h2,h3,h5,k1,t9])
   try rw[aj]
   try simp only[go_sem,seval,h1,h2,h3,h5,h6,h7,k1,k2,k3,k4,k5,k6,hb2,aG,lM,e0,t0,t9,u1,u2,u3,u4,k0,A8]
   refine aI.effx hP (hpg) rfl rfl rfl rfl ?_;simp (maxSteps:=2000000) only[go_sem,seval,aj,ah,k1,k4,hb2,aG,lM,e0,t0,t9,u1,u2,u3,u4]
   repeat(rw[ah];simp (maxSteps:=2000000) only[go_sem,seval,h1,h2,h3,h5,h6,h7,k1,k2,k3,k4,k5,k6,hb2,aG,lM,e0,t0,t9,u1,u2,u3,u4,k0,A8])
   try rw[aj]
   try simp only[go_sem,seval,h1,h2,h3,h5,h6,h7,k1,k2,k3,k4,k5,k6,hb2,aG,lM,e0,t0,t9,u1,u2,u3,u4,k0,A8]
   exact⟨rfl,rfl,.of rfl trivial⟩
  ·refine(?_:SW C _ _ _);refine sM hL hm hn di40_11 [M,M1,M1++[.arr 91 2 [.agg [.int .i64 (k:Int),.int .u64 p2]]],M1++[.arr 91 2 [.agg [.int .i64 (k:Int),.int .u64 p2]],.arr 91 2 [.agg [.int .i64 (k:Int),.int .u64 p2]]],M1.set (m+2) (.arr 86 1 [.sl (f+1) 1 0 1])++[.arr 91 2 [.agg [.int .i64 (k:Int),.int .u64 p2]],.arr 91 2 [.agg [.int .i64 (k:Int),.int .u64 p2]]]] rfl rfl rfl ?_
   unfold di40_11
   repeat(rw[ah];simp (maxSteps:=2000000) only[go_sem,seval,h1,h2,h3,h5,k1,t9])
   try rw[aj]
   try simp only[go_sem,seval,h1,h2,h3,h5,h6,h7,k1,k2,k3,k4,k5,k6,hb2,aG,lM,e0,t0,t9,u1,u2,u3,u4,k0,A8]
   refine aI.effx hP (hpg) rfl rfl rfl rfl ?_;simp (maxSteps:=2000000) only[go_sem,seval,aj,ah,k1,k4,hb2,aG,lM,e0,t0,t9,u1,u2,u3,u4]
   repeat(rw[ah];simp (maxSteps:=2000000) only[go_sem,seval,h1,h2,h3,h5,h6,h7,k1,k2,k3,k4,k5,k6,hb2,aG,lM,e0,t0,t9,u1,u2,u3,u4,k0,A8])
   try rw[aj]
   try simp only[go_sem,seval,h1,h2,h3,h5,h6,h7,k1,k2,k3,k4,k5,k6,hb2,aG,lM,e0,t0,t9,u1,u2,u3,u4,k0,A8]
   exact⟨rfl,rfl,.of rfl trivial⟩
 ·intro M M1 m a id N oo n e f k j XX p0 y ni nk o ho hj hne h1 h2 h3 h4 h5 h6 h7 hni hnk u1 u2 u3 u4 u5 hpg
  subst ho
  obtain⟨y1,y2⟩:=y
  have lM:∀l,(M1++l).length=f+l.length:=fun l=>by rw[AP,h4]
  have gx:∀(i:Nat) (o:Ob) (l:List Ob),M1[i]?=some o→(M1++l)[i]?=some o:=fun i o l h=>by
   rw[AJ (AH.1 h).1];exact h
  have sx:∀(i:Nat) (o z:Ob) (l:List Ob),M1[i]?=some o→(M1++l).set i z=M1.set i z++l:=fun i o z l h=>Bo _ _ (AH.1 h).1
  have k1:=fun l=>gx _ _ l h5
  have k2:=fun l=>gx _ _ l h6
  have k3:=fun l=>gx _ _ l h7
  have k4:=fun z l=>sx _ _ z l h5
  have k5:∀(l:List Ob) (i:Nat),(M1++l)[f+i]?=l[i]?:=fun l i=>by subst h4;exact ak _ _ _
  have k6:∀(l:List Ob),(M1++l)[f]?=l[0]?:=fun l=>by subst h4;exact aL _ _
  have hb2:∀x y,bf L 91 [(0,.int .i64 x),(1,.int .u64 y)]=some (.agg [.int .i64 x,.int .u64 y]):=fun x y=>rfl
  have e0:((0:Int)<(n:Int))=True:=eq_true (by omega)
  have t9:∀x:Nat,x+0=x:=Bt
  have k0:=fun l=>gx _ _ l u2
  have t0:Ce 0=0:=rfl
  obtain⟨p1,p2⟩:=p0
  simp only[ePt] at*
  have k7:=fun l=>gx _ _ l hj
  have k8:=fun z l=>sx _ _ z l hj
  have k9:∀(z:Ob) (l:List Ob),(M1.set j z++l)[m+2]?=some (.arr 86 1 [.sl j 1 0 1]):=fun z l=>by
   rw[AJ (by rw[Ci];exact(AH.1 h5).1),A6 hne];exact h5
  have k10:∀(z z':Ob) (l:List Ob),(M1.set j z++l).set (m+2) z'=(M1.set j z).set (m+2) z'++l:=fun z z' l=>Bo _ _ (by rw[Ci];exact(AH.1 h5).1)
  obtain⟨q1,q2,q3,q4,rfl⟩:=hnk
  rcases hni with⟨n1,n2,n3,n4,rfl⟩|rfl
  ·refine(?_:SW C _ _ _);refine sM hL hm hn di40_11 [M,M1,M1++[.arr 91 2 [.agg [.int .i64 (k:Int),.int .u64 p2]]],M1.set j (.arr 91 2 [.agg [.int .i64 y1,.int .u64 y2],.agg [.int .i64 (k:Int),.int .u64 p2]])++[.arr 91 2 [.agg [.int .i64 (k:Int),.int .u64 p2]]],(M1.set j (.arr 91 2 [.agg [.int .i64 y1,.int .u64 y2],.agg [.int .i64 (k:Int),.int .u64 p2]])).set (m+2) (.arr 86 1 [.sl j 2 0 2])++[.arr 91 2 [.agg [.int .i64 (k:Int),.int .u64 p2]]]] rfl rfl rfl ?_
   unfold di40_11
   repeat(rw[ah];simp (maxSteps:=2000000) only[go_sem,seval,h1,h2,h3,h5,k1,t9])
   try rw[aj]
   try simp only[go_sem,seval,h1,h2,h3,h5,h6,h7,k1,k2,k3,k4,k5,k6,hb2,aG,lM,e0,t0,t9,u1,u2,u3,u4,k0,A8,hj,k7,k8,k9,k10]
   refine aI.effx hP (hpg) rfl rfl rfl rfl ?_;simp (maxSteps:=2000000) only[go_sem,seval,aj,ah,hb2,aG,e0,t0,t9,u1,u2,u3,u4,k7,k8,k9,k10]
   repeat(rw[ah];simp (maxSteps:=2000000) only[go_sem,seval,h1,h2,h3,h5,h6,h7,k1,k2,k3,k4,k5,k6,hb2,aG,lM,e0,t0,t9,u1,u2,u3,u4,k0,A8,hj,k7,k8,k9,k10])
   try rw[aj]
   try simp only[go_sem,seval,h1,h2,h3,h5,h6,h7,k1,k2,k3,k4,k5,k6,hb2,aG,lM,e0,t0,t9,u1,u2,u3,u4,k0,A8,hj,k7,k8,k9,k10]
   exact⟨rfl,rfl,.of rfl trivial⟩
  ·refine(?_:SW C _ _ _);refine sM hL hm hn di40_11 [M,M1,M1++[.arr 91 2 [.agg [.int .i64 (k:Int),.int .u64 p2]]],M1.set j (.arr 91 2 [.agg [.int .i64 y1,.int .u64 y2],.agg [.int .i64 (k:Int),.int .u64 p2]])++[.arr 91 2 [.agg [.int .i64 (k:Int),.int .u64 p2]]],(M1.set j (.arr 91 2 [.agg [.int .i64 y1,.int .u64 y2],.agg [.int .i64 (k:Int),.int .u64 p2]])).set (m+2) (.arr 86 1 [.sl j 2 0 2])++[.arr 91 2 [.agg [.int .i64 (k:Int),.int .u64 p2]]]] rfl rfl rfl ?_
   unfold di40_11
   repeat(rw[ah];simp (maxSteps:=2000000) only[go_sem,seval,h1,h2,h3,h5,k1,t9])
   try rw[aj]
   try simp only[go_sem,seval,h1,h2,h3,h5,h6,h7,k1,k2,k3,k4,k5,k6,hb2,aG,lM,e0,t0,t9,u1,u2,u3,u4,k0,A8,hj,k7,k8,k9,k10]
   refine aI.effx hP (hpg) rfl rfl rfl rfl ?_;simp (maxSteps:=2000000) only[go_sem,seval,aj,ah,hb2,aG,e0,t0,t9,u1,u2,u3,u4,k7,k8,k9,k10]
   repeat(rw[ah];simp (maxSteps:=2000000) only[go_sem,seval,h1,h2,h3,h5,h6,h7,k1,k2,k3,k4,k5,k6,hb2,aG,lM,e0,t0,t9,u1,u2,u3,u4,k0,A8,hj,k7,k8,k9,k10])
   try rw[aj]
   try simp only[go_sem,seval,h1,h2,h3,h5,h6,h7,k1,k2,k3,k4,k5,k6,hb2,aG,lM,e0,t0,t9,u1,u2,u3,u4,k0,A8,hj,k7,k8,k9,k10]
   exact⟨rfl,rfl,.of rfl trivial⟩
 ·intro M M1 m a id N oo n e f XX p0 ni nk o ho h1 h2 h3 h4 h5 h6 h7 hni hnk u1 u2 u3 u4 u5 hpg
  obtain⟨k,_⟩:∃k:Nat,k=0:=⟨_,rfl⟩
  rcases ho with ho|⟨j,⟨y1,y2⟩,ho,hj,hne⟩
  ·subst ho
   have lM:∀l,(M1++l).length=f+l.length:=fun l=>by rw[AP,h4]
   have gx:∀(i:Nat) (o:Ob) (l:List Ob),M1[i]?=some o→(M1++l)[i]?=some o:=fun i o l h=>by
    rw[AJ (AH.1 h).1];exact h
   have sx:∀(i:Nat) (o z:Ob) (l:List Ob),M1[i]?=some o→(M1++l).set i z=M1.set i z++l:=fun i o z l h=>Bo _ _ (AH.1 h).1
   have k1:=fun l=>gx _ _ l h5
   have k2:=fun l=>gx _ _ l h6
   have k3:=fun l=>gx _ _ l h7
   have k4:=fun z l=>sx _ _ z l h5
   have k5:∀(l:List Ob) (i:Nat),(M1++l)[f+i]?=l[i]?:=fun l i=>by subst h4;exact ak _ _ _
   have k6:∀(l:List Ob),(M1++l)[f]?=l[0]?:=fun l=>by subst h4;exact aL _ _
   have hb2:∀x y,bf L 91 [(0,.int .i64 x),(1,.int .u64 y)]=some (.agg [.int .i64 x,.int .u64 y]):=fun x y=>rfl
   have e0:((0:Int)<(n:Int))=True:=eq_true (by omega)
   have t9:∀x:Nat,x+0=x:=Bt
   have k0:=fun l=>gx _ _ l u2
   have t0:Ce 0=0:=rfl
   obtain⟨p1,p2⟩:=p0
   simp only[ePt] at*
   obtain⟨q1,q2,q3,q4,rfl⟩:=hnk
   rcases hni with⟨n1,n2,n3,n4,rfl⟩|rfl
   ·refine SWP.draw hL hm hn di40_11 [M,M1,M1++[.arr 91 2 [.agg [.int .i64 (k:Int),.int .u64 p2]]],M1++[.arr 91 2 [.agg [.int .i64 (k:Int),.int .u64 p2]],.arr 91 2 [.agg [.int .i64 (k:Int),.int .u64 p2]]],M1.set (m+2) (.arr 86 1 [.sl (f+1) 1 0 1])++[.arr 91 2 [.agg [.int .i64 (k:Int),.int .u64 p2]],.arr 91 2 [.agg [.int .i64 (k:Int),.int .u64 p2]]]] rfl rfl rfl ?_
    unfold di40_11
    repeat(rw[ah];simp (maxSteps:=2000000) only[go_sem,seval,h1,h2,h3,h5,k1,t9])
    try rw[aj]
    try simp only[go_sem,seval,h1,h2,h3,h5,h6,h7,k1,k2,k3,k4,k5,k6,hb2,aG,lM,e0,t0,t9,u1,u2,u3,u4,k0,A8]
    refine aI.panm (.int .i64 (k:Int)) hP hpg rfl rfl rfl rfl ⟨rfl,rfl⟩ ?_
    rw[lC]
    simp only[upo,up]
    repeat(rw[ah];simp (maxSteps:=2000000) only[go_sem,seval,k1,k4,hb2,aG,lM,e0,t0,t9,u1,u2,u3,u4])
    try rw[aj]
    try simp only[go_sem,seval]
    exact⟨rfl,.inl rfl⟩
   ·refine SWP.draw hL hm hn di40_11 [M,M1,M1++[.arr 91 2 [.agg [.int .i64 (k:Int),.int .u64 p2]]],M1++[.arr 91 2 [.agg [.int .i64 (k:Int),.int .u64 p2]],.arr 91 2 [.agg [.int .i64 (k:Int),.int .u64 p2]]],M1.set (m+2) (.arr 86 1 [.sl (f+1) 1 0 1])++[.arr 91 2 [.agg [.int .i64 (k:Int),.int .u64 p2]],.arr 91 2 [.agg [.int .i64 (k:Int),.int .u64 p2]]]] rfl rfl rfl ?_
    unfold di40_11
    repeat(rw[ah];simp (maxSteps:=2000000) only[go_sem,seval,h1,h2,h3,h5,k1,t9])
    try rw[aj]
    try simp only[go_sem,seval,h1,h2,h3,h5,h6,h7,k1,k2,k3,k4,k5,k6,hb2,aG,lM,e0,t0,t9,u1,u2,u3,u4,k0,A8]
    refine aI.panm (.int .i64 (k:Int)) hP hpg rfl rfl rfl rfl ⟨rfl,rfl⟩ ?_
    rw[lC]
    simp only[upo,up]
    repeat(rw[ah];simp (maxSteps:=2000000) only[go_sem,seval,k1,k4,hb2,aG,lM,e0,t0,t9,u1,u2,u3,u4])
    try rw[aj]
    try simp only[go_sem,seval]
    exact⟨rfl,.inl rfl⟩
  ·subst ho
   have lM:∀l,(M1++l).length=f+l.length:=fun l=>by rw[AP,h4]
   have gx:∀(i:Nat) (o:Ob) (l:List Ob),M1[i]?=some o→(M1++l)[i]?=some o:=fun i o l h=>by
    rw[AJ (AH.1 h).1];exact h
   have sx:∀(i:Nat) (o z:Ob) (l:List Ob),M1[i]?=some o→(M1++l).set i z=M1.set i z++l:=fun i o z l h=>Bo _ _ (AH.1 h).1
   have k1:=fun l=>gx _ _ l h5
   have k2:=fun l=>gx _ _ l h6
   have k3:=fun l=>gx _ _ l h7
   have k4:=fun z l=>sx _ _ z l h5
   have k5:∀(l:List Ob) (i:Nat),(M1++l)[f+i]?=l[i]?:=fun l i=>by subst h4;exact ak _ _ _
   have k6:∀(l:List Ob),(M1++l)[f]?=l[0]?:=fun l=>by subst h4;exact aL _ _
   have hb2:∀x y,bf L 91 [(0,.int .i64 x),(1,.int .u64 y)]=some (.agg [.int .i64 x,.int .u64 y]):=fun x y=>rfl
   have e0:((0:Int)<(n:Int))=True:=eq_true (by omega)
   have t9:∀x:Nat,x+0=x:=Bt
   have k0:=fun l=>gx _ _ l u2
   have t0:Ce 0=0:=rfl
   obtain⟨p1,p2⟩:=p0
   simp only[ePt] at*
   have k7:=fun l=>gx _ _ l hj
   have k8:=fun z l=>sx _ _ z l hj
   have k9:∀(z:Ob) (l:List Ob),(M1.set j z++l)[m+2]?=some (.arr 86 1 [.sl j 1 0 1]):=fun z l=>by
    rw[AJ (by rw[Ci];exact(AH.1 h5).1),A6 hne];exact h5
   have k10:∀(z z':Ob) (l:List Ob),(M1.set j z++l).set (m+2) z'=(M1.set j z).set (m+2) z'++l:=fun z z' l=>Bo _ _ (by rw[Ci];exact(AH.1 h5).1)
   obtain⟨q1,q2,q3,q4,rfl⟩:=hnk
   rcases hni with⟨n1,n2,n3,n4,rfl⟩|rfl
   ·refine SWP.draw hL hm hn di40_11 [M,M1,M1++[.arr 91 2 [.agg [.int .i64 (k:Int),.int .u64 p2]]],M1.set j (.arr 91 2 [.agg [.int .i64 y1,.int .u64 y2],.agg [.int .i64 (k:Int),.int .u64 p2]])++[.arr 91 2 [.agg [.int .i64 (k:Int),.int .u64 p2]]],(M1.set j (.arr 91 2 [.agg [.int .i64 y1,.int .u64 y2],.agg [.int .i64 (k:Int),.int .u64 p2]])).set (m+2) (.arr 86 1 [.sl j 2 0 2])++[.arr 91 2 [.agg [.int .i64 (k:Int),.int .u64 p2]]]] rfl rfl rfl ?_
    unfold di40_11
    repeat(rw[ah];simp (maxSteps:=2000000) only[go_sem,seval,h1,h2,h3,h5,k1,t9])
    try rw[aj]
    try simp only[go_sem,seval,h1,h2,h3,h5,h6,h7,k1,k2,k3,k4,k5,k6,hb2,aG,lM,e0,t0,t9,u1,u2,u3,u4,k0,A8,hj,k7,k8,k9,k10]
    refine aI.panm (.int .i64 (k:Int)) hP hpg rfl rfl rfl rfl ⟨rfl,rfl⟩ ?_
    rw[lC]
    simp only[upo,up]
    repeat(rw[ah];simp (maxSteps:=2000000) only[go_sem,seval,hb2,aG,e0,t0,t9,u1,u2,u3,u4,k7,k8,k9,k10])
    try rw[aj]
    try simp only[go_sem,seval]
    exact⟨rfl,.inl rfl⟩
   ·refine SWP.draw hL hm hn di40_11 [M,M1,M1++[.arr 91 2 [.agg [.int .i64 (k:Int),.int .u64 p2]]],M1.set j (.arr 91 2 [.agg [.int .i64 y1,.int .u64 y2],.agg [.int .i64 (k:Int),.int .u64 p2]])++[.arr 91 2 [.agg [.int .i64 (k:Int),.int .u64 p2]]],(M1.set j (.arr 91 2 [.agg [.int .i64 y1,.int .u64 y2],.agg [.int .i64 (k:Int),.int .u64 p2]])).set (m+2) (.arr 86 1 [.sl j 2 0 2])++[.arr 91 2 [.agg [.int .i64 (k:Int),.int .u64 p2]]]] rfl rfl rfl ?_
    unfold di40_11
    repeat(rw[ah];simp (maxSteps:=2000000) only[go_sem,seval,h1,h2,h3,h5,k1,t9])
    try rw[aj]
    try simp only[go_sem,seval,h1,h2,h3,h5,h6,h7,k1,k2,k3,k4,k5,k6,hb2,aG,lM,e0,t0,t9,u1,u2,u3,u4,k0,A8,hj,k7,k8,k9,k10]
    refine aI.panm (.int .i64 (k:Int)) hP hpg rfl rfl rfl rfl ⟨rfl,rfl⟩ ?_
    rw[lC]
    simp only[upo,up]
    repeat(rw[ah];simp (maxSteps:=2000000) only[go_sem,seval,hb2,aG,e0,t0,t9,u1,u2,u3,u4,k7,k8,k9,k10])
    try rw[aj]
    try simp only[go_sem,seval]
    exact⟨rfl,.inl rfl⟩
 ·intro ob m o ho hs
  have hset:ob.set (m+2) (.arr 86 1 [o])=ob:=mJ ho
  have hc:o.cells=[o]:=by rcases hs with rfl|⟨i,g,f,l,rfl⟩<;>rfl
  rcases hs with rfl|⟨i,g,f,l,rfl⟩
  ·repeat(first|(refine sB hL hn rfl ?_;simp only[go_sem,seval,ho,hset,Cd])|refine sN rfl ?_|refine sC ?_)
   exact⟨rfl,.of rfl ⟨rfl,trivial⟩⟩
  ·repeat(first|(refine sB hL hn rfl ?_;simp only[go_sem,seval,ho,hset,Cd])|refine sN rfl ?_|refine sC ?_)
   exact⟨rfl,.of rfl ⟨rfl,trivial⟩⟩
def itG (e:Nat) (g:List aE):List Ob:=itO e (g.getD 0 (0,0)) (g.getD 1 (0,0)) (g.getD 2 (0,0)) (g.getD 3 (0,0)) g.length
def cz (n:Nat):Nat:=(itO 0 (0,0) (0,0) (0,0) (0,0) n).length
theorem cT (e:Nat) (g:List aE):(itG e g).length=cz g.length:=by
 unfold itG cz
 match g.length with
 |0=>rfl
 |1=>rfl
 |2=>rfl
 |3=>rfl
 |n+4=>rfl
def wO (g:List aE):List It:=(g.drop 1).map fun p=>(p.2,0)
def wK (g:List aE):List Int:=g.map (·.1)
theorem len24{α:Type} (g:List α) (h:2≤g.length∧g.length≤4):(∃a b,g=[a,b])∨(∃a b c,g=[a,b,c])∨∃a b c d,g=[a,b,c,d]:=by
 match g,h with
 | [a,b],_=>exact .inl ⟨a,b,rfl⟩
 | [a,b,c],_=>exact .inr (.inl ⟨a,b,c,rfl⟩)
 | [a,b,c,d],_=>exact .inr (.inr ⟨a,b,c,d,rfl⟩)
 | [],h=>simp at h
 | [a],h=>simp at h
 |a::b::c::d::e::r,h=>simp at h
theorem wP (e:Nat) (g:List aE) (h:2≤g.length∧g.length≤4):(itG e g)[0]?=some (.arr 95 2 [.agg [.sl (e+7) (g.length-1) 0 (g.length-1),.sl (e+3) g.length 0 g.length]])∧
  (itG e g)[3]?=some (.arr 3 1 ((wK g).map eI))∧(itG e g)[7]?=some (.arr 27 2 ((wO g).map eT)):=by
 rcases len24 g h with⟨a,b,rfl⟩|⟨a,b,c,rfl⟩|⟨a,b,c,d,rfl⟩<;>exact⟨rfl,rfl,rfl⟩
theorem yR (xs:List It) (ks:List Int) (hl:xs.length≤1048576) (hkl:ks.length≤1048576) (σ:List Ob) (i j:Nat) (hi:σ[i]?=some (.arr 27 2 (xs.map eT))) (hj:σ[j]?=some (.arr 3 1 (ks.map eI))):
  Ok Try.prog 63 [.agg [.sl i xs.length 0 xs.length,.sl j ks.length 0 ks.length]] σ (.ret (.tup [.vec 0 1 ((bl xs ks).1.map eB),.int .i64 (bl xs ks).2])) σ:=by
 refine Ok.lendF (c:=1) (kN 1 1 xs ks hl hkl []) rfl (fun n x y hx hy=>?_) (ki (pG eB _ _ (fun _=>.int) (by decide) _) .int)
 match n,hx,hy with
 |0,hx,hy=>
  cases hx;cases hy
  refine .agg rfl fun n x y hx hy=>?_
  match n,hx,hy with
  |0,hx,hy=>cases hx;cases hy;exact Fz.list eT (cD 0) hi
  |1,hx,hy=>cases hx;cases hy;exact Fz.list eI (sR 0) hj
  |i+2,hx,_=>simp at hx
 |i+1,hx,_=>simp at hx
theorem wv{xs:List It}{ks:List Int} (hl:xs.length≤1048576) (hkl:ks.length≤1048576){σ:List Ob}{a p:Nat} (h2:Two σ a p){i j:Nat} (hi0:σ.length≤i) (hj0:σ.length≤j) (T:List Ob){w:Wr} (hi:(wS2 σ a p w++T)[i]?=some (.arr 27 2 (xs.map eT))) (hj:(wS2 σ a p w++T)[j]?=some (.arr 3 1 (ks.map eI))) (hw:w.ok):
  (∀k w',cP w (bl xs ks).1=some (k,w')→Ok Try.prog 53 [.ptr a 1 0 0,.agg [.sl i xs.length 0 xs.length,.sl j ks.length 0 ks.length]] (wS2 σ a p w++T) (.ret (.int .i64 (k:Int))) (wS2 σ a p w'++T))∧
  (cP w (bl xs ks).1=none→∃w',Ok Try.prog 53 [.ptr a 1 0 0,.agg [.sl i xs.length 0 xs.length,.sl j ks.length 0 ks.length]] (wS2 σ a p w++T) (.pan (be 51)) (wS2 σ a p w'++T)):=by
 have hia:i≠a:=by have:=h2.la;omega
 have hip:i≠p:=by have:=h2.lb;omega
 have hja:j≠a:=by have:=h2.la;omega
 have hjp:j≠p:=by have:=h2.lb;omega
 have l1:Low (wS2 σ a p w++T).length (.sl i xs.length 0 xs.length):=(da _ _ _ _).2 (AH.1 hi).1
 have l2:Low (wS2 σ a p w++T).length (.sl j ks.length 0 ks.length):=(da _ _ _ _).2 (AH.1 hj).1
 have henc:=fun x y l=>yR xs ks hl hkl (s2 (wS2 σ a p w++T) a p x y++l) i j (oW hia hip hi x y l) (oW hja hjp hj x y l)
 refine⟨fun k w' h=>?_,fun h=>?_⟩
 ·have:=qy (σ:=wS2 σ a p w++T) (ca h2 w T) l1 l2 henc hw h
  rw[aT h2,aT h2] at this
  exact this
 ·obtain⟨w',this⟩:=n6 (σ:=wS2 σ a p w++T) (ca h2 w T) l1 l2 hw h
  rw[aT h2,aT h2] at this
  exact⟨w',this⟩
def dN (l:List aE):List (List aE):=if l.length=5 then [l.take 3,l.drop 3] else [l]
def nj (g:List aE):List UInt8×Int:=((bl (wO g) (wK g)).1,(g.headD (0,0)).2)
def cZ (w:Wr) (l:List aE):Option (List aE×Wr):=dV w ((dN l).map nj) []
def goP (l:List aE):List (Nat×Nat):=if l.length=5 then [(0,3),(3,2)] else [(0,l.length)]
theorem yJ (l:List aE) (h:2≤l.length∧l.length≤5):Grp 4 0 l.length (goP l):=by
 unfold goP
 by_cases h5:l.length=5
 ·rw[if_pos h5,h5]
  exact .cons 3 (by decide) rfl (.cons 2 (by decide) rfl (.nil 5))
 ·rw[if_neg h5]
  refine .cons l.length (by omega) (by rw[if_neg (by omega)];omega) ?_
  rw[B7]
  exact .nil _
theorem yK (l:List aE) (i:Nat) (g:List aE) (h:(dN l)[i]?=some g):∃o,(goP l)[i]?=some (o,g.length)∧o+g.length≤l.length∧(l.drop o).take g.length=g:=by
 unfold dN at h
 unfold goP
 by_cases h5:l.length=5
 ·rw[if_pos h5] at h⊢
  match i,h with
  |0,h=>
   cases h
   have e:(l.take 3).length=3:=by rw[Bi];omega
   exact⟨0,by rw[e];rfl,by omega,by rw[e];rfl⟩
  |1,h=>
   cases h
   have e:(l.drop 3).length=2:=by rw[BP];omega
   exact⟨3,by rw[e];rfl,by omega,AV (AU _)⟩
  |i+2,h=>simp at h
 ·rw[if_neg h5] at h⊢
  match i,h with
  |0,h=>cases h;exact⟨0,rfl,by omega,AV (AU _)⟩
  |i+1,h=>simp at h
theorem pq (l:List aE):(goP l).length=(dN l).length:=by
 unfold goP dN
 split<;>rfl
theorem q8 (l:List aE) (h:2≤l.length∧l.length≤5):1≤(dN l).length∧(dN l).length≤2∧∀g∈dN l,2≤g.length∧g.length≤4:=by
 unfold dN
 split
 ·refine⟨by simp,by simp,fun g hg=>?_⟩
  simp only[Bh,Bw,or_false] at hg
  rcases hg with rfl|rfl
  ·rw[Bi];omega
  ·rw[BP];omega
 ·refine⟨by simp,by simp,fun g hg=>?_⟩
  simp only[Bh,Bw,or_false] at hg
  subst hg
  omega
theorem vQ (y b id N l0:Nat) (ob:List Ob) (hob:ob[b]?=some (.arr 86 1 [.sl id N 0 l0])) (σ':List Ob) (hg:Ok Try.prog 59 [.sl id N 0 l0,.int .i64 4,.yld y] ob (.ret (.tup [])) σ'):
  Ok Try.prog 58 [.yld y,.ptr b 1 0 0] ob (.ret (.tup [])) σ':=by
 refine Ok.of_body ae Try.func58 rfl (by decide) (by simp[Try.ntmps58]) fun C hP hn hσ hfix hdd=>?_
 rw[show Try.f58.ntmps=6 from rfl] at hn
 have hL:af C.P L:=hP▸ae
 have hm:C.P.follows .mixedOrders=true:=hP▸ao
 repeat(first|(refine sB hL hn rfl ?_;simp only[go_sem,seval,hob])|refine sN rfl ?_|refine sC ?_)
 refine sK hP hL hn rfl rfl (hg) rfl rfl rfl rfl ?_;simp (maxSteps:=2000000) only[go_sem,seval]
 repeat(first|(refine sB hL hn rfl ?_;simp only[go_sem,seval])|refine sN rfl ?_|refine sC ?_)
 exact⟨_,_,_,ai.refl _ _,rfl,ag.refl _ _ _,rfl⟩
theorem uq (y b id N l0:Nat) (ob:List Ob) (hob:ob[b]?=some (.arr 86 1 [.sl id N 0 l0])) (σ':List Ob) (d:DV) (hg:Ok Try.prog 59 [.sl id N 0 l0,.int .i64 4,.yld y] ob (.pan d) σ'):
  Ok Try.prog 58 [.yld y,.ptr b 1 0 0] ob (.pan d) σ':=by
 refine Ok.of_body ae Try.func58 rfl (by decide) (by simp[Try.ntmps58]) fun C hP hn hσ hfix hdd=>?_
 rw[show Try.f58.ntmps=6 from rfl] at hn
 have hL:af C.P L:=hP▸ae
 have hm:C.P.follows .mixedOrders=true:=hP▸ao
 repeat(first|(refine sB hL hn rfl ?_;simp only[go_sem,seval,hob])|refine sN rfl ?_|refine sC ?_)
 refine aa.callp hP (by rw[hn];rfl) (hg) rfl rfl rfl rfl ?_;simp (maxSteps:=2000000) only[go_sem,seval]
 exact⟨_,ag.refl _ _ _,rfl⟩
def tlO (a:Nat) (s:DV) (o:DV) (T:List Ob) (x:Ob):List Ob:=
 [.arr 82 1 [.ptr a 1 0 0],.arr 86 1 [s],.arr 86 1 [o],.oth .defd [],x]++T
def prT (l:List aE):Ob:=.arr 91 2 (l.map ePt)
def TLf (m:Nat) (g0 g1:List aE):List aE→List Ob
 | []=> []
 | [y]=>itG (m+5) g0++[prT [y],prT [y]]
 |y::z::_=>itG (m+5) g0++[prT [y],prT [y,z]]++itG (m+5+(cz g0.length+2)) g1++[prT [z]]
def ODf (m:Nat) (g0:List aE):List aE→DV
 | []=>.nils
 |l=>.sl (m+5+(cz g0.length+1)) l.length 0 l.length
theorem vw (m:Nat) (g0 l:List aE):(ODf m g0 l).cells=[ODf m g0 l]:=by cases l<;>rfl
theorem qv{f:FuncId}{args:List DV}{σ:List Ob}{a p:Nat} (h2:Two σ a p){w w':Wr}{l:List aE}{j:Nat}{G:List Ob} (h0:0<l.length) (hj:(wS2 σ a p w'++G)[j]?=some (prT l)) (hj0:σ.length≤j)
  (h:Ok Try.prog f args (wS2 σ a p w) (.ret (.sl j l.length 0 l.length)) (wS2 σ a p w'++G)):Ok Try.prog f args (wS2 σ a p w) (.ret (wq σ.length l)) (wS2 σ a p w'++uN l):=by
 have hlen:(wS2 σ a p w).length=σ.length:=am w
 have:=Ok.tidy (c:=0) (D:=.sl σ.length l.length 0 l.length) (some j) h (cO h2 _ _) (by rw[hlen];exact .own rfl) (fun i hi=>by
  cases hi
  refine⟨by rw[hlen];exact hj0,_,_,_,hj,fun z hz=>?_⟩
  obtain⟨x,_,rfl⟩:=Ba.1 hz
  exact iF _ _)
 simp only[df,AZ,hj] at this
 match l,h0 with
 |y::r,_=>exact this
theorem xI (a:Nat) (s:DV) (o:DV) (T:List Ob) (x y:Ob):(tlO a s o T x).set 4 y=tlO a s o T y:=rfl
theorem xK (a:Nat) (s:DV) (o:DV) (T:List Ob) (x:Ob):(tlO a s o T x)[4]?=some x:=rfl
theorem xJ (a:Nat) (s:DV) (o:DV) (T:List Ob) (x:Ob):((tlO a s o T x).set 3 (.oth .defd [.bool true]))[2]?=some (.arr 86 1 [o]):=rfl
theorem oN (a:Nat) (s:DV) (o:DV) (T T':List Ob) (x:Ob):tlO a s o T x++T'=tlO a s o (T++T') x:=by simp[tlO]
theorem p5 (a:Nat) (s:DV) (o:DV) (T:List Ob) (x:Ob) (i:Nat):(tlO a s o T x)[5+i]?=T[i]?:=by
 rw[tlO,AT (by simp)]
 simp
theorem vO (a:Nat) (s:DV) (o:DV) (T:List Ob) (x y:Ob) (i:Nat):(tlO a s o T x).set (5+i) y=tlO a s o (T.set i y) x:=by
 rw[tlO,Cg _ _ (by simp)]
 simp[tlO]
theorem vP (a:Nat) (s:DV) (o o':DV) (T:List Ob) (x:Ob):(tlO a s o T x).set 2 (.arr 86 1 [o'])=tlO a s o' T x:=rfl
theorem gf (a:Nat) (s:DV) (o:DV) (T:List Ob) (x:Ob):(tlO a s o T x).length=5+T.length:=by simp[tlO];omega
theorem qU (g:List aE):(wO g).length=g.length-1:=by simp[wO]
theorem qT (g:List aE):(wK g).length=g.length:=by simp[wK]
theorem getD_some{α:Type}{l:List α}{i:Nat} (d:α) (h:i<l.length):l[i]?=some (l.getD i d):=by
 rw[AZ,AI h];rfl
def stO (σ:List Ob) (a p m:Nat) (s:DV) (g0 g1:List aE) (z:List aE×Wr) (x:Ob):List Ob:=wS2 σ a p z.2++tlO a s (ODf m g0 z.1) (TLf m g0 g1 z.1) x
theorem kx{σ:List Ob}{a p:Nat} (h2:Two σ a p) (s:DV){w:Wr} (hw:w.ok) (o:DV) (T:List Ob) (x:Ob) (g:List aE) (hg:2≤g.length∧g.length≤4){e:Nat} (he:e=σ.length+(5+T.length)):
  (wS2 σ a p w++tlO a s o (T++itG e g) x)[e]?=some (.arr 95 2 [.agg [.sl (e+7) (g.length-1) 0 (g.length-1),.sl (e+3) g.length 0 g.length]])∧
  (∀k w',cP w (nj g).1=some (k,w')→Ok Try.prog 53 [.ptr a 1 0 0,.agg [.sl (e+7) (g.length-1) 0 (g.length-1),.sl (e+3) g.length 0 g.length]] (wS2 σ a p w++tlO a s o (T++itG e g) x) (.ret (.int .i64 (k:Int))) (wS2 σ a p w'++tlO a s o (T++itG e g) x))∧
  (cP w (nj g).1=none→∃w',Ok Try.prog 53 [.ptr a 1 0 0,.agg [.sl (e+7) (g.length-1) 0 (g.length-1),.sl (e+3) g.length 0 g.length]] (wS2 σ a p w++tlO a s o (T++itG e g) x) (.pan (be 51)) (wS2 σ a p w'++tlO a s o (T++itG e g) x)):=by
 obtain⟨i0,i3,i7⟩:=wP e g hg
 have at_:∀(w:Wr) (i:Nat),(wS2 σ a p w++tlO a s o (T++itG e g) x)[e+i]?=(itG e g)[i]?:=fun w i=>by
  rw[he,C0,←am (σ:=σ) (a:=a) (p:=p) w,ak,show 5+T.length+i=5+(T.length+i) by omega,p5,ak]
 obtain⟨q1,q2⟩:=wv (xs:=wO g) (ks:=wK g) (by rw[qU];omega) (by rw[qT];omega) h2 (i:=e+7) (j:=e+3) (by omega) (by omega) (tlO a s o (T++itG e g) x) (w:=w) (by rw[at_];exact i7) (by rw[at_];exact i3) hw
 rw[qU,qT] at q1 q2
 exact⟨by have:=at_ w 0;rw[Bt] at this;rw[this];exact i0,q1,q2⟩
theorem SW.blockN{C:Ctx}{c:Code}{st st':St}{id:Nat} (h:SW C c st (cX C .normal st')):SW C (.block id c) st (cX C .normal st'):=
 SW.block fun a w hr=>wpIn_mono (h a w hr) fun ex a w hq=>by
  cases ex with
  |normal=>obtain⟨s,hk,hr⟩:=hq;exact⟨s,hk,hr⟩
  |exit i=>obtain⟨s,⟨h1,_⟩,_⟩:=hq;cases h1
  |ret=>obtain⟨s,⟨h1,_⟩,_⟩:=hq;cases h1
  |panic ch=>obtain⟨s,d,v,F,μ,⟨h1,_⟩,_⟩:=hq;cases h1
  |goto l=>exact hq.elim
  |outgrown=>exact hq.elim
theorem lG{σ:List Ob}{a p:Nat} (h2:Two σ a p){w:Wr} (hw:w.ok){id N:Nat}{XX:List DV} (hI:σ[id]?=some (.arr 91 2 XX)) (hia:id≠a) (hip:id≠p) (hN:XX.length=N) (l:List aE) (hl:2≤l.length∧l.length≤5) (hX:XX.take l.length=l.map ePt) (hle:l.length≤N):
  (∀l' w',cZ w l=some (l',w')→Ok Try.prog 40 [.ptr a 1 0 0,.sl id N 0 l.length] (wS2 σ a p w) (.ret (wq σ.length l')) (wS2 σ a p w'++uN l'))∧
  (cZ w l=none→∃w',Ok Try.prog 40 [.ptr a 1 0 0,.sl id N 0 l.length] (wS2 σ a p w) (.pan (be 51)) (wS2 σ a p w')):=by
 obtain⟨A,R,E,asg,r3,lp,r11,hb,hA,hR,hasg,hr3,hlp,hrA,hrB,hrP,hE⟩:=uo
 obtain⟨st,j,j1,j2,j3,j4,j5⟩:=jh ((dN l).map nj) w [] hw
 rw[AN] at j1 j5
 obtain⟨g1,g2,g3⟩:=q8 l hl
 have hG:=yJ l hl
 obtain⟨s,hs⟩:∃s,s=DV.sl id N 0 l.length:=⟨_,rfl⟩
 obtain⟨m,hm⟩:∃m,m=σ.length:=⟨_,rfl⟩
 have hlen:∀w,(wS2 σ a p w).length=m:=fun w=>by rw[hm];exact am w
 obtain⟨G0,hG0⟩:∃G0,G0=(dN l).getD 0 []:=⟨_,rfl⟩
 obtain⟨G1,hG1⟩:∃G1,G1=(dN l).getD 1 []:=⟨_,rfl⟩
 obtain⟨S,hS⟩:∃S:Nat→Ob→List Ob,S=fun i x=>stO σ a p m s G0 G1 (st i) x:=⟨_,rfl⟩
 obtain⟨vs,hvs⟩:∃vs:Nat→DV,vs=fun i=>.sl id N ((goP l).getD i (0,0)).1 ((goP l).getD i (0,0)).2:=⟨_,rfl⟩
 have hat:∀(w:Wr) (T:List Ob),(wS2 σ a p w++T)[id]?=some (.arr 91 2 XX):=fun w T=>bO hia hip hI w T
 have hxg:∀(o n:Nat) (g:List aE),n=g.length→o+n≤l.length→(l.drop o).take n=g→(XX.drop o).take n=g.map ePt:=fun o n g hn ho hg=>by
  have:(XX.drop o).take n=((XX.take l.length).drop o).take n:=by rw[List.drop_take,CL,BE (by omega)]
  rw[this,hX,←List.map_drop,←Dy,hg]
 have hvi:∀i o n,(goP l)[i]?=some (o,n)→vs i=.sl id N o n:=fun i o n h=>by rw[hvs];simp only[AZ,h,A8]
 have grp:∀i,i<(dN l).length→(dN l)[i]?=some ((dN l).getD i [])∧(2≤((dN l).getD i []).length∧((dN l).getD i []).length≤4)∧∃o,(goP l)[i]?=some (o,((dN l).getD i []).length)∧∀k,k<((dN l).getD i []).length→XX[o+k]?=some (ePt (((dN l).getD i []).getD k (0,0))):=fun i hi=>by
  have hg:=getD_some [] hi
  obtain⟨o,o1,o2,o3⟩:=yK l i _ hg
  refine⟨hg,g3 _ (AM hg),o,o1,fun k hk=>?_⟩
  have:=congrArg (fun l:List DV=>l[k]?) (hxg o _ _ rfl o2 o3)
  simp only[CY,if_pos hk,Bk,AQ,getD_some (0,0) hk,AW] at this
  exact this
 have front:∀(C:Ctx),C.P=Try.prog→C.n=48→∀(g:List aE) (w:Wr) (o:DV) (T:List Ob) (x:Ob),g.length≤4→∀oo,(∀k,k<g.length→XX[oo+k]?=some (ePt (g.getD k (0,0))))→∀e,e=m+(5+T.length)→
   SW C lp ⟨[(2,.ptr m 1 0 0),(4,.ptr (m+2) 1 0 0),(5,.sl id N oo g.length),(6,.ptr e 1 0 0)],(wS2 σ a p w++tlO a s o T x)++[.arr 95 2 [.agg [.nils,.nils]]]⟩
    (cX C .normal ⟨[(2,.ptr m 1 0 0),(4,.ptr (m+2) 1 0 0),(5,.sl id N oo g.length),(6,.ptr e 1 0 0)],wS2 σ a p w++tlO a s o (T++itG e g) x⟩):=fun C hP hn g w o T x hg4 oo hoo e he=>by
  have hq:(wS2 σ a p w++tlO a s o T x).length=e:=by rw[AP,hlen,gf,he]
  have:=hlp C hP hn m id N oo e g.length XX (g.getD 0 (0,0)) (g.getD 1 (0,0)) (g.getD 2 (0,0)) (g.getD 3 (0,0)) (wS2 σ a p w++tlO a s o T x) hq (hat _ _) hN hg4 (hoo 0) (hoo 1) (hoo 2) (hoo 3)
  rw[AR (wS2 σ a p w) (tlO a s o T x) (itO _ _ _ _ _ _),oN] at this
  exact this
 have frontR:∀(C:Ctx),C.P=Try.prog→C.n=48→∀(d:DV) (w:Wr) (o:DV) (T:List Ob) (x:Ob) e,e=m+(5+T.length)→
   SW C r3 ⟨[(2,.ptr m 1 0 0),(4,.ptr (m+2) 1 0 0)]++[(5,d)],wS2 σ a p w++tlO a s o T x⟩
    (cX C .normal ⟨[(2,.ptr m 1 0 0),(4,.ptr (m+2) 1 0 0),(5,d),(6,.ptr e 1 0 0)],(wS2 σ a p w++tlO a s o T x)++[.arr 95 2 [.agg [.nils,.nils]]]⟩):=fun C hP hn d w o T x e he=>by
  have:=hr3 C hP hn m d (wS2 σ a p w++tlO a s o T x)
  rw[show(wS2 σ a p w++tlO a s o T x).length=e by rw[AP,hlen,gf,he]] at this
  exact this
 have fW:∀(w:Wr) (o:DV) (T:List Ob) (x:Ob),(wS2 σ a p w++tlO a s o T x)[m]?=some (.arr 82 1 [.ptr a 1 0 0]):=fun w o T x=>by rw[←hlen w,aL];rfl
 have fO:∀(w:Wr) (o:DV) (T:List Ob) (x:Ob),(wS2 σ a p w++tlO a s o T x)[m+2]?=some (.arr 86 1 [o]):=fun w o T x=>by rw[←hlen w,ak];rfl
 have atT:∀(w:Wr) (o:DV) (T:List Ob) (x:Ob) (i n:Nat),n=m+(5+i)→(wS2 σ a p w++tlO a s o T x)[n]?=T[i]?:=fun w o T x i n hn=>by rw[hn,←hlen w,ak,p5]
 have setT:∀(w:Wr) (o:DV) (T:List Ob) (x y:Ob) (i n:Nat),n=m+(5+i)→(wS2 σ a p w++tlO a s o T x).set n y=wS2 σ a p w++tlO a s o (T.set i y) x:=fun w o T x y i n hn=>by rw[hn,←hlen w,ay,vO]
 have setO:∀(w:Wr) (o o':DV) (T:List Ob) (x:Ob),(wS2 σ a p w++tlO a s o T x).set (m+2) (.arr 86 1 [o'])=wS2 σ a p w++tlO a s o' T x:=fun w o o' T x=>by rw[←hlen w,ay,vP]
 have ndW:∀(w:Wr) (o:DV) (T:List Ob) (x:Ob) (g:List aE),2≤g.length∧g.length≤4→∀e,e=m+(5+T.length)→(wS2 σ a p w++tlO a s o (T++itG e g) x)[e]?=some (.arr 95 2 [.agg [.sl (e+7) (g.length-1) 0 (g.length-1),.sl (e+3) g.length 0 g.length]]):=fun w o T x g hg e he=>by
  rw[atT w o _ x T.length e he]
  have:=aL T (itG e g)
  rw[this]
  exact(wP e g hg).1
 have body:∀C:Ctx,C.P=Try.prog→C.n=48→∀i x,i<j→SW C (.block 1 (r3.seq (lp.seq r11))) ⟨[(2,.ptr m 1 0 0),(4,.ptr (m+2) 1 0 0)]++[(5,vs i)],S i x⟩ (cX C .normal ⟨[],S (i+1) x⟩):=fun C hP hn i x hi=>by
  obtain⟨hgi,hg,oo,hgo,hoo⟩:=grp i (by omega)
  obtain⟨k,k1,k2⟩:=j4 i (nj ((dN l).getD i [])) hi (by rw[AQ,hgi];rfl)
  have hsl:=(j3 i (by omega)).2
  have hok:=(j3 i (by omega)).1
  obtain⟨g,hgd⟩:∃g,g=(dN l).getD i []:=⟨_,rfl⟩
  rw[hvi i _ _ hgo,hS]
  dsimp only
  rw[←hgd] at hg k1 k2 hoo⊢
  obtain⟨s1,s2,hst⟩:∃s1 s2,st i=(s1,s2):=⟨_,_,rfl⟩
  obtain⟨t1,t2,hst'⟩:∃t1 t2,st (i+1)=(t1,t2):=⟨_,_,rfl⟩
  rw[hst] at hsl hok k1 k2⊢
  rw[hst'] at k1 k2⊢
  simp only at hsl hok k1 k2⊢
  obtain⟨p0,r,hgr⟩:∃p0 r,g=p0::r:=by
   match g,hg with
   |p0::r,_=>exact⟨p0,r,rfl⟩
   | [],h=>simp at h
  have hlow:(nj g).2=p0.2:=by rw[hgr];rfl
  have hp0:XX[oo]?=some (ePt p0):=by
   have:=hoo 0 (by omega)
   rw[hgr] at this
   exact this
  rw[hlow] at k2
  subst k2
  refine SW.blockN ?_
  match s1,hsl with
  | [],hsl=>
   obtain rfl:i=0:=by simpa using hsl.symm
   rw[←hG0] at hgd
   have he:m+5=m+(5+([]:List Ob).length):=rfl
   obtain⟨_,n2,_⟩:=kx h2 s hok .nils [] x g hg (e:=m+5) (by rw[←hm];exact he)
   have hpg:=n2 k t2 k1
   refine SW.then (frontR C hP hn _ s2 .nils [] x (m+5) he) (SW.then (front C hP hn g s2 .nils [] x hg.2 oo hoo (m+5) he) ?_)
   have hf:(wS2 σ a p t2++tlO a s .nils ([]++itG (m+5) g) x).length=m+(5+cz g.length):=by rw[AP,hlen,gf,Be,cT]
   have:=hrA C hP hn _ _ m a id N oo g.length (m+5) _ k XX p0 _ _ .nils rfl (fW s2 .nils ([]++itG (m+5) g) x) (fO _ _ _ _) (ndW _ _ _ _ g hg _ he) hf (fO _ _ _ _) (fW _ _ _ _) (ndW _ _ _ _ g hg _ he) (.inl ⟨_,_,_,_,rfl⟩) ⟨_,_,_,_,rfl⟩ (hat _ _) (hat _ _) hN hp0 (by omega) hpg
   rw[setO,AR,oN] at this
   have e1:ODf m G0 [((k:Int),p0.2)]=.sl (m+(5+cz g.length)+1) 1 0 1:=by
    rw[←hgd];show DV.sl (m+5+(cz g.length+1)) 1 0 1=_
    rw[show m+5+(cz g.length+1)=m+(5+cz g.length)+1 by omega]
   unfold stO
   dsimp only
   show SW C r11 ⟨_,wS2 σ a p s2++tlO a s .nils (itG (m+5) g) x⟩ (cX C .normal ⟨[],wS2 σ a p t2++tlO a s (ODf m G0 [((k:Int),p0.2)]) (TLf m G0 G1 [((k:Int),p0.2)]) x⟩)
   rw[e1]
   rw[←hgd]
   exact this
  | [y],hsl=>
   obtain rfl:i=1:=by simpa using hsl.symm
   rw[←hG1] at hgd
   obtain⟨T,hT⟩:∃T,T=itG (m+5) G0++[prT [y],prT [y]]:=⟨_,rfl⟩
   have hTl:T.length=cz G0.length+2:=by rw[hT,AP,cT];rfl
   obtain⟨e,hee⟩:∃e,e=m+5+(cz G0.length+2):=⟨_,rfl⟩
   have he:e=m+(5+T.length):=by rw[hTl,hee];omega
   obtain⟨jj,hjj⟩:∃jj,jj=m+5+(cz G0.length+1):=⟨_,rfl⟩
   obtain⟨_,n2,_⟩:=kx h2 s hok (.sl jj 1 0 1) T x g hg (e:=e) (by rw[←hm];exact he)
   have hpg:=n2 k t2 k1
   have o1:ODf m G0 [y]=.sl jj 1 0 1:=by rw[hjj];rfl
   have T1:TLf m G0 G1 [y]=T:=by rw[hT];rfl
   unfold stO
   dsimp only
   rw[o1,T1]
   refine SW.then (frontR C hP hn _ s2 (.sl jj 1 0 1) T x e he) (SW.then (front C hP hn g s2 (.sl jj 1 0 1) T x hg.2 oo hoo e he) ?_)
   have hf:(wS2 σ a p t2++tlO a s (.sl jj 1 0 1) (T++itG e g) x).length=m+(5+(T++itG e g).length):=by rw[AP,hlen,gf]
   have hjT:jj=m+(5+(cz G0.length+1)):=by rw[hjj];omega
   have hyj:(T++itG e g)[cz G0.length+1]?=some (prT [y]):=by
    rw[hT,AR,←cT (m+5) G0,ak];rfl
   have hset:(T++itG e g).set (cz G0.length+1) (prT [y,((k:Int),p0.2)])=itG (m+5) G0++[prT [y],prT [y,((k:Int),p0.2)]]++itG e g:=by
    rw[hT,AR,←cT (m+5) G0,ay,AR];rfl
   have:=hrB C hP hn _ _ m a id N oo g.length e _ k jj XX p0 y _ _ (.sl jj 1 0 1) rfl (by rw[atT t2 (.sl jj 1 0 1) (T++itG e g) x _ jj hjT];exact hyj) (by omega) (fW s2 (.sl jj 1 0 1) (T++itG e g) x) (fO _ _ _ _) (ndW _ _ _ _ g hg _ he) hf (fO _ _ _ _) (fW _ _ _ _) (ndW _ _ _ _ g hg _ he) (.inl ⟨_,_,_,_,rfl⟩) ⟨_,_,_,_,rfl⟩ (hat _ _) (hat _ _) hN hp0 (by omega) hpg
   rw[show Ob.arr 91 2 [ePt y,ePt ((k:Int),p0.2)]=prT [y,((k:Int),p0.2)] from rfl,setT _ _ _ _ _ _ jj hjT,hset,setO,AR,oN] at this
   have e1:ODf m G0 ([y]++[((k:Int),p0.2)])=.sl jj 2 0 2:=by rw[hjj];rfl
   have e2:TLf m G0 G1 ([y]++[((k:Int),p0.2)])=itG (m+5) G0++[prT [y],prT [y,((k:Int),p0.2)]]++itG e g++[prT [((k:Int),p0.2)]]:=by rw[hee,hgd];rfl
   rw[e1,e2]
   exact this
  |y::z::q,hsl=>simp at hsl;omega
 have hrng:Rng Try.prog 48 (m+3) 10 5 asg (.block 1 (r3.seq (lp.seq r11))) [(2,.ptr m 1 0 0),(4,.ptr (m+2) 1 0 0),(9,.fn 58 [.ptr (m+1) 1 0 0])] [(2,.ptr m 1 0 0),(4,.ptr (m+2) 1 0 0)] S vs j:=by
  refine⟨by decide,fun t d ht=>?_,fun i x y=>?_,fun i x=>?_,fun C hP hn d ob=>hasg C hP hn m d ob,body⟩
  ·simp only[Bh,Prod.mk.injEq,Bw,or_false] at ht
   rcases ht with⟨rfl,rfl⟩|⟨rfl,rfl⟩<;>exact⟨by decide,by decide,rfl⟩
  ·rw[hS]
   show(wS2 σ a p (st i).2++_).set (m+4) y=_
   rw[←hlen (st i).2,ay,xI]
   rfl
  ·rw[hS]
   show(wS2 σ a p (st i).2++_)[m+4]?=_
   rw[←hlen (st i).2,ak,xK]
 have hAA:=fun C hP hn=>hA C hP hn a id N l.length (wS2 σ a p w)
 rw[hlen] at hAA
 have hRR:=fun C hP hn=>hR C hP hn m (wS2 σ a p w++[.arr 82 1 [.ptr a 1 0 0],.arr 86 1 [.sl id N 0 l.length],.arr 86 1 [.nils]])
 have hS0:∀x,S 0 x=((wS2 σ a p w++[.arr 82 1 [.ptr a 1 0 0],.arr 86 1 [.sl id N 0 l.length],.arr 86 1 [.nils]])++[.oth .defd []])++[x]:=fun x=>by
  rw[hS]
  simp only[j2,stO,ODf,TLf,tlO,hs,AR,Bq,Be]
 have hcell:∀x,(S 0 x)[m+1]?=some (.arr 86 1 [.sl id N 0 l.length]):=fun x=>by
  rw[hS]
  show(wS2 σ a p (st 0).2++_)[m+1]?=_
  rw[←hlen (st 0).2,ak,←hs]
  rfl
 have hSid:∀i x,(S i x)[id]?=some (.arr 91 2 XX):=fun i x=>by rw[hS];exact hat _ _
 have hds:∀(w:Wr) (o:DV) (T:List Ob) (x y:Ob),(wS2 σ a p w++tlO a s o T x).set (m+3) y=wS2 σ a p w++(tlO a s o T x).set 3 y:=fun w o T x y=>by rw[←hlen w,ay]
 rcases j5 with⟨rfl,j5⟩|⟨b,hb1,hb2,j5⟩
 ·refine⟨fun l' w' hf=>?_,fun hf=>(by unfold cZ at hf;rw[j5] at hf;cases hf)⟩
  unfold cZ at hf
  rw[j5] at hf
  have hst:st (dN l).length=(l',w'):=AX.inj hf
  have hl':=(j3 _ (AU _)).2
  rw[hst] at hl'
  simp only[Bj,Bc] at hl'
  obtain⟨x,hok⟩:=nX (args:=[.ptr a 1 0 0,.sl id N 0 l.length]) (σ:=wS2 σ a p w) (g:=9) (obF:=fun x=>wS2 σ a p w'++tlO a s (ODf m G0 l') (TLf m G0 G1 l') x) (dres:=ODf m G0 l') (envE:=[(4,.ptr (m+2) 1 0 0)]) (envF:=[(4,.ptr (m+2) 1 0 0)]) hrng ae Try.func40 (by decide) (by simp[Try.ntmps40]) rfl hb hAA hRR (by rw[AP,hlen];rfl) hS0 rfl (fun x hr=>by
    refine vQ _ _ id N l.length _ (hcell x) _ ?_
    exact ou (m+4) 4 id N 0 l.length XX _ (by decide) (by decide) (by omega) (by omega) hG (fun i=>S i x) _ (by rw[pq];exact AU _) _ _ (fun i _=>hSid i x) hN (fun i o n hi hg=>by rw[←hvi i o n hg];exact hr i hi) (.inl ⟨by rw[pq],rfl,rfl⟩)) ⟨rfl,trivial⟩ (fun C hP hn x=>by
    rw[hS]
    simp only[stO,hst]
    exact hE C hP hn _ m (ODf m G0 l') (fO _ _ _ _) (by
     match l' with
     | []=>exact .inl rfl
     |y::r=>exact .inr ⟨_,_,_,_,rfl⟩)) (fun x=>by
    show(wS2 σ a p _++_)[m+3]?=_
    rw[←hlen w',ak]
    rfl) (fun x=>by
    rw[hds]
    exact qn (hlen _) (xJ a s _ _ x) (vw _ _ _))
  rw[hds] at hok
  have hjj:∀T:List Ob,(wS2 σ a p w'++(tlO a s (ODf m G0 l') T x).set 3 (.oth .defd [.bool true]))[m+5+(cz G0.length+1)]?=T[cz G0.length+1]?:=fun T=>by
   rw[show m+5+(cz G0.length+1)=m+(5+(cz G0.length+1)) by omega,←hlen w',ak]
   show([_,_,_,_,_]++T)[5+(cz G0.length+1)]?=_
   rw[AT (by simp)]
   simp
  match l',hl' with
  | [],hl'=>simp at hl';omega
  | [y],_=>
   refine qv h2 (by simp) (j:=m+5+(cz G0.length+1)) ?_ (by omega) hok
   rw[hjj]
   show(itG (m+5) G0++_)[_]?=_
   rw[←cT (m+5) G0,ak]
   rfl
  | [y,z],_=>
   refine qv h2 (by simp) (j:=m+5+(cz G0.length+1)) ?_ (by omega) hok
   rw[hjj]
   show(itG (m+5) G0++[prT [y],prT [y,z]]++itG _ G1++_)[_]?=_
   rw[AR,AR,←cT (m+5) G0,ak]
   rfl
  |y::z::q::r,hl'=>simp at hl';omega
 ·refine⟨fun l w' hf=>(by unfold cZ at hf;rw[j5] at hf;cases hf),fun _=>?_⟩
  have hjl:j<(dN l).length:=by
   have:=(AH.1 hb1).1
   simpa using this
  obtain⟨hgi,hg,oo,hgo,hoo⟩:=grp j hjl
  rw[AQ,hgi] at hb1
  obtain rfl:nj ((dN l).getD j [])=b:=AX.inj hb1
  obtain⟨g,hgd⟩:∃g,g=(dN l).getD j []:=⟨_,rfl⟩
  rw[←hgd] at hg hgi hb2 hgo hoo
  have hsl:=(j3 j (AU _)).2
  have hok:=(j3 j (AU _)).1
  obtain⟨s1,s2,hst⟩:∃s1 s2,st j=(s1,s2):=⟨_,_,rfl⟩
  rw[hst] at hsl hok hb2
  simp only[Bj,Bc] at hsl hok hb2
  obtain⟨o,ho⟩:∃o,o=ODf m G0 s1:=⟨_,rfl⟩
  obtain⟨T,hT⟩:∃T,T=TLf m G0 G1 s1:=⟨_,rfl⟩
  obtain⟨e,he⟩:∃e,e=m+(5+T.length):=⟨_,rfl⟩
  obtain⟨p0,r,hgr⟩:∃p0 r,g=p0::r:=by
   match g,hg with
   |p0::r,_=>exact⟨p0,r,rfl⟩
   | [],h=>simp at h
  have hwx:∀x,∃w',Ok Try.prog 53 [.ptr a 1 0 0,.agg [.sl (e+7) (g.length-1) 0 (g.length-1),.sl (e+3) g.length 0 g.length]] (wS2 σ a p s2++tlO a s o (T++itG e g) x) (.pan (be 51)) (wS2 σ a p w'++tlO a s o (T++itG e g) x):=fun x=>
   (kx h2 s hok o T x g hg (e:=e) (by rw[←hm];exact he)).2.2 hb2
  obtain⟨wp,hwp⟩:=Classical.axiomOfChoice hwx
  have hvj:vs j=.sl id N oo g.length:=hvi j _ _ hgo
  have hp0:XX[oo]?=some (ePt p0):=by
   have:=hoo 0 (by omega)
   rw[hgr] at this
   exact this
  have hos:∀x,o=.nils∨∃jj y,o=.sl jj 1 0 1∧(wS2 σ a p (wp x)++tlO a s o (T++itG e g) x)[jj]?=some (.arr 91 2 [ePt y])∧jj≠m+2:=fun x=>by
   match s1,hsl with
   | [],_=>exact .inl ho
   | [y],_=>
    refine .inr ⟨m+5+(cz G0.length+1),y,ho,?_,by omega⟩
    rw[atT _ _ _ _ (cz G0.length+1) _ (by omega),hT]
    show((itG (m+5) G0++[prT [y],prT [y]])++itG e g)[_]?=_
    rw[AR,←cT (m+5) G0,ak]
    rfl
   |y::z::q,hsl=>simp at hsl;omega
  obtain⟨x,hok⟩:=nY (args:=[.ptr a 1 0 0,.sl id N 0 l.length]) (σ:=wS2 σ a p w) (g:=9) (d:=be 51) (σp:=fun x=>wS2 σ a p (wp x)++tlO a s o (T++itG e g) x) hrng ae Try.func40 (by decide) (by simp[Try.ntmps40]) rfl hb hAA hRR (by rw[AP,hlen];rfl) hS0 rfl (fun C hP hn x=>by
    rw[hvj,hS]
    simp only[stO,hst,←ho,←hT]
    refine SWP.block (SWP.then (frontR C hP hn _ s2 o T x e he) (SWP.then (front C hP hn g s2 o T x hg.2 oo hoo e he) ?_))
    have:=hrP C hP hn _ _ m a id N oo g.length e _ XX p0 _ _ o (hos x) (fW s2 o (T++itG e g) x) (fO _ _ _ _) (ndW _ _ _ _ g hg _ he) rfl (fO _ _ _ _) (fW _ _ _ _) (ndW _ _ _ _ g hg _ he) (.inl ⟨_,_,_,_,rfl⟩) ⟨_,_,_,_,rfl⟩ (hat _ _) (hat _ _) hN hp0 (by omega) (hwp x)
    exact this) (fun x y hr hpn=>by
    refine uq _ _ id N l.length _ (hcell x) _ _ ?_
    refine ou (m+4) 4 id N 0 l.length XX _ (by decide) (by decide) (by omega) (by omega) hG (fun i=>S i x) j (by rw[pq];exact j1) _ _ (fun i _=>hSid i x) hN (fun i o n hi hg=>by rw[←hvi i o n hg];exact hr i hi) (.inr ⟨oo,g.length,be 51,hgo,rfl,?_⟩)
    rw[←hvj]
    exact hpn) (fun x=>by
    show(wS2 σ a p _++_)[m+3]?=_
    rw[←hlen (wp x),ak]
    rfl)
  rw[hds] at hok
  exact⟨_,dJ h2 hok⟩
end Go.VL
