/- Proved: TreeOwn: whatever tree, root and item come in (together of bulk at most 1048576), the call returns true and they read as they did; no other condition. This text is part 2 of 18. -/
import Derived.Test.YtghomgiklhbjiaaW01
import Derived.Laws.StructEq
import Derived.OrdersIn
set_option linter.unusedSimpArgs false
set_option linter.unusedVariables false
open List renaming all_cons → Cv,all_eq_true → AS,all_nil → Do,append_assoc → AR,append_nil → AK,cons_append → Bq,contains_iff_mem → BB,eq_nil_iff_forall_not_mem → Dv,eq_nil_of_length_eq_zero → BC,ext_getElem? → BV,flatMap_cons → Cx,getD_eq_getElem?_getD → AZ,getElem?_append_left → AJ,getElem?_append_right → AT,getElem?_cons_succ → BH,getElem?_cons_zero → AY,getElem?_drop → Bk,getElem?_eq_getElem → AI,getElem?_eq_none → BA,getElem?_eq_some_iff → AH,getElem?_map → AQ,getElem?_replicate → Ck,getElem?_set → B2,getElem?_take_of_lt → BM,getElem?_toArray → Bn,getElem_mem → BS,head? → Di,head?_drop → Cz,length → Cr,length_append → AP,length_cons → A5,length_map → AN,length_nil → Bj,length_replicate → Br,length_set → Ci,length_singleton → Ca,length_take → Bi,map_append → B8,map_cons → Bf,map_nil → BQ,mem_append → BT,mem_cons → Bh,mem_filter → CA,mem_map → Ba,mem_of_getElem? → AM,mem_of_mem_drop → By,mem_of_mem_take → Bz,mem_range → Cw,mem_replicate → BK,mem_singleton → BX,nil_append → Be,range → Bs,replicate → AO,set_append_right → Cg,tail → DR,tail_drop → C4,take_take → CL
open Nat renaming add_assoc → C0,add_mul → Bx,add_sub_cancel_left → Cn,add_zero → Bt,eq_or_lt_of_le → Cu,eq_zero_or_pos → B4,le_mul_of_pos_right → CJ,le_of_eq → DF,le_refl → AU,le_succ → DN,le_trans → Bl,lt_or_ge → Bp,lt_trans → DS,min_eq_left → BE,mod_eq_of_lt → CK,mul_comm → C7,mul_le_mul_right → A7,mul_one → Dk,not_lt → Du,strongRecOn → Dh,sub_zero → B6,succ_mul → BY,zero_add → Bc,zero_le → BD,zero_mul → CT
open Option renaming getD_some → A8,map_some → AW,none → DC,some → AX
open Int renaming eq_ofNat_of_zero_le → Cj,toNat_natCast → Bg
open Array renaming empty_append → B3,eq_empty_of_size_eq_zero → BZ,ext' → BJ,ext_getElem? → CQ,getD_eq_getD_getElem? → A0,getElem?_append_left → BO,getElem?_eq_getElem → BG,getElem?_eq_some_iff → Bm,getElem?_map → DK,getElem?_modify → C1,getElem?_push → Da,getElem?_replicate → De,getElem?_setIfInBounds → Bu,getElem?_toList → Cf,length_toList → B9,mem_toList_iff → DB,replicate → BI,size_append → C2,size_map → Dm,size_range → Dt,toList_map → DQ
open Bool renaming and_eq_true → BF,and_true → Dc,false_eq_true → Bb,false_or → Dx,not_eq_true' → Cy,not_false → C3,not_true → DO,or_eq_true → Cs,true_and → Dd
namespace Go.VL
open Go
section
section
variable{P:Program}{L:Lay}{w:World}{F:Nat→Nat→Prop}{μ:Nat→Option Nat}{σ:List Ob}
def kc (L:Lay) (t:Nat) (d i:DV):Option DV:=
 match i with
 |.int _ n=>match L t,d with
  |some {d:=.str,..},.str s=>if 0≤n then(match s.data[n.toNat]? with
    |some b=>some (.int .u8 b.toNat)
    |none=>none) else none
  |some {d:=.array m e,..},.agg cs=>match L e with
   |some te=>if 0≤n∧n<(m:Int) then(if te.d.isAgg then none else cs[n.toNat*te.k]?) else none
   |none=>none
  |_,_=>none
 |_=>none
theorem qj (hL:af P L){t:Nat}{d i d':DV}{v vi:Value} (h:kc L t d i=some d') (hv:Rep w F μ σ d v) (hi:Rep w F μ σ i vi):
  ∃v',(Instr.index t v vi).run P w=.ok v' w∧Rep w F μ σ d' v':=by
 unfold kc at h
 split at h<;>try cases h
 rename_i kk n
 cases hi
 split at h<;>try cases h
 ·rename_i k0 by0 z s ht
  obtain⟨desc,hu,rfl⟩:=(hL _ _ ht).und
  cases hv
  by_cases hn:0≤n
  ·rw[if_pos hn] at h
   split at h<;>try cases h
   rename_i b hb
   refine⟨.int .u8 b.toNat,?_,.int⟩
   have hb':(s[n.toNat]?:Option UInt8)=some b:=by
    obtain⟨h1,h2⟩:=Bm.1 hb
    have h1':n.toNat<s.size:=h1
    rw[getElem?_pos s n.toNat h1']
    exact congrArg some h2
   simp only[Instr.index,Sem.run_bind,asIntOf,Sem.run_pure,Result.andThen_ok,run_underlying hu,if_pos hn,hb']
  ·rw[if_neg hn] at h;cases h
 ·rename_i k0 by0 m e z cs ht
  obtain⟨desc,hu,rfl⟩:=(hL _ _ ht).und
  split at h<;>try cases h
  rename_i te hte
  by_cases hn:0≤n∧n<(m:Int)
  ·rw[if_pos hn] at h
   by_cases ha:te.d.isAgg=true
   ·rw[if_pos ha] at h;cases h
   ·rw[if_neg ha] at h
    cases hv with
    | @agg _ vs hl hh=>
     have hlt:=(AH.1 h).1
     have hv':vs[n.toNat*te.k]?=some (vs[n.toNat*te.k]'(by omega)):=AI _
     refine⟨_,?_,hh _ _ _ h hv'⟩
     have hagg:=(hL _ _ hte).isAgg w
     rw[Bool.not_eq_true] at ha
     rw[ha] at hagg
     simp only[Instr.index,Sem.run_bind,asIntOf,Sem.run_pure,Result.andThen_ok,run_underlying hu,if_pos hn,(hL _ _ hte).size,part,hagg,Bb,if_false,Bn,hv']
  ·rw[if_neg hn] at h;cases h
def gN (L:Lay) (σ:List Ob) (t:Nat) (d:DV) (lo hi:Option DV) (mx:DV):Option DV:=
 match L t with
 |some {d:=.slice e,..}=>match L e with
  |some te=>match d with
   |.vec c k xs=>if te.k=k then(match au (some mx) 0 xs.length with
     |some m=>match au hi m m with
      |some h=>match au lo 0 h with
       |some l=>some (.vec c k ((xs.take h).drop l))
       |none=>none
      |none=>none
     |none=>none) else none
   |.sl id g off len=>match σ[id]? with
    |some (.arr _t0 k xs)=>if te.k=k∧g=xs.length then(match au (some mx) 0 len with
     |some m=>match au hi m m with
      |some h=>match au lo 0 h with
       |some l=>some (.sl id g (off+l) (h-l))
       |none=>none
      |none=>none
     |none=>none) else none
    |_=>none
   |_=>none
  |none=>none
 |_=>none
theorem fI{dlo dhi:Option DV}{dmx:DV}{vlo vhi:Option Value}{vmx:Value} (hlo:kp w F μ σ dlo vlo) (hhi:kp w F μ σ dhi vhi) (hhs:dhi.isSome=true) (hmx:Rep w F μ σ dmx vmx){len cap l h m:Nat} (hc:len≤cap)
  (h0:au (some dmx) 0 len=some m) (h1:au dhi m m=some h) (h2:au dlo 0 h=some l):
  (Instr.sliceBounds true len cap vlo vhi (some vmx)).run P w=.ok (l,h,m) w∧l≤h∧h≤m∧m≤len:=by
 have hm:=bt (P:=P) hmx h0 hc .slice3Acap
 rcases hhi with⟨rfl,rfl⟩|⟨d',v',rfl,rfl,hr⟩
 ·cases hhs
 ·have hh:=bt (P:=P) hr h1 (AU _) .slice3B
  rcases hlo with⟨rfl,rfl⟩|⟨d2,v2,rfl,rfl,hr2⟩
  ·simp only[au,AX.injEq] at h2
   subst h2
   refine⟨?_,BD _,hh.2,hm.2⟩
   simp[Instr.sliceBounds,hm.1,hh.1]
  ·have hl:=bt (P:=P) hr2 h2 (AU _) .slice3C
   refine⟨?_,hl.2,hh.2,hm.2⟩
   simp[Instr.sliceBounds,hm.1,hh.1,hl.1]
theorem o4 (hL:af P L){t:Nat}{d d':DV}{v:Value}{lo hi:Option DV}{mx:DV}{vlo vhi:Option Value}{vmx:Value} (h:gN L σ t d lo hi mx=some d') (hv:Rep w F μ σ d v) (hlo:kp w F μ σ lo vlo) (hhi:kp w F μ σ hi vhi) (hhs:hi.isSome=true)
  (hmx:Rep w F μ σ mx vmx):∃v',(Instr.sliceAt t v vlo vhi (some vmx)).run P w=.ok v' w∧Rep w F μ σ d' v':=by
 unfold gN at h
 split at h<;>try cases h
 rename_i k0 by0 e z ht
 obtain⟨desc,hu,rfl⟩:=(hL _ _ ht).und
 split at h<;>try cases h
 rename_i te hte
 have hsz:=(hL _ _ hte).size w
 split at h<;>try cases h
 ·rename_i c k xs
  by_cases hk:te.k=k
  ·rw[if_pos hk] at h
   split at h<;>try cases h
   rename_i m h0
   split at h<;>try cases h
   rename_i hi' h1
   split at h<;>try cases h
   rename_i l h2
   cases hv with
   | @vec _ _ _ A cap u hc hm ha hkk hr=>
    obtain⟨r1,r2,r3,r4⟩:=fI (P:=P) hlo hhi hhs hmx hc h0 h1 h2
    refine⟨.slice (if m=l then A else A.map (·.add (l*te.k))) (hi'-l) (m-l),?_,?_⟩
    ·simp only[Instr.sliceAt,Sem.run_bind,run_underlying hu,Result.andThen_ok,Instr.slice,r1,hsz,Sem.run_pure]
    ·have hlen:((xs.take hi').drop l).length=hi'-l:=by simp;omega
     have:=Rep.vec (w:=w) (F:=F) (μ:=μ) (σ:=σ) (c:=c) (k:=k) (xs:=(xs.take hi').drop l) (A:=if m=l then A else A.map (·.add (l*te.k))) (cap:=m-l) (fun j i=>u (l+j) i) (by rw[hlen];omega) (by omega) (fun h0'=>?_) (fun x hx=>hkk x (Bz (By hx))) (fun j i x d hx hd=>?_)
     ·rw[hlen] at this;exact this
     ·rw[hlen] at h0'
      obtain⟨a,rfl,hF,hcell⟩:=ha (by omega)
      rw[if_neg (by omega)]
      refine⟨_,rfl,by rw[dC];exact hF,fun j i hj hi=>?_⟩
      rw[hlen] at hj
      rw[iq,hk,←C0,←Bx]
      exact hcell (l+j) i (by omega) hi
     ·have hj:l+j<hi':=by
       have:=(AH.1 hx).1
       rw[hlen] at this;omega
      rw[Bk,BM hj] at hx
      exact hr _ _ _ _ hx hd
  ·rw[if_neg hk] at h;cases h
 ·rename_i id g off len
  split at h<;>try cases h
  rename_i t0 k xs ho
  by_cases hk:te.k=k∧g=xs.length
  ·rw[if_pos hk] at h
   split at h<;>try cases h
   rename_i m h0
   split at h<;>try cases h
   rename_i hi' h1
   split at h<;>try cases h
   rename_i l h2
   cases hv with
   | @sl _ _ _ _ A cap hs=>
    obtain⟨t2,k2,xs2,ho2,g1,g2,g3,g4,g5⟩:=hs
    rw[ho] at ho2
    cases ho2
    obtain⟨r1,r2,r3,r4⟩:=fI (P:=P) hlo hhi hhs hmx g3 h0 h1 h2
    refine⟨.slice (if m=l then A else A.map (·.add (l*te.k))) (hi'-l) (m-l),?_,?_⟩
    ·simp only[Instr.sliceAt,Sem.run_bind,run_underlying hu,Result.andThen_ok,Instr.slice,r1,hsz,Sem.run_pure]
    ·refine .sl ⟨t0,k,xs,ho,by omega,g2,by omega,by omega,fun hg=>?_⟩
     rcases g5 hg with⟨q1,rfl,q3,q4⟩|⟨b,cur,fr,q1,q2,q3,q5,q4⟩
     ·refine .inl ⟨q1,?_,by omega,q4⟩
      split<;>rfl
     ·refine .inr ⟨b,cur,fr,q1,q2,Bl (A7 _ (by omega)) q3,by split<;>simp[q5],fun hpos=>?_⟩
      by_cases hcl:m=l
      ·rw[if_pos hcl]
       have hl0:off+l=0:=by omega
       have:=q4 (by omega)
       subst this
       simp[show off=0 by omega,show l=0 by omega]
      ·have hA:=q4 (by omega)
       subst hA
       rw[if_neg hcl,hk.1]
       simp only[AW,cj,Bx]
  ·rw[if_neg hk] at h;cases h
end
end
section
section
variable{P:Program}{L:Lay}{w:World}{F:Nat→Nat→Prop}{μ:Nat→Option Nat}{σ:List Ob}
def iK:List DV→Option (List UInt8)
 | []=>some []
 |.int .u8 n::r=>(iK r).map (UInt8.ofNat n.toNat::·)
 |_=>none
theorem fk:∀{xs:List DV}{bs:List UInt8},iK xs=some bs→bs.length=xs.length
 | [],_,h=>by cases h;rfl
 |x::r,bs,h=>by
  unfold iK at h
  split at h
  ·rename_i e;cases e
  ·rename_i n r' e
   cases e
   cases hr:iK r with
   |none=>rw[hr] at h;cases h
   |some l=>rw[hr] at h;cases h;simp[fk hr]
  ·cases h
theorem qC:∀{xs:List DV}{bs:List UInt8},iK xs=some bs→∀x∈xs,∃n,x=.int .u8 n
 | [],_,_,x,hx=>by simp at hx
 |y::r,bs,h,x,hx=>by
  unfold iK at h
  split at h
  ·rename_i e;cases e
  ·rename_i n r' e
   cases e
   cases hr:iK r with
   |none=>rw[hr] at h;cases h
   |some l=>
    rcases Bh.1 hx with rfl|hx
    ·exact⟨_,rfl⟩
    ·exact qC hr x hx
  ·cases h
def iB (s:ByteArray):List UInt8→ByteArray
 | []=>s
 |b::r=>iB (s.push b) r
theorem nC (f:Value→ByteArray→Sem (ForInStep ByteArray)) (hf:∀(n:Int) (s:ByteArray),(f (.int .u8 n) s).run P w=.ok (.yield (s.push (UInt8.ofNat n.toNat))) w):∀(bs:List UInt8) (xs:List DV) (vs:List Value) (s:ByteArray),iK xs=some bs→xs.length=vs.length→(∀(i:Nat) (d:DV) (v:Value),xs[i]?=some d→vs[i]?=some v→Rep w F μ σ d v)→
  (forIn vs s f).run P w=.ok (iB s bs) w:=by
 intro bs
 induction bs with
 |nil=>
  intro xs vs s h hl _
  have:=fk h
  obtain rfl:vs=[]:=BC (by simp at this;omega)
  rfl
 |cons b bs ih=>
  intro xs vs s h hl hr
  have hlen:=fk h
  rcases xs with _|⟨x,xs⟩
  ·simp at hlen
  rcases vs with _|⟨v,vs⟩
  ·simp at hl
  unfold iK at h
  split at h
  rotate_left 2
  ·cases h
  ·rename_i e;cases e
  rename_i n r' e
  cases e
  cases hx:iK xs with
  |none=>rw[hx] at h;cases h
  |some l=>
   rw[hx] at h;cases h
   have h0:=hr 0 _ v rfl rfl
   cases h0
   simp only[List.forIn_cons,Sem.run_bind,hf,Result.andThen_ok,iB]
   exact ih xs vs _ hx (by simpa using hl) (fun i d v hd hv=>hr (i+1) d v (by simpa using hd) (by simpa using hv))
theorem sq (bs:List UInt8):∀s:ByteArray,iB s bs=⟨s.data++bs.toArray⟩:=by
 induction bs with
 |nil=>intro s;simp[iB]
 |cons b bs ih=>
  intro s
  simp only[iB,ih]
  congr 1
  apply BJ
  simp[ByteArray.push]
def ic (L:Lay) (e:Nat):Bool:=match L e with
 |some {d:=.int .u8,k:=1,..}=>true
 |_=>false
def jP (bs:List UInt8):ByteArray:=⟨bs.toArray⟩
def gt (L:Lay) (σ:List Ob) (s t:Nat) (d:DV):Option DV:=
 match L s,L t with
 |some {d:=.slice e,..},some {d:=.str,..}=>if ic L e=true then(match bV σ 1 d with
  |some xs=>(iK xs).map fun bs=>.str (jP bs)
  |none=>none) else none
 |_,_=>none
theorem kL (hL:af P L){e:Nat} (h:ic L e=true):P.underlying e=some (.int .u8):=by
 unfold ic at h
 split at h<;>try cases h
 rename_i b z he
 obtain⟨d,hu,hd⟩:=(hL _ _ he).und
 cases hd
 exact hu
theorem sf (hL:af P L) (hr:HR w F μ σ){s t:Nat}{d d':DV}{v:Value} (h:gt L σ s t d=some d') (hv:Rep w F μ σ d v):
  ∃v',(convert s t v).run P w=.ok v' w∧Rep w F μ σ d' v':=by
 unfold gt at h
 split at h<;>try cases h
 rename_i k0 b0 e z0 q1 k1 b1 z1 hs ht
 obtain⟨ds,hus,rfl⟩:=(hL _ _ hs).und
 obtain⟨dt,hut,rfl⟩:=(hL _ _ ht).und
 by_cases ho:ic L e=true
 ·rw[if_pos ho] at h
  have hue:=kL hL ho
  split at h<;>try cases h
  rename_i xs hx
  cases hb:iK xs with
  |none=>rw[hb] at h;cases h
  |some bs=>
   rw[hb] at h;cases h
   have hone:=qC hb
   obtain⟨A,cap,news,rfl,hn,hf⟩:=dp (P:=P) hr hx hv (fun y hy c hc=>by
    obtain⟨n,rfl⟩:=hone y hy
    simp[DV.cells] at hc
    subst hc
    rfl)
   have hf:=hf w rfl
   refine⟨.string (jP bs),?_,.str⟩
   have hconv:(convert s t (.slice A xs.length cap)).run P w=(Conv.bytesToString (.slice A xs.length cap)).run P w:=by
    simp only[convert,Sem.run_bind,run_underlying hus,run_underlying hut,Result.andThen_ok]
    simp[run_underlying hue]
   rw[hconv]
   cases A with
   |none=>
    have h0:news.size=0:=by
     simp only[Builtin.firstCells,Sem.run_pure] at hf
     cases hf;rfl
    have:xs.length=0:=by have:=hn.size;omega
    have:bs=[]:=BC (by rw[fk hb];exact this)
    subst this
    rfl
   |some a=>
    simp only[Builtin.firstCells,Dk] at hf
    simp only[Conv.bytesToString,Sem.run_bind,hf,Result.andThen_ok]
    rw[←Array.forIn_toList]
    rw[nC _ (fun n s=>rfl) bs xs news.toList .empty hb (by simp[hn.size]) (fun i d v hd hv=>by
     have:=hn.rep i 0 d d hd (by obtain⟨n,rfl⟩:=hone d (AM hd);rfl)
     obtain⟨v',h1,h2⟩:=this
     simp only[Dk,Bt] at h1
     have:news[i]?=some v:=by simpa using hv
     rw[h1] at this
     cases this
     exact h2)]
    simp only[Result.andThen_ok,Sem.run_pure,sq,jP]
    congr 2
    simp
 ·rw[if_neg ho] at h;cases h
def dh (k:TD):DV→DV→Option Bool
 |.int a x,.int b y=>match k with
  |.int _=>if a=b then some (x==y) else none
  |_=>none
 |.bool x,.bool y=>match k with
  |.bool=>some (x==y)
  |_=>none
 |.str x,.str y=>match k with
  |.str=>some (x.toList==y.toList)
  |_=>none
 |_,_=>none
def fp (L:Lay):List (Nat×Nat)→List DV→List DV→Option Bool
 | [],_,_=>some true
 |(off,ft)::r,xs,ys=>match L ft,xs[off]?,ys[off]? with
  |some ti,some x,some y=>match dh ti.d x y with
   |some true=>fp L r xs ys
   |some false=>some false
   |none=>none
  |_,_,_=>none
def eqM (L:Lay) (σ:List Ob) (t:Nat) (a b:DV):Option Bool:=
 match L t with
 |some {d:=.struct fs,eq:=true,..}=>match a,b with
  |.agg xs,.agg ys=>fp L fs xs ys
  |_,_=>none
 |some {d:=.slice _,..}=>match a,b with
  |.nils,.nils=>some true
  |.emp,.nils=>some false
  |.sl id g _ _,.nils=>match σ[id]? with
   |some (.arr _ _ xs)=>if g=xs.length∧0<g then some false else none
   |_=>none
  |.vec _ _ (_::_),.nils=>some false
  |_,_=>none
 |some {d:=.pointer _,..}=>match a,b with
  |.nilp,.nilp=>some true
  |.ptr ..,.nilp=>some false
  |.vptr ..,.nilp=>some false
  |_,_=>none
 |_=>none
theorem r9 (hL:af P L){ft:Nat}{ti:TI} (ht:L ft=some ti){x y:DV}{vx vy:Value}{b:Bool} (h:dh ti.d x y=some b) (hx:Rep w F μ σ x vx) (hy:Rep w F μ σ y vy) (d:Nat):
  (Op.equalIn (d+1) ft vx vy).run P w=.ok b w∧ti.d.isAgg=false:=by
 obtain⟨desc,hu,hd⟩:=(hL _ _ ht).und
 unfold dh at h
 split at h<;>try cases h
 ·split at h<;>try cases h
  rename_i a x b' y _ k hk
  rw[hk] at hd⊢
  cases hd
  by_cases hab:a=b'
  ·rw[if_pos hab] at h
   cases h
   cases hx;cases hy
   subst hab
   exact⟨run_equalIn_int w d ft a k x y hu,rfl⟩
  ·rw[if_neg hab] at h;cases h
 ·split at h<;>try cases h
  rename_i hk
  rw[hk] at hd⊢
  cases hd
  cases hx;cases hy
  exact⟨run_equalIn_bool' w d ft _ _ hu,rfl⟩
 ·split at h<;>try cases h
  rename_i hk
  rw[hk] at hd⊢
  cases hd
  cases hx;cases hy
  exact⟨run_equalIn_string w d ft _ _ hu,rfl⟩
theorem le (hL:af P L){xs ys:List DV}{vx vy:List Value} (hlx:xs.length=vx.length) (hx:∀(i:Nat) (d:DV) (v:Value),xs[i]?=some d→vx[i]?=some v→Rep w F μ σ d v)
  (hly:ys.length=vy.length) (hy:∀(i:Nat) (d:DV) (v:Value),ys[i]?=some d→vy[i]?=some v→Rep w F μ σ d v) (d:Nat):
  ∀(fs:List Field) (b:Bool),(∀f∈fs,f.name≠ "_")→fp L (fs.map fun f=>(f.offset,f.type)) xs ys=some b→(Op.eqFields (d+1) ⟨vx⟩ ⟨vy⟩ fs).run P w=.ok b w:=by
 intro fs
 induction fs with
 |nil=>intro b _ h;cases h;rfl
 |cons f fs ih=>
  intro b hn h
  simp only[Bf,fp] at h
  split at h<;>try cases h
  rename_i ti x y h1 h2 h3
  have l2:=(AH.1 h2).1
  have l3:=(AH.1 h3).1
  have e2:vx[f.offset]?=some (vx[f.offset]'(by omega)):=AI _
  have e3:vy[f.offset]?=some (vy[f.offset]'(by omega)):=AI _
  have rx:=hx _ _ _ h2 e2
  have ry:=hy _ _ _ h3 e3
  cases hc:dh ti.d x y with
  |none=>rw[hc] at h;cases h
  |some c=>
   rw[hc] at h
   obtain⟨r1,r2⟩:=r9 hL h1 hc rx ry d
   have hagg:=(hL _ _ h1).isAgg w
   rw[r2] at hagg
   have p2:(part f.type ⟨vx⟩ f.offset).run P w=.ok (vx[f.offset]'(by omega)) w:=by
    simp only[part,Sem.run_bind,hagg,Result.andThen_ok,Bb,if_false,Bn,e2,Sem.run_pure]
   have p3:(part f.type ⟨vy⟩ f.offset).run P w=.ok (vy[f.offset]'(by omega)) w:=by
    simp only[part,Sem.run_bind,hagg,Result.andThen_ok,Bb,if_false,Bn,e3,Sem.run_pure]
   simp only[Op.eqFields,if_pos (hn f (by simp)),Sem.run_bind,p2,p3,r1,Result.andThen_ok]
   cases c with
   |true=>simp only[DO,Bb,if_false];exact ih b (fun g hg=>hn g (by simp[hg])) h
   |false=>cases h;simp only[C3,if_true,Sem.run_pure]
theorem o5 (hL:af P L){t:Nat}{a b:DV}{va vb:Value}{q:Bool} (h:eqM L σ t a b=some q) (ha:Rep w F μ σ a va) (hb:Rep w F μ σ b vb) (op:BinOp) (hop:op=.eql∨op=.neq) (x y:Operand):
  (do eqGuard op t x y va vb;binOp op t va vb:Sem Value).run P w=.ok (.bool (if op=.eql then q else !q)) w:=by
 have fin:∀va vb,(eqGuard op t x y va vb).run P w=.ok () w→(Op.equal t va vb).run P w=.ok q w→(∀k n,va≠ .int k n)→(∀k n,va≠ .float k n)→(∀k n m,va≠ .complex k n m)→(∀s,va≠ .string s)→
   (do eqGuard op t x y va vb;binOp op t va vb:Sem Value).run P w=.ok (.bool (if op=.eql then q else !q)) w:=by
  intro va vb h1 h2 n1 n2 n3 n4
  rw[Sem.run_bind,h1,Result.andThen_ok]
  rcases hop with rfl|rfl
  ·cases va<;>first|exact absurd rfl (n1 _ _)|exact absurd rfl (n2 _ _)|exact absurd rfl (n3 _ _ _)|exact absurd rfl (n4 _)|simp[binOp,h2]
  ·cases va<;>first|exact absurd rfl (n1 _ _)|exact absurd rfl (n2 _ _)|exact absurd rfl (n3 _ _ _)|exact absurd rfl (n4 _)|simp[binOp,h2]
 have g0:∀va vb,(va≠ .nilIface)→(∀c,va≠ .agg c)→(eqGuard op t x y va vb).run P w=.ok () w:=by
  intro va vb n1 n2
  unfold eqGuard
  rcases hop with rfl|rfl<;>cases va<;>first|exact absurd rfl n1|exact absurd rfl (n2 _)|rfl
 unfold eqM at h
 split at h<;>try cases h
 ·rename_i k0 b0 fs z ht
  split at h<;>try cases h
  rename_i xs ys
  cases ha with
  | @agg _ vx hlx hx=>
  cases hb with
  | @agg _ vy hly hy=>
  obtain⟨desc,hu,fields,rfl,hfs⟩:=(hL _ _ ht).und
  obtain⟨e1,e2,e3⟩:=(hL _ _ ht).eqs rfl
  have hfo:P.fieldsOf t=fields:=by simp[Program.fieldsOf,hu]
  have hcells:fp L (fields.toList.map fun f=>(f.offset,f.type)) xs ys=some q:=by rw[hfs];exact h
  refine fin _ _ (run_eqGuard_agg w op t x y _ _ e2) ?_ (by simp) (by simp) (by simp) (by simp)
  have:=run_equalIn_struct (P:=P) w 9999 t ⟨vx⟩ ⟨vy⟩ (by rw[hfo];exact hu) e1
  simp only[Op.equal,Op.maxDepth]
  rw[this,hfo]
  exact le hL hlx hx hly hy 9998 _ _ (e3 _ hu) hcells
 ·rename_i q0 k0 b0 e z ht
  obtain⟨desc,hu,rfl⟩:=(hL _ _ ht).und
  have he:∀A l c,(Op.equal t (.slice A l c) (.slice none 0 0)).run P w=.ok A.isNone w:=by
   intro A l c
   have key:∀n,(Op.equalIn (n+1) t (.slice A l c) (.slice none 0 0)).run P w=.ok A.isNone w:=fun n=>by
    simp only[Op.equalIn,Sem.run_bind,run_underlying hu,Result.andThen_ok]
    cases A<;>rfl
   exact key 9999
  have key:∀A l c,A.isNone=q→(do eqGuard op t x y (.slice A l c) (.slice none 0 0);binOp op t (.slice A l c) (.slice none 0 0):Sem Value).run P w=.ok (.bool (if op=.eql then q else !q)) w:=fun A l c hq=>
   fin _ _ (g0 _ _ (by simp) (by simp)) (by rw[he,hq]) (by simp) (by simp) (by simp) (by simp)
  split at h<;>try cases h
  ·cases ha;cases hb;exact key _ _ _ rfl
  ·cases ha;cases hb;exact key _ _ _ rfl
  ·rename_i id g off len
   split at h<;>try cases h
   rename_i t0 k xs ho
   by_cases hg:g=xs.length∧0<g
   ·rw[if_pos hg] at h
    cases h
    cases hb
    cases ha with
    | @sl _ _ _ _ A cap hs=>
     obtain⟨t2,k2,xs2,ho2,g1,g2,g3,g4,g5⟩:=hs
     rw[ho] at ho2
     cases ho2
     rcases g5 hg.1 with⟨q1,_⟩|⟨b,cur,fr,_,_,_,q5,_⟩
     ·omega
     ·refine key _ _ _ ?_
      cases A with
      |none=>cases q5
      |some a=>rfl
   ·rw[if_neg hg] at h;cases h
  ·cases hb
   cases ha with
   |vec u hc hm ha hk hr=>
    obtain⟨a,rfl,_⟩:=ha (by simp)
    exact key _ _ _ rfl
 ·rename_i q0 k0 b0 e z ht
  obtain⟨desc,hu,rfl⟩:=(hL _ _ ht).und
  have he:∀A,(Op.equal t (.pointer A) (.pointer none)).run P w=.ok A.isNone w:=by
   intro A
   have key:∀n,(Op.equalIn (n+1) t (.pointer A) (.pointer none)).run P w=.ok A.isNone w:=fun n=>by
    simp only[Op.equalIn,Sem.run_bind,run_underlying hu,Result.andThen_ok]
    cases A<;>rfl
   exact key 9999
  have key:∀A,A.isNone=q→(do eqGuard op t x y (.pointer A) (.pointer none);binOp op t (.pointer A) (.pointer none):Sem Value).run P w=.ok (.bool (if op=.eql then q else !q)) w:=fun A hq=>
   fin _ _ (g0 _ _ (by simp) (by simp)) (by rw[he,hq]) (by simp) (by simp) (by simp) (by simp)
  split at h<;>try cases h
  ·cases ha;cases hb;exact key _ rfl
  ·cases ha;cases hb;exact key _ rfl
  ·cases ha;cases hb;exact key _ rfl
end
end
section
section
variable{P:Program}{L:Lay}{w:World}{F:Nat→Nat→Prop}{μ:Nat→Option Nat}{σ:List Ob}
theorem HR.drew1 (h:HR w F μ σ):HR w.drew F μ σ:=h.drew _
theorem eM:Step w F μ σ w.drew F μ σ:=fG w _ F μ σ
theorem mX:Fr w μ w.drew μ:=⟨rfl,rfl,rfl,AU _,fun _ _ _=>rfl,fun _ _ h=>.inl h,DN _⟩
theorem s7 (hr:HR w F μ σ){e k bytes:Nat}{ys:List DV}{news:Array Value}{z:Value} (hn:News w F μ σ k ys news) (hb0:0<bytes) (hb:ys.length*bytes≤140737488355328) (hzs:z.cells.size=k):
  let N:=grownCap w ys.length 0 e
  let w':=w.drew.alloc (.cells (news++Builtin.zeroCells z.cells (N-ys.length)) e)
  let μ':=bd μ σ.length w.heap.size
  HR w' F μ' (σ++[.arr e k ys])∧Step w F μ σ w' F μ' (σ++[.arr e k ys])∧Fr w μ w' μ'∧Rep w' F μ' (σ++[.arr e k ys]) (.sl σ.length ys.length 0 ys.length) (.slice (some ⟨w.heap.size,0,none⟩) ys.length N):=by
 intro N w' μ'
 have h47:ys.length≤140737488355328:=Bl (CJ _ hb0) hb
 have hgc:ys.length≤N:=grownCap_ge w ys.length 0 e
 have hgm:N≤maxLen:=grownCap_le_maxLen w ys.length 0 e (by simp only[maxLen];omega)
 obtain⟨p1,p2,p3⟩:=hr.drew1.push (t:=e) (k:=k) (xs:=ys) (cur:=news++Builtin.zeroCells z.cells (N-ys.length)) (.zero _) hn.len (fun j i y d hy hd=>by
  obtain⟨v,h1,h2⟩:=hn.rep j i y d hy hd
  refine⟨v,?_,h2.step eM⟩
  rw[BO (Bm.1 h1).1]
  exact h1)
 refine⟨p1,eM.trans p2,mX.trans p3,.sl ⟨e,k,ys,by simp,by omega,AU _,hgc,hgm,fun _=>.inr ⟨w.heap.size,_,(0,0),by simp[μ',bd],by rw[aS];exact if_pos rfl,DF ?_,rfl,fun _=>by simp⟩⟩⟩
 simp only[C2,hn.size,Builtin.zeroCells,Dm,Dt,hzs,Bc]
 rw[←Bx]
 congr 1;omega
def jf (L:Lay) (σ:List Ob) (te:TI) (t':Nat) (d:DV):Option (List DV):=
 match L t' with
 |some {d:=.int _,..}=>match d with
  |.int _ n=>if 0≤n∧n*te.bytes≤1073741824∧te.zero.cells.length=te.k then some (AO n.toNat te.zero) else none
  |_=>none
 |some {d:=.slice _,..}=>bV σ te.k d
 |_=>none
theorem iN{z:Value}{n j i:Nat}{v:Value} (hj:j<n) (hz:z.cells[i]?=some v):(Builtin.zeroCells z.cells n)[j*z.cells.size+i]?=some v:=by
 obtain⟨hi,rfl⟩:=Bm.1 hz
 have hlt:j*z.cells.size+i<n*z.cells.size:=by
  have:j*z.cells.size+z.cells.size≤n*z.cells.size:=by rw[←BY];exact A7 _ hj
  omega
 have hmod:(j*z.cells.size+i)%z.cells.size=i:=by rw[C7,Nat.mul_add_mod,CK hi]
 simp only[Builtin.zeroCells]
 rw[DK]
 simp only[Array.getElem?_range,if_pos hlt,AW,hmod]
 congr 1
 exact getElem!_pos z.cells i hi
theorem pQ (hL:af P L){e:Nat}{te:TI} (hte:L e=some te){z:Value} (hz:eX z=te.zero) (h1:te.zero.cells.all DV.one=true):∀u∈z.cells.toList,u.oneCell'=true:=by
 intro u hu
 obtain⟨i,hi,rfl⟩:=List.getElem_of_mem hu
 have hr:Rep (default:World) (fun _ _=>False) (fun _=>none) [] te.zero z:=by rw[←hz];exact cn z
 cases z with
 |agg cs=>
  simp only[Value.cells] at hi⊢
  simp only[eX] at hz
  rw[←hz] at h1
  simp only[DV.cells,List.all_map,AS] at h1
  have:=h1 _ (BS hi)
  revert this
  simp only[Function.comp]
  generalize cs.toList[i]=u
  intro this
  unfold ji at this
  split at this<;>first|rfl|(cases this)
 |_=>
  simp only[Value.cells,Ca] at hi
  have hi0:i=0:=by simpa using hi
  subst hi0
  simp only[Value.cells]
  rw[←hz] at h1
  simp only[eX] at h1
  first
   |rfl
   |(simp[ji,DV.cells,DV.one] at h1)
def cK (P:Program) (e k n len cap:Nat) (A:Option Addr) (z:Value) (X:Sem (Array Value)) (R:Nat→Sem Unit):Sem Value:=do
 if len+n≤cap then
  let new←X
  if let some a:=A then storeCells (a.add (len*k)) new.toList
  pure (Value.slice A (len+n) cap)
 else
  let newCap←choose (.appendCap (len+n) cap e)
  R newCap
  let old←Builtin.firstCells k len (.slice A len cap)
  let new←X
  let rest:=Builtin.zeroCells z.cells (newCap-(len+n))
  pure (Value.slice (some (←newRow e (old++new++rest))) (len+n) newCap)
theorem ko (hL:af P L) (hr:HR w F μ σ){t t' e:Nat}{ti te:TI} (ht:L t=some ti) (hd:ti.d=.slice e) (hte:L e=some te) (hb0:0<te.bytes) (hz1:te.zero.cells.all DV.one=true){d2:DV}{v2:Value}{ys:List DV} (h2:jf L σ te t' d2=some ys) (hv2:Rep w F μ σ d2 v2)
  (h1:∀y∈ys,∀c∈y.cells,c.one=true) (ty:TypeId):
  ∃(news:Array Value) (z:Value) (X:Sem (Array Value)) (R:Nat→Sem Unit),News w F μ σ te.k ys news∧z.cells.size=te.k∧(∀w':World,w'.heap=w.heap→X.run P w'=.ok news w')∧(∀(n:Nat) (w':World),(R n).run P w'=.ok () w')∧
   ∀(A:Option Addr) (len cap:Nat),(len+ys.length)*te.bytes≤140737488355328→(Builtin.append_ #[t,t'] ty #[.slice A len cap,v2]).run P w=(cK P e te.k ys.length len cap A z X R).run P w:=by
 obtain⟨desc,hu,hdesc⟩:=(hL _ _ ht).und
 rw[hd] at hdesc
 cases hdesc
 have hsize:=fun w=>(hL _ _ hte).size w
 obtain⟨it,z',i1,i2,i3,i4,i5,i6⟩:=(hL _ _ hte).info
 have hty:∀w,(typeInfo e).run P w=.ok it w:=fun w=>by simp[typeInfo,i1,program,Sem.run]
 have hzr:∀w,(zeroValue e).run P w=.ok z' w:=fun w=>by simp[zeroValue,hty,i4]
 have hR:∀(n:Nat) (w':World),(askRoom (n*it.bytes)).run P w'=.ok () w':=fun n w'=>by unfold askRoom;split<;>rfl
 have hbn:¬(it.bytes=0):=by omega
 unfold jf at h2
 split at h2<;>try cases h2
 ·-- zeros
  rename_i q0 k0 b0 kk z0 ht'
  obtain⟨desc',hu',rfl⟩:=(hL _ _ ht').und
  split at h2<;>try cases h2
  rename_i kn n
  cases hv2
  split at h2<;>try cases h2
  rename_i hn
  obtain⟨hn0,hnb,hzl⟩:=hn
  obtain⟨N,rfl⟩:=Cj hn0
  have hN:N≤1073741824:=by
   have:(N:Int)*1≤N*te.bytes:=Int.mul_le_mul_of_nonneg_left (by omega) (by omega)
   omega
  have hw:IntKind.i64.wrap (N:Int)=N:=IntWalk.i64_in _ (by omega)
  simp only[Bg,Br]
  refine⟨Builtin.zeroCells z'.cells N,z',(if N*te.k=0 then pure #[] else do pure (Builtin.zeroCells (←zeroValue e).cells N)),fun n=>askRoom (n*it.bytes),⟨by simp[Builtin.zeroCells,i5],fun y hy=>by rw[(BK.1 hy).2];exact hzl,fun u hu=>?_,fun j i y d hy hd=>?_⟩,i5,fun w' _=>?_,hR,fun A len cap hb=>?_⟩
  ·have ho:=pQ hL hte i6 hz1
   simp only[Builtin.zeroCells,DQ,Ba,DB,Array.mem_range] at hu
   obtain⟨q,hq,rfl⟩:=hu
   have hpos:0<z'.cells.size:=by rcases B4 z'.cells.size with h|h
                                 ·rw[h] at hq;omega
                                 ·exact h
   rw[getElem!_pos z'.cells _ (Nat.mod_lt _ hpos)]
   exact ho _ (by simp)
  ·obtain⟨hj,rfl⟩:j<N∧y=te.zero:=by
    rw[Ck] at hy
    split at hy
    ·rename_i hj;exact⟨hj,(AX.inj hy).symm⟩
    ·cases hy
   have hrz:Rep w F μ σ te.zero z':=by rw[←i6];exact cn z'
   obtain⟨u,hu1,hu2⟩:=dw hrz (by rw[i5,hzl]) i d hd
   refine⟨u,?_,hu2⟩
   have:=iN hj hu1
   rwa [i5] at this
  ·by_cases h0:N*te.k=0
   ·rw[if_pos h0]
    have:Builtin.zeroCells z'.cells N= #[]:=by apply BZ;simp[Builtin.zeroCells,i5,h0]
    rw[this]
    rfl
   ·rw[if_neg h0]
    simp only[Sem.run_bind,hzr,Result.andThen_ok,Sem.run_pure]
  ·have hl0:¬((N:Int)<0):=by omega
   have hl1:¬((N:Int)*(it.bytes:Int)>2^48):=by rw[i3];omega
   have hfit:=growslice_fits (need:=len+N) (old:=cap) (bytes:=it.bytes)
   rw[i3] at hfit
   have hlen:len+N≤140737488355328:=Bl (CJ _ hb0) hb
   have hmax:¬((len+N:Nat):Int)>IntKind.i64.max:=by simp only[show IntKind.i64.max=9223372036854775807 from rfl];omega
   unfold cK
   by_cases hc:len+N≤cap
   ·simp only[Builtin.append_,run_underlying hu,run_underlying hu',hsize,hty,asInt,asIntOf,hw,Sem.run_bind,Sem.run_pure,Result.andThen_ok,Bn,AY,BH,if_true,if_neg hl0,if_neg hl1,DO,Bb,if_false,Bg,if_pos hc]
    rfl
   ·have hf2:¬(Builtin.nextslicecap (len+N) cap*it.bytes>2^48):=by
     have:=hfit (by omega) hb
     rw[i3];exact Du.2 this
    simp only[Builtin.append_,run_underlying hu,run_underlying hu',hsize,hty,hzr,asInt,asIntOf,hw,Sem.run_bind,Sem.run_pure,Result.andThen_ok,Bn,AY,BH,if_true,if_neg hl0,if_neg hl1,DO,Bb,if_false,Bg,if_neg hc,hmax,false_and,if_neg hf2]
 ·rename_i q0 k0 b0 e' z0 ht'
  obtain⟨desc',hu',rfl⟩:=(hL _ _ ht').und
  obtain⟨A2,cap2,news,rfl,hnews,hfirst⟩:=dp (P:=P) hr h2 hv2 h1
  refine⟨news,z',Builtin.firstCells te.k ys.length (.slice A2 ys.length cap2),fun n=>askRoom (n*it.bytes),hnews,i5,hfirst,hR,fun A len cap hb=>?_⟩
  have hfit:=growslice_fits (need:=len+ys.length) (old:=cap) (bytes:=it.bytes)
  rw[i3] at hfit
  unfold cK
  by_cases hc:len+ys.length≤cap
  ·simp only[Builtin.append_,run_underlying hu,run_underlying hu',hsize,Builtin.lenOf,Sem.run_bind,Sem.run_pure,Result.andThen_ok,Bn,AY,BH,Bb,if_false,C3,if_true,if_pos hc]
   rfl
  ·have hf2:¬(Builtin.nextslicecap (len+ys.length) cap*it.bytes>2^48):=by
    have:=hfit (by omega) hb
    rw[i3];exact Du.2 this
   simp only[Builtin.append_,run_underlying hu,run_underlying hu',hsize,hty,hzr,Builtin.lenOf,Sem.run_bind,Sem.run_pure,Result.andThen_ok,Bn,AY,BH,Bb,if_false,C3,if_true,if_neg hc,hbn,or_self,and_false,hf2]
def vo (L:Lay) (ob:List Ob) (t t':Nat) (d1 d2:DV):Option (DV×List Ob):=
 match L t with
 |some {d:=.slice e,..}=>match L e with
  |some te=>match jf L ob te t' d2 with
   |some ys=>if 0<te.bytes∧te.zero.cells.all DV.one=true∧(ys.all fun y=>y.cells.all DV.one)=true then match d1 with
     |.nils=>if ys.length=0 then some (.nils,ob) else if ys.length*te.bytes≤140737488355328 then some (.sl ob.length ys.length 0 ys.length,ob++[.arr e te.k ys]) else none
     |.emp=>if ys.length=0 then some (.emp,ob) else if ys.length*te.bytes≤140737488355328 then some (.sl ob.length ys.length 0 ys.length,ob++[.arr e te.k ys]) else none
     |.sl id g off len=>match ob[id]? with
      |some (.arr e0 k xs)=>if e0=e∧k=te.k∧g=xs.length∧off=0∧len=xs.length∧(xs.length+ys.length)*te.bytes≤140737488355328 then
       some (.sl id (xs.length+ys.length) 0 (xs.length+ys.length),if ys.length=0 then ob else ob.set id (.arr e k (xs++ys))) else none
      |_=>none
     |_=>none
    else none
   |none=>none
  |none=>none
 |_=>none
theorem wb (hL:af P L) (hr:HR w F μ σ){t t':Nat}{d1 d2 d:DV}{v1 v2:Value}{σ':List Ob} (h:vo L σ t t' d1 d2=some (d,σ')) (h1:Rep w F μ σ d1 v1) (h2:Rep w F μ σ d2 v2) (ty:TypeId):
  ∃v w' μ',(Builtin.append_ #[t,t'] ty #[v1,v2]).run P w=.ok v w'∧HR w' F μ' σ'∧Step w F μ σ w' F μ' σ'∧Fr w μ w' μ'∧Rep w' F μ' σ' d v:=by
 unfold vo at h
 split at h<;>try cases h
 rename_i q0 k0 b0 e z0 ht
 split at h<;>try cases h
 rename_i te hte
 split at h<;>try cases h
 rename_i ys hys
 split at h<;>try cases h
 rename_i hcond
 obtain⟨hb0,hz1,hone⟩:=hcond
 have hone':∀y∈ys,∀c∈y.cells,c.one=true:=fun y hy c hc=>AS.1 (AS.1 hone y hy) c hc
 obtain⟨news,z,X,R,hn,hzs,hX,hR,hrun⟩:=ko hL hr ht rfl hte hb0 hz1 hys h2 hone' ty
 have same:∀(A:Option Addr) (len cap:Nat),len≤cap→ys.length=0→len*te.bytes≤140737488355328→(Builtin.append_ #[t,t'] ty #[.slice A len cap,v2]).run P w=.ok (.slice A len cap) w:=by
  intro A len cap hc hy hb
  rw[hrun A len cap (by rw[hy];simpa using hb)]
  have hn0:news= #[]:=BZ (by rw[hn.size,hy];simp)
  simp only[cK,hy,Bt,if_pos hc,Sem.run_bind,hX w rfl,Result.andThen_ok,hn0]
  cases A with
  |none=>rfl
  |some a=>simp[storeCells]
 have new:∀(A:Option Addr),¬ ys.length=0→ys.length*te.bytes≤140737488355328→∃v w' μ',(Builtin.append_ #[t,t'] ty #[.slice A 0 0,v2]).run P w=.ok v w'∧
   HR w' F μ' (σ++[.arr e te.k ys])∧Step w F μ σ w' F μ' (σ++[.arr e te.k ys])∧Fr w μ w' μ'∧Rep w' F μ' (σ++[.arr e te.k ys]) (.sl σ.length ys.length 0 ys.length) v:=by
  intro A hy hb
  have:=s7 hr (e:=e) (k:=te.k) (bytes:=te.bytes) hn hb0 hb hzs
  refine⟨_,_,_,?_,this⟩
  rw[hrun A 0 0 (by simpa using hb)]
  have hch:(choose (.appendCap ys.length 0 e)).run P w=.ok (grownCap w ys.length 0 e) w.drew:=rfl
  have hf0:(Builtin.firstCells te.k 0 (.slice A 0 0)).run P w.drew=.ok #[] w.drew:=by
   cases A with
   |none=>rfl
   |some a=>simp[Builtin.firstCells,loadCells,loadCellsFrom]
  simp only[cK,Bc,show ¬(ys.length≤0) by omega,if_false,Sem.run_bind,hch,Result.andThen_ok,hR,hf0,hX w.drew rfl,B3]
  rfl
 split at h<;>try cases h
 ·cases h1
  by_cases hy:ys.length=0
  ·rw[if_pos hy] at h;cases h
   exact⟨_,w,μ,same none 0 0 (AU _) hy (by omega),hr,Step.refl ..,Fr.refl ..,.nils⟩
  ·rw[if_neg hy] at h
   split at h<;>try cases h
   rename_i hb
   exact new none hy hb
 ·cases h1
  by_cases hy:ys.length=0
  ·rw[if_pos hy] at h;cases h
   exact⟨_,w,μ,same _ 0 0 (AU _) hy (by omega),hr,Step.refl ..,Fr.refl ..,.emp⟩
  ·rw[if_neg hy] at h
   split at h<;>try cases h
   rename_i hb
   exact new _ hy hb
 ·rename_i id g off len
  split at h<;>try cases h
  rename_i e0 k xs ho
  split at h<;>try cases h
  rename_i hc
  obtain⟨rfl,rfl,rfl,rfl,rfl,hb⟩:=hc
  cases h1 with
  | @sl _ _ _ _ A cap hs=>
   by_cases hy:ys.length=0
   ·have hs':=hs
    obtain⟨t2,k2,xs2,ho2,_,_,hcap,_⟩:=hs'
    rw[ho] at ho2
    cases ho2
    simp only[hy,Bt,if_true]
    exact⟨_,w,μ,same A xs.length cap hcap hy (by rw[hy] at hb;simpa using hb),hr,Step.refl ..,Fr.refl ..,.sl hs⟩
   ·rw[if_neg hy]
    obtain⟨A',cap',w',μ',r1,r2,r3,r4,r5⟩:=lA (P:=P) (z:=z) (bytes:=te.bytes) hr ho hs hn (by omega) hb0 hb hzs X hX R hR (fun w' hw=>p8 hr ho hs w' hw)
    refine⟨_,w',μ',(hrun A xs.length cap hb).trans r1,r2,r3,r4,?_⟩
    rw[AP] at r5
    exact .sl r5
def tv (d:DV) (n:Nat):DV:=match d with
 |.vec c k xs=>.vec c k (xs.take n)
 |.sl id g off _=>.sl id g off n
 |d=>d
theorem p6{k:Nat}{d:DV}{A:Option Addr}{len cap n:Nat}{ys:List DV} (h:bV σ k d=some ys) (hn:n≤ys.length) (hv:Rep w F μ σ d (.slice A len cap)):
  len=ys.length∧bV σ k (tv d n)=some (ys.take n)∧Rep w F μ σ (tv d n) (.slice A n cap):=by
 unfold bV at h
 split at h<;>try cases h
 ·cases hv
  obtain rfl:n=0:=by simpa using hn
  exact⟨rfl,rfl,.nils⟩
 ·cases hv
  obtain rfl:n=0:=by simpa using hn
  exact⟨rfl,rfl,.emp⟩
 ·rename_i c k' xs
  by_cases hk:k'=k
  ·rw[if_pos hk] at h
   cases h
   cases hv with
   |vec u hc hm ha hkk hr=>
    refine⟨rfl,by simp[tv,bV,hk],?_⟩
    have hl:(ys.take n).length=n:=by simp;omega
    have:=Rep.vec (w:=w) (F:=F) (μ:=μ) (σ:=σ) (c:=c) (k:=k') (xs:=ys.take n) (A:=A) (cap:=cap) u (by omega) hm (fun h0=>by
     obtain⟨a,h1,h2,h3⟩:=ha (by omega)
     exact⟨a,h1,h2,fun j i hj hi=>h3 j i (by omega) hi⟩) (fun x hx=>hkk x (Bz hx)) (fun j i x e hx he=>by
     have hj:=(AH.1 hx).1
     rw[BM (by omega)] at hx
     exact hr j i x e hx he)
    rw[hl] at this
    exact this
  ·rw[if_neg hk] at h;cases h
 ·rename_i id g off l
  split at h<;>try cases h
  rename_i t0 k' xs ho
  by_cases hk:k'=k
  ·rw[if_pos hk] at h
   by_cases hg:g=xs.length
   ·rw[if_pos hg] at h
    cases h
    cases hv with
    |sl hs=>
     obtain⟨t2,k2,xs2,ho2,g1,g2,g3,g4,g5⟩:=hs
     rw[ho] at ho2
     cases ho2
     have hl:((xs.drop off).take len).length=len:=by simp;omega
     rw[hl] at hn
     refine⟨hl.symm,?_,.sl ⟨t0,k',xs,ho,by omega,g2,by omega,g4,fun e=>?_⟩⟩
     ·simp[tv,bV,ho,hk,hg,CL,BE hn]
     ·rcases g5 e with q|⟨b,cur,fr,q1,q2,q3,q5,q4⟩
      ·exact .inl q
      ·exact .inr ⟨b,cur,fr,q1,q2,q3,q5,fun hp=>q4 (hp.imp (fun h=>by omega) (fun h=>h))⟩
   ·rw[if_neg hg] at h;cases h
  ·rw[if_neg hk] at h;cases h
theorem sP (hL:af P L){e:Nat}{te:TI} (hte:L e=some te){z:Value} (hz:eX z=te.zero) (hzs:z.cells.size=te.k) (hzl:te.zero.cells.length=te.k) (h1:te.zero.cells.all DV.one=true) (N:Nat):
  News w F μ σ te.k (AO N te.zero) (Builtin.zeroCells z.cells N):=by
 refine⟨by simp[Builtin.zeroCells,hzs],fun y hy=>by rw[(BK.1 hy).2];exact hzl,fun u hu=>?_,fun j i y d hy hd=>?_⟩
 ·have ho:=pQ hL hte hz h1
  simp only[Builtin.zeroCells,DQ,Ba,DB,Array.mem_range] at hu
  obtain⟨q,hq,rfl⟩:=hu
  have hpos:0<z.cells.size:=by rcases B4 z.cells.size with h|h
                               ·rw[h] at hq;omega
                               ·exact h
  rw[getElem!_pos z.cells _ (Nat.mod_lt _ hpos)]
  exact ho _ (by simp)
 ·obtain⟨hj,rfl⟩:j<N∧y=te.zero:=by
   rw[Ck] at hy
   split at hy
   ·rename_i hj;exact⟨hj,(AX.inj hy).symm⟩
   ·cases hy
  have hrz:Rep w F μ σ te.zero z:=by rw[←hz];exact cn z
  obtain⟨u,hu1,hu2⟩:=dw hrz (by rw[hzs,hzl]) i d hd
  refine⟨u,?_,hu2⟩
  have:=iN hj hu1
  rwa [hzs] at this
theorem wa (hr:HR w F μ σ){id t k off len cap:Nat}{xs ys:List DV}{A:Option Addr}{news:Array Value} (ho:σ[id]?=some (.arr t k xs)) (hs:dX w μ σ id xs.length off len A cap) (hn:News w F μ σ k ys news) (hl:ys.length≤len) (h0:0<ys.length):
  ∃a w',A=some a∧(storeCells a news.toList).run P w=.ok () w'∧HR w' F μ (σ.set id (.arr t k (xs.take off++ys++xs.drop (off+ys.length))))∧
   Step w F μ σ w' F μ (σ.set id (.arr t k (xs.take off++ys++xs.drop (off+ys.length))))∧Fr w μ w' μ:=by
 obtain⟨t2,k2,xs2,ho2,g1,g2,g3,g4,g5⟩:=hs
 rw[ho] at ho2
 cases ho2
 rcases g5 rfl with⟨q1,_⟩|⟨b,cur,fr,q1,q2,q3,q5,q4⟩
 ·omega
 have hA:=q4 (.inl (by omega))
 subst hA
 obtain⟨hxk,hor⟩:=hr.obj _ _ ho
 rcases hor with⟨he,_⟩|⟨b',cur',fr',hb',hh',hfr',hcells⟩
 ·subst he;simp at g1;omega
 rw[q1] at hb'
 cases hb'
 rw[q2] at hh'
 cases hh'
 have hfit:off*k+0+news.toList.length≤cur.size:=by
  refine Bl ?_ q3
  simp only[Bt,B9,hn.size,←Bx]
  exact A7 _ (by omega)
 have hlen:(xs.take off++ys++xs.drop (off+ys.length)).length=xs.length:=by simp;omega
 have hall:∀y∈xs.take off++ys++xs.drop (off+ys.length),y.cells.length=k:=by
  intro y hy
  rcases BT.1 hy with hy|hy
  ·rcases BT.1 hy with hy|hy
   ·exact hxk y (Bz hy)
   ·exact hn.len y hy
  ·exact hxk y (By hy)
 refine⟨_,_,rfl,c0 (P:=P) news.toList 0 w cur (p:=off*k) q2 hfr' hfit (fun v hv=>hn.one v hv),hr.write ho q1 q2 hfr' (cH _ _ _) (by omega) hall (fun j i y d hy hd=>?_)⟩
 have hi:i<k:=by rw[←hall y (AM hy)];exact(AH.1 hd).1
 rw[gR _ _ _ _ (by simpa using hfit)]
 simp only[Bt,B9,hn.size]
 rcases Bp j off with hj|hj
 ·have:j*k+k≤off*k:=by rw[←BY];exact A7 _ hj
  rw[if_neg (by omega)]
  rw[AR,AJ (by simp;omega),BM hj] at hy
  exact hcells j i y d hy hd
 ·rcases Bp j (off+ys.length) with hj2|hj2
  ·have e1:j*k=off*k+(j-off)*k:=by rw[←Bx];congr 1;omega
   have e2:(j-off)*k+k≤ys.length*k:=by rw[←BY];exact A7 _ (by omega)
   rw[if_pos (by omega)]
   rw[AR,AT (by simp;omega),AJ (by simp;omega)] at hy
   simp only[Bi,BE (show off≤xs.length by omega)] at hy
   obtain⟨v,h1,h2⟩:=hn.rep (j-off) i y d hy hd
   exact⟨v,by rw[show j*k+i-off*k=(j-off)*k+i by omega];simpa using h1,h2⟩
  ·have e1:(off+ys.length)*k≤j*k:=A7 _ hj2
   rw[Bx] at e1
   rw[if_neg (by omega)]
   rw[AT (by simp;omega),Bk] at hy
   simp only[AP,Bi,BE (show off≤xs.length by omega)] at hy
   rw[show off+ys.length+(j-(off+ys.length))=j by omega] at hy
   exact hcells j i y d hy hd
def bW (ob:List Ob) (k:Nat) (d:DV) (ys:List DV):Option (List Ob):=
 if ys.length=0 then some ob else match d with
 |.sl id g off _=>match ob[id]? with
  |some (.arr e k' xs)=>if k'=k∧g=xs.length then some (ob.set id (.arr e k (xs.take off++ys++xs.drop (off+ys.length)))) else none
  |_=>none
 |_=>none
def qP:DV→Option Nat
 |.sl _ _ _ len=>some len
 |.nils=>some 0
 |.emp=>some 0
 |_=>none
theorem mv{d:DV}{n:Nat}{v:Value} (h:qP d=some n) (hv:Rep w F μ σ d v):∃A cap,v=.slice A n cap:=by
 cases d<;>simp only[qP,AX.injEq] at h<;>try cases h
 ·cases hv with
  |sl=>exact⟨_,_,rfl⟩
 ·cases hv;exact⟨_,_,rfl⟩
 ·cases hv;exact⟨_,_,rfl⟩
def nc (L:Lay) (ob:List Ob) (t:Nat) (d1 d2:DV):Option (DV×List Ob):=
 match L t with
 |some {d:=.slice e,..}=>match L e with
  |some te=>match bV ob te.k d2,qP d1 with
   |some ys,some n=>if(ys.all fun y=>y.cells.all DV.one)=true then(bW ob te.k d1 (ys.take (min ys.length n))).map fun ob'=>(.int .i64 (min ys.length n:Nat),ob') else none
   |_,_=>none
  |none=>none
 |_=>none
theorem kz (hr:HR w F μ σ){k:Nat}{d:DV}{A:Option Addr}{len cap:Nat}{ys:List DV}{news:Array Value}{σ':List Ob} (h:bW σ k d ys=some σ') (hd:Rep w F μ σ d (.slice A len cap)) (hn:News w F μ σ k ys news) (hl:ys.length≤len):
  ∃w',(do if let some a:=A then storeCells a news.toList:Sem Unit).run P w=.ok () w'∧HR w' F μ σ'∧Step w F μ σ w' F μ σ'∧Fr w μ w' μ:=by
 unfold bW at h
 by_cases h0:ys.length=0
 ·rw[if_pos h0] at h
  cases h
  have hn0:news= #[]:=BZ (by rw[hn.size,h0];simp)
  subst hn0
  refine⟨w,?_,hr,Step.refl ..,Fr.refl ..⟩
  cases A with
  |none=>rfl
  |some a=>simp[storeCells]
 ·rw[if_neg h0] at h
  split at h<;>try cases h
  rename_i id g off l
  split at h<;>try cases h
  rename_i e k' xs ho
  split at h<;>try cases h
  rename_i hc
  obtain⟨rfl,rfl⟩:=hc
  cases hd with
  |sl hs=>
   obtain⟨a,w',rfl,r1,r2⟩:=wa (P:=P) hr ho hs hn hl (by omega)
   exact⟨w',r1,r2⟩
theorem nS (hL:af P L) (hr:HR w F μ σ){t:Nat}{d1 d2 d:DV}{v1 v2:Value}{σ':List Ob} (h:nc L σ t d1 d2=some (d,σ')) (h1:Rep w F μ σ d1 v1) (h2:Rep w F μ σ d2 v2) (ts:Array TypeId) (hts:ts[0]?=some t) (ty:TypeId):
  ∃v w',(Builtin.copy_ ts ty #[v1,v2]).run P w=.ok v w'∧HR w' F μ σ'∧Step w F μ σ w' F μ σ'∧Fr w μ w' μ∧Rep w' F μ σ' d v:=by
 unfold nc at h
 split at h<;>try cases h
 rename_i q0 k0 b0 e z0 ht
 obtain⟨desc,hu,rfl⟩:=(hL _ _ ht).und
 split at h<;>try cases h
 rename_i te hte
 split at h<;>try cases h
 rename_i ys n hys hlen
 split at h<;>try cases h
 rename_i hone
 have hone':∀y∈ys,∀c∈y.cells,c.one=true:=fun y hy c hc=>AS.1 (AS.1 hone y hy) c hc
 cases hov:bW σ te.k d1 (ys.take (min ys.length n)) with
 |none=>rw[hov] at h;cases h
 |some ob'=>
  rw[hov] at h
  cases h
  obtain⟨A1,cap1,rfl⟩:=mv hlen h1
  obtain⟨A2,cap2,_,rfl,_⟩:=dp (P:=P) hr hys h2 hone'
  obtain⟨_,t1,t2⟩:=p6 hys (Nat.min_le_left ys.length n) h2
  obtain⟨A3,cap3,news,e3,hn,hf⟩:=dp (P:=P) hr t1 t2 (fun y hy=>hone' y (Bz hy))
  have hl:(ys.take (min ys.length n)).length=min ys.length n:=by simp
  obtain⟨w',r1,r2,r3,r4⟩:=kz (P:=P) hr hov h1 hn (by omega)
  refine⟨.int .i64 (min ys.length n:Nat),w',?_,r2,r3,r4,.int⟩
  have hf':(Builtin.firstCells te.k (min ys.length n) (.slice A2 ys.length cap2)).run P w=.ok news w:=by
   have:=hf w rfl
   rw[hl] at this
   cases A2<;>exact this
  have hmin:Nat.min ys.length n=min ys.length n:=rfl
  simp only[Builtin.copy_,hts,Bn,AY,BH,run_underlying hu,Sem.run_bind,Sem.run_pure,Result.andThen_ok,Builtin.lenOf,(hL _ _ hte).size,hmin,hf']
  cases A1 with
  |none=>simp only[Sem.run_pure,goInt] at r1⊢;cases r1;rfl
  |some a=>simp only[Sem.run_bind,Sem.run_pure,goInt] at r1⊢;rw[r1];rfl
def ju (L:Lay) (ob:List Ob) (t:Nat) (d1:DV):Option (DV×List Ob):=
 match L t with
 |some {d:=.slice e,..}=>match L e with
  |some te=>match qP d1 with
   |some n=>if te.zero.cells.length=te.k∧te.zero.cells.all DV.one=true then(bW ob te.k d1 (AO n te.zero)).map fun ob'=>(.tup [],ob') else none
   |none=>none
  |none=>none
 |_=>none
theorem ml (hL:af P L) (hr:HR w F μ σ){t:Nat}{d1 d:DV}{v1:Value}{σ':List Ob} (h:ju L σ t d1=some (d,σ')) (h1:Rep w F μ σ d1 v1) (ts:Array TypeId) (hts:ts[0]?=some t) (ty:TypeId):
  ∃v w',(Builtin.clear_ ts ty #[v1]).run P w=.ok v w'∧HR w' F μ σ'∧Step w F μ σ w' F μ σ'∧Fr w μ w' μ∧Rep w' F μ σ' d v:=by
 unfold ju at h
 split at h<;>try cases h
 rename_i q0 k0 b0 e z0 ht
 obtain⟨desc,hu,rfl⟩:=(hL _ _ ht).und
 split at h<;>try cases h
 rename_i te hte
 split at h<;>try cases h
 rename_i n hlen
 split at h<;>try cases h
 rename_i hz
 cases hov:bW σ te.k d1 (AO n te.zero) with
 |none=>rw[hov] at h;cases h
 |some ob'=>
  rw[hov] at h
  cases h
  obtain⟨A1,cap1,rfl⟩:=mv hlen h1
  obtain⟨it,z',i1,i2,i3,i4,i5,i6⟩:=(hL _ _ hte).info
  have hzr:∀w,(zeroValue e).run P w=.ok z' w:=fun w=>by simp[zeroValue,typeInfo,i1,i4,program,Sem.run]
  obtain⟨w',r1,r2,r3,r4⟩:=kz (P:=P) hr hov h1 (sP hL hte i6 i5 hz.1 hz.2 n) (by simp)
  refine⟨.tuple #[],w',?_,r2,r3,r4,.tup rfl (fun i d v h=>by simp at h)⟩
  simp only[Builtin.clear_,hts,Bn,AY,run_underlying hu,Sem.run_bind,Result.andThen_ok]
  cases A1 with
  |none=>simp only[Sem.run_pure] at r1⊢;cases r1;rfl
  |some a=>
   cases n with
   |zero=>
    have:Builtin.zeroCells z'.cells 0= #[]:=by simp[Builtin.zeroCells]
    rw[this] at r1
    simp only[storeCells,Sem.run_pure] at r1
    cases r1
    simp only[Sem.run_pure]
   |succ n=>
    simp only[Sem.run_bind,hzr,Result.andThen_ok] at r1⊢
    rw[r1]
    rfl
end
end
section
section
variable{P:Program}{L:Lay}{w:World}{F:Nat→Nat→Prop}{μ:Nat→Option Nat}{σ:List Ob}
def TD.scal:TD→Bool
 |.int _|.bool|.str=>true
 |_=>false
def ls (L:Lay) (kt:Nat) (d:DV):Bool:=
 match L kt with
 |some {d:=.struct fs,eq:=true,..}=>match d with
  |.agg cs=>fs.all fun p=>match L p.2 with
   |some ti=>ti.d.scal&&decide (p.1<cs.length)
   |none=>false
  |_=>false
 |some ti=>ti.d.scal&&d.scal
 |none=>false
def iU (L:Lay) (kt:Nat) (a b:DV):Option Bool:=
 match L kt with
 |some {d:=.struct fs,eq:=true,..}=>match a,b with
  |.agg xs,.agg ys=>fp L fs xs ys
  |_,_=>none
 |some ti=>dh ti.d a b
 |none=>none
def dP (L:Lay) (kt:Nat) (key:DV):List DV→Nat→Option (Option (Nat×DV))
 | [],_=>some none
 |k::v::r,i=>match iU L kt key k with
  |some true=>some (some (i,v))
  |some false=>dP L kt key r (i+1)
  |none=>none
 |_,_=>none
theorem TD.scal_agg{d:TD} (h:d.scal=true):d.isAgg=false:=by cases d<;>first|rfl|(cases h)
theorem iQ (hL:af P L){kt:Nat}{ti:TI} (ht:L kt=some ti) (hs:ti.d.scal=true) (e:Bool) (n:Nat) (v:Value):(Instr.checkKey e (n+1) kt v).run P w=.ok () w:=by
 obtain⟨desc,hu,hd⟩:=(hL _ _ ht).und
 have:(∃k,desc=.int k)∨desc=.bool∨desc=.string:=by
  cases hq:ti.d<;>rw[hq] at hd hs<;>simp only[kV] at hd<;>first|(cases hs;done)|exact .inl ⟨_,hd⟩|exact .inr (.inl hd)|exact .inr (.inr hd)
 rcases this with⟨k,rfl⟩|rfl|rfl<;>simp only[Instr.checkKey,Sem.run_bind,run_underlying hu,Result.andThen_ok]<;>cases v<;>rfl
theorem lD (hL:af P L){cs:List DV}{vs:List Value} (hl:cs.length=vs.length) (e:Bool) (n:Nat):∀(fs:List Field),((fs.map fun f=>(f.offset,f.type)).all fun p=>match L p.2 with
   |some ti=>ti.d.scal&&decide (p.1<cs.length)
   |none=>false)=true→
  (forIn fs PUnit.unit (fun(f:Field) (r:PUnit)=>(do
    if f.name≠ "_" then
     Instr.checkKey e (n+1) f.type (←part f.type ⟨vs⟩ f.offset)
     pure PUnit.unit
     pure (.yield PUnit.unit)
    else
     pure PUnit.unit
     pure (.yield PUnit.unit):Sem (ForInStep PUnit)))).run P w=.ok PUnit.unit w:=by
 intro fs
 induction fs with
 |nil=>intro _;rfl
 |cons f fs ih=>
  intro h
  simp only[Bf,Cv,BF] at h
  obtain⟨h1,h2⟩:=h
  split at h1
  ·rename_i ti ht
   simp only[BF,decide_eq_true_eq] at h1
   have hagg:=(hL _ _ ht).isAgg w
   rw[TD.scal_agg h1.1] at hagg
   have e2:vs[f.offset]?=some (vs[f.offset]'(by omega)):=AI _
   have p2:(part f.type ⟨vs⟩ f.offset).run P w=.ok (vs[f.offset]'(by omega)) w:=by
    simp only[part,Sem.run_bind,hagg,Result.andThen_ok,Bb,if_false,Bn,e2,Sem.run_pure]
   simp only[List.forIn_cons,Sem.run_bind]
   by_cases hn:f.name≠ "_"
   ·simp only[if_pos hn,Sem.run_bind,p2,Result.andThen_ok,iQ hL ht h1.1,Sem.run_pure]
    exact ih h2
   ·simp only[if_neg hn,Result.andThen_ok,Sem.run_pure]
    exact ih h2
  ·cases h1
theorem jS (hL:af P L){kt:Nat}{d:DV}{v:Value} (h:ls L kt d=true) (hv:Rep w F μ σ d v) (e:Bool):(Instr.checkKey e 10000 kt v).run P w=.ok () w:=by
 have key:∀n,(Instr.checkKey e (n+2) kt v).run P w=.ok () w:=by
  intro n
  unfold ls at h
  split at h
  ·rename_i k0 b0 fs z ht
   split at h<;>try cases h
   rename_i cs
   obtain⟨desc,hu,fields,rfl,hfs⟩:=(hL _ _ ht).und
   cases hv with
   | @agg _ vs hl hh=>
    rw[←hfs] at h
    have:=lD hL (P:=P) (w:=w) hl e n fields.toList h
    rw[Instr.checkKey]
    simp only[Sem.run_bind,run_underlying hu,Result.andThen_ok]
    rw[←Array.forIn_toList]
    refine(congrArg (fun x:Result PUnit=>x.andThen fun a w'=>Sem.run P (pure ()) w') this).trans ?_
    rfl
  ·rename_i ti _ ht
   simp only[BF] at h
   exact iQ hL ht h.1 e (n+1) v
  ·cases h
 exact key 9998
def nr (w:World) (F:Nat→Nat→Prop) (μ:Nat→Option Nat) (σ:List Ob):Option (Nat×DV)→Option (Nat×Value)→Prop
 |none,none=>True
 |some (i,d),some (j,v)=>i=j∧Rep w F μ σ d v
 |_,_=>False
theorem nU{k v:DV}{ds:List DV}{e:MapEntry}{es:List MapEntry} (h:bF w F μ σ (k::v::ds) (bY (e::es))):Rep w F μ σ k e.key∧Rep w F μ σ v e.val∧bF w F μ σ ds (bY es):=by
 obtain⟨h1,h2⟩:=h
 simp only[bY,Cx,Bq,Be,A5] at h1 h2
 exact⟨h2 0 _ _ rfl rfl,h2 1 _ _ rfl rfl,by simpa[bY] using h1,fun i d v hd hv=>h2 (i+2) d v (by simpa using hd) (by simpa[bY] using hv)⟩
theorem ej (es:List MapEntry):(bY es).length=2*es.length:=by
 induction es with
 |nil=>rfl
 |cons e es ih=>simp only[bY,Cx,AP,A5,Bj] at ih⊢;omega
theorem qd (hL:af P L){kt:Nat}{ti:TI} (ht:L kt=some ti) (hs:ti.d.scal=true){a b:DV}{va vb:Value}{q:Bool} (h:dh ti.d a b=some q) (ha:Rep w F μ σ a va) (hb:Rep w F μ σ b vb):
  ∃desc,P.underlying kt=some desc∧Instr.sameNow desc va vb=some q:=by
 obtain⟨desc,hu,hd⟩:=(hL _ _ ht).und
 refine⟨desc,hu,?_⟩
 unfold dh at h
 split at h<;>try cases h
 ·split at h<;>try cases h
  rename_i k hk
  rw[hk] at hd
  cases hd
  split at h<;>try cases h
  rename_i hab
  cases ha;cases hb
  simp[Instr.sameNow,hab]
 ·split at h<;>try cases h
  rename_i hk
  rw[hk] at hd
  cases hd
  cases ha;cases hb
  rfl
 ·split at h<;>try cases h
  rename_i hk
  rw[hk] at hd
  cases hd
  cases ha;cases hb
  simp only[Instr.sameNow,AX.injEq]
  exact beq_toListBytes _ _
theorem nR (hL:af P L){kt:Nat}{key:DV}{kv:Value} (hk:Rep w F μ σ key kv) (ho:ls L kt key=true):∀(es:List MapEntry) (ds:List DV) (i:Nat) (r:Option (Nat×DV)),bF w F μ σ ds (bY es)→dP L kt key ds i=some r→
  ∃r',(do match Instr.findNow (←underlying kt) kv es i with
   |some r=>pure r
   |none=>Instr.findAsking kt kv es i:Sem (Option (Nat×Value))).run P w=.ok r' w∧nr w F μ σ r r':=by
 have hkk:∃ti,L kt=some ti∧((ti.d.scal=true∧∀a b,iU L kt a b=dh ti.d a b)∨(∃fs,ti.d=.struct fs∧ti.eq=true∧∀a b,iU L kt a b=match a,b with|.agg xs,.agg ys=>fp L fs xs ys|_,_=>none)):=by
  unfold ls at ho
  split at ho
  ·rename_i k0 b0 fs z ht
   exact⟨_,ht,.inr ⟨fs,rfl,rfl,fun a b=>by unfold iU;rw[ht]⟩⟩
  ·rename_i ti hne ht
   simp only[BF] at ho
   refine⟨ti,ht,.inl ⟨ho.1,fun a b=>?_⟩⟩
   unfold iU
   rw[ht]
   obtain⟨eq,k,by_,d,z⟩:=ti
   cases eq<;>cases d<;>first|rfl|(cases ho.1)
  ·cases ho
 obtain⟨ti,ht,hcase⟩:=hkk
 obtain⟨desc,hu,hd⟩:=(hL _ _ ht).und
 rcases hcase with⟨hs,hkq⟩|⟨fs,hfs,heq,hkq⟩
 ·-- scalars
  have now:∀(es:List MapEntry) (ds:List DV) (i:Nat) (r:Option (Nat×DV)),bF w F μ σ ds (bY es)→dP L kt key ds i=some r→∃r',Instr.findNow desc kv es i=some r'∧nr w F μ σ r r':=by
   intro es
   induction es with
   |nil=>
    intro ds i r hr h
    obtain rfl:ds=[]:=BC (by have:=hr.1;simpa[bY] using this)
    cases h
    exact⟨none,rfl,trivial⟩
   |cons e es ih=>
    intro ds i r hr h
    have hlen:=hr.1
    rw[ej] at hlen
    rcases ds with _|⟨k,_|⟨v,ds⟩⟩
    ·simp at hlen
    ·simp at hlen;omega
    obtain⟨h1,h2,h3⟩:=nU hr
    simp only[dP] at h
    cases hq:iU L kt key k with
    |none=>rw[hq] at h;cases h
    |some q=>
     rw[hq] at h
     rw[hkq] at hq
     obtain⟨desc',hu',hsame⟩:=qd hL ht hs hq hk h1
     rw[hu] at hu'
     cases hu'
     cases q with
     |true=>cases h;exact⟨some (i,e.val),by simp only[Instr.findNow,hsame],rfl,h2⟩
     |false=>
      obtain⟨r',g1,g2⟩:=ih ds (i+1) r h3 h
      exact⟨r',by simp only[Instr.findNow,hsame];exact g1,g2⟩
  intro es ds i r hr h
  obtain⟨r',g1,g2⟩:=now es ds i r hr h
  exact⟨r',by simp only[Sem.run_bind,run_underlying hu,Result.andThen_ok,g1,Sem.run_pure],g2⟩
 ·-- structs
  rw[hfs] at hd
  obtain⟨fields,rfl,hff⟩:=hd
  have ask:∀(es:List MapEntry) (ds:List DV) (i:Nat) (r:Option (Nat×DV)),bF w F μ σ ds (bY es)→dP L kt key ds i=some r→∃r',(Instr.findAsking kt kv es i).run P w=.ok r' w∧nr w F μ σ r r':=by
   intro es
   induction es with
   |nil=>
    intro ds i r hr h
    obtain rfl:ds=[]:=BC (by have:=hr.1;simpa[bY] using this)
    cases h
    exact⟨none,rfl,trivial⟩
   |cons e es ih=>
    intro ds i r hr h
    have hlen:=hr.1
    rw[ej] at hlen
    rcases ds with _|⟨k,_|⟨v,ds⟩⟩
    ·simp at hlen
    ·simp at hlen;omega
    obtain⟨h1,h2,h3⟩:=nU hr
    simp only[dP] at h
    cases hq:iU L kt key k with
    |none=>rw[hq] at h;cases h
    |some q=>
     rw[hq] at h
     have heqm:eqM L σ kt key k=some q:=by
      rw[hkq] at hq
      unfold eqM
      rw[ht]
      obtain⟨eq,kk,by_,d,z⟩:=ti
      dsimp only at hfs heq
      subst hfs;subst heq
      exact hq
     have hrun:(Op.equal kt kv e.key).run P w=.ok q w:=by
      have h0:=o5 hL heqm hk h1 .eql (.inl rfl) (.tmp 0) (.tmp 0)
      rw[hkq] at hq
      split at hq<;>try cases hq
      cases hk with
      | @agg xs vx hlx hx=>
      generalize hek:e.key=ek at h1
      cases h1 with
      | @agg ys vy hly hy=>
      obtain⟨e1,e2,e3⟩:=(hL _ _ ht).eqs heq
      have:=run_equalIn_struct (P:=P) w 9999 kt ⟨vx⟩ ⟨vy⟩ (by simp[Program.fieldsOf,hu]) e1
      simp only[Op.equal,Op.maxDepth]
      rw[this,show P.fieldsOf kt=fields by simp[Program.fieldsOf,hu]]
      exact le hL hlx hx hly hy 9998 _ _ (e3 _ hu) (by rw[hff];exact hq)
     cases q with
     |true=>cases h;exact⟨some (i,e.val),by simp only[Instr.findAsking,Sem.run_bind,hrun,Result.andThen_ok,if_true,Sem.run_pure],rfl,h2⟩
     |false=>
      obtain⟨r',g1,g2⟩:=ih ds (i+1) r h3 h
      exact⟨r',by simp only[Instr.findAsking,Sem.run_bind,hrun,Result.andThen_ok,Bb,if_false];exact g1,g2⟩
  intro es ds i r hr h
  obtain⟨r',g1,g2⟩:=ask es ds i r hr h
  refine⟨r',?_,g2⟩
  simp only[Sem.run_bind,run_underlying hu,Result.andThen_ok]
  cases es with
  |nil=>
   obtain rfl:ds=[]:=BC (by have:=hr.1;simpa[bY] using this)
   exact g1
  |cons e es=>
   have:Instr.findNow (.struct fields) kv (e::es) i=none:=by simp[Instr.findNow,Instr.sameNow]
   rw[this]
   exact g1
def gp (L:Lay) (ob:List Ob) (t:Nat) (m key:DV) (ok:Bool):Option DV:=
 match L t with
 |some {d:=.map kt vt,..}=>match L vt with
  |some te=>match m with
   |.mp id=>match ob[id]? with
    |some (.oth (.map _ _) ds)=>if ls L kt key=true then(match dP L kt key ds 0 with
     |some (some (_,v))=>some (if ok then .tup [v,.bool true] else v)
     |some none=>some (if ok then .tup [te.zero,.bool false] else te.zero)
     |none=>none) else none
    |_=>none
   |_=>none
  |none=>none
 |_=>none
theorem qg (hL:af P L) (hr:HR w F μ σ){t:Nat}{m key d:DV}{vm vk:Value}{ok:Bool} (h:gp L σ t m key ok=some d) (hm:Rep w F μ σ m vm) (hk:Rep w F μ σ key vk):
  ∃v,(Instr.lookup t vm vk ok).run P w=.ok v w∧Rep w F μ σ d v:=by
 unfold gp at h
 split at h<;>try cases h
 rename_i q0 k0 b0 kt vt z ht
 obtain⟨desc,hu,rfl⟩:=(hL _ _ ht).und
 split at h<;>try cases h
 rename_i te hte
 split at h<;>try cases h
 rename_i id
 split at h<;>try cases h
 rename_i bs clock ds ho
 split at h<;>try cases h
 rename_i hko
 cases hm with
 | @mp _ r hmu _=>
 obtain⟨_,vs,⟨r',me,g1,g2,g3,rfl⟩,g4,g5⟩:=hr.obj _ _ ho
 rw[hmu] at g1
 cases g1
 have hget:(getObj r).run P w=.ok (.map me clock) w:=by
  simp only[getObj,Sem.run]
  rw[show w.heap[r]?=_ from g2]
 obtain⟨z',hz,hzs,hzo⟩:=(hL _ _ hte).zero w
 have hrz:Rep w F μ σ te.zero z':=by rw[←hzo];exact cn z'
 cases hf:dP L kt key ds 0 with
 |none=>rw[hf] at h;cases h
 |some r=>
  rw[hf] at h
  obtain⟨r',h1,h2⟩:=nR hL hk hko me.toList ds 0 r ⟨g4,g5⟩ hf
  have hfk:(Instr.findKey kt vk me.toList).run P w=.ok r' w:=h1
  have hck:=jS (P:=P) hL hko hk me.isEmpty
  cases r with
  |none=>
   cases r' with
   |some _=>exact h2.elim
   |none=>
    refine⟨if ok then .tuple #[z',.bool false] else z',?_,?_⟩
    ·simp only[Instr.lookup,Sem.run_bind,run_underlying hu,Result.andThen_ok,hget,Sem.run_pure,hck,hfk,hz]
    ·cases ok<;>simp only[Bb,if_false,if_true,AX.injEq] at h⊢<;>subst h
     ·exact hrz
     ·refine .tup (vs:=[z',.bool false]) rfl fun i d v hd hv=>?_
      rcases i with _|_|i<;>simp at hd hv
      ·subst hd;subst hv;exact hrz
      ·subst hd;subst hv;exact .bool
  |some p=>
   obtain⟨i,dv⟩:=p
   cases r' with
   |none=>exact h2.elim
   |some p'=>
    obtain⟨j,v⟩:=p'
    refine⟨if ok then .tuple #[v,.bool true] else v,?_,?_⟩
    ·simp only[Instr.lookup,Sem.run_bind,run_underlying hu,Result.andThen_ok,hget,Sem.run_pure,hck,hfk]
    ·cases ok<;>simp only[Bb,if_false,if_true,AX.injEq] at h⊢<;>subst h
     ·exact h2.2
     ·refine .tup (vs:=[v,.bool true]) rfl fun i d v' hd hv=>?_
      rcases i with _|_|i<;>simp at hd hv
      ·subst hd;subst hv;exact h2.2
      ·subst hd;subst hv;exact .bool
end
end
section
section
variable{P:Program}{L:Lay}{w:World}{F:Nat→Nat→Prop}{μ:Nat→Option Nat}{σ:List Ob}
theorem eF:∀(es:List MapEntry) (q:Nat),(bY es)[2*q]?=(es[q]?).map (·.key)∧(bY es)[2*q+1]?=(es[q]?).map (·.val)
 | [],q=>by simp[bY]
 |e::es,0=>by simp[bY]
 |e::es,q+1=>by
  have:=eF es q
  rw[show 2*(q+1)=2*q+2 by omega]
  simpa[bY] using this
theorem mZ{kt:Nat}{key:DV}:∀(ds:List DV) (i j:Nat) (d:DV),dP L kt key ds i=some (some (j,d))→∃q k',j=i+q∧ds[2*q]?=some k'∧iU L kt key k'=some true∧ds[2*q+1]?=some d
 | [],i,j,d,h=>by simp[dP] at h
 | [_],i,j,d,h=>by simp[dP] at h
 |k::v::r,i,j,d,h=>by
  simp only[dP] at h
  split at h
  ·rename_i hq
   simp only[AX.injEq,Prod.mk.injEq] at h
   obtain⟨rfl,rfl⟩:=h
   exact⟨0,k,rfl,rfl,hq,rfl⟩
  ·obtain⟨q,k',h1,h2,h3,h4⟩:=mZ r (i+1) j d h
   exact⟨q+1,k',by omega,by rw[show 2*(q+1)=2*q+2 by omega];simpa using h2,h3,by rw[show 2*(q+1)+1=2*q+1+2 by omega];simpa using h4⟩
  ·cases h
def qV (L:Lay) (kt:Nat):Bool:=match L kt with
 |some ti=>!ti.d.scal
 |none=>true
def nt (L:Lay) (ob:List Ob) (t:Nat) (m key v:DV):Option (List Ob):=
 match L t with
 |some {d:=.map kt _,..}=>match m with
  |.mp id=>match ob[id]? with
   |some (.oth (.map bs clock) ds)=>if ls L kt key=true then(match dP L kt key ds 0 with
    |some none=>some (ob.set id (.oth (.map (bs++[clock]) (clock+1)) (ds++[key,v])))
    |some (some (i,_))=>if qV L kt=true then none else some (ob.set id (.oth (.map bs clock) ((ds.set (2*i) key).set (2*i+1) v)))
    |none=>none) else none
   |_=>none
  |_=>none
 |_=>none
theorem oD (x:ByteArray):(x==x)=true:=by rw[beq_toListBytes];simp
theorem rE{x y:ByteArray} (h:(x==y)=true):x=y:=by
 rw[beq_toListBytes,ByteArray.toList_eq,ByteArray.toList_eq] at h
 obtain⟨⟨x⟩⟩:=x
 obtain⟨⟨y⟩⟩:=y
 have:x=y:=by simpa using h
 rw[this]
theorem rj{k:TD}{a b:DV}{va vb:Value} (h:dh k a b=some true) (ha:Rep w F μ σ a va) (hb:Rep w F μ σ b vb):va=vb:=by
 unfold dh at h
 split at h<;>try cases h
 ·split at h<;>try cases h
  split at h<;>try cases h
  rename_i hab
  simp only[AX.injEq,beq_iff_eq] at h
  cases ha;cases hb
  subst hab;subst h
  rfl
 ·split at h<;>try cases h
  simp only[AX.injEq,beq_iff_eq] at h
  cases ha;cases hb
  subst h
  rfl
 ·split at h<;>try cases h
  rename_i x y _ _
  simp only[AX.injEq] at h
  cases ha;cases hb
  rw[←beq_toListBytes] at h
  rw[rE h]
theorem ny{k:TD}{a b:DV}{v:Value} (h:dh k a b=some true) (ha:Rep w F μ σ a v):Instr.sameBits 10000 v v=true:=by
 have key:∀n,Instr.sameBits (n+1) v v=true:=by
  intro n
  unfold dh at h
  split at h<;>try cases h
  ·cases ha;simp[Instr.sameBits]
  ·cases ha;simp[Instr.sameBits]
  ·cases ha;simp only[Instr.sameBits];exact oD _
 exact key 9999
theorem qa (hL:af P L) (hr:HR w F μ σ){t:Nat}{m key x:DV}{vm vk vx:Value}{σ':List Ob} (h:nt L σ t m key x=some σ') (hm:Rep w F μ σ m vm) (hk:Rep w F μ σ key vk) (hx:Rep w F μ σ x vx):
  ∃w',(Instr.mapUpdate t vm vk vx).run P w=.ok () w'∧HR w' F μ σ'∧Step w F μ σ w' F μ σ'∧Fr w μ w' μ:=by
 unfold nt at h
 split at h<;>try cases h
 rename_i q0 k0 b0 kt vt z ht
 obtain⟨desc,hu,rfl⟩:=(hL _ _ ht).und
 split at h<;>try cases h
 rename_i id
 split at h<;>try cases h
 rename_i bs clock ds ho
 split at h<;>try cases h
 rename_i hko
 cases hm with
 | @mp _ r hmu _=>
 obtain⟨_,vs,⟨r',me,g1,g2,g3,rfl⟩,g4,g5⟩:=hr.obj _ _ ho
 rw[hmu] at g1
 cases g1
 have hget:(getObj r).run P w=.ok (.map me clock) w:=by
  simp only[getObj,Sem.run]
  rw[show w.heap[r]?=_ from g2]
 have hset:∀O,(setObj r O).run P w=.ok () (cN w r O):=fun O=>by
  simp only[setObj,Sem.run]
  rw[show w.heap[r]?=_ from g2]
  rfl
 have hck:=jS (P:=P) hL hko hk false
 have rep':∀{w' F' μ' σ'} (s:Step w F μ σ w' F' μ' σ') (ds':List DV) (es':List MapEntry),bF w F μ σ ds' (bY es')→ds'.length=(bY es').length∧∀(i:Nat) (d:DV) (v:Value),ds'[i]?=some d→(bY es')[i]?=some v→Rep w' F' μ' σ' d v:=fun s ds' es' h=>⟨h.1,fun i d v hd hv=>(h.2 i d v hd hv).step s⟩
 cases hf:dP L kt key ds 0 with
 |none=>rw[hf] at h;cases h
 |some q=>
  rw[hf] at h
  obtain⟨q',h1,h2⟩:=nR hL hk hko me.toList ds 0 q ⟨g4,g5⟩ hf
  have hfk:(Instr.findKey kt vk me.toList).run P w=.ok q' w:=h1
  cases q with
  |none=>
   cases h
   cases q' with
   |some _=>exact h2.elim
   |none=>
    have hnew:bF w F μ σ (ds++[key,x]) (bY (me.push {key:=vk,val:=vx,born:=clock}).toList):=by
     have e:bY (me.push {key:=vk,val:=vx,born:=clock}).toList=bY me.toList++[vk,vx]:=by simp[bY]
     rw[e]
     refine bF.append ⟨g4,g5⟩ ⟨rfl,fun i d v hd hv=>?_⟩
     rcases i with _|_|i<;>simp at hd hv
     ·subst hd;subst hv;exact hk
     ·subst hd;subst hv;exact hx
    refine⟨cN w r (.map (me.push {key:=vk,val:=vx,born:=clock}) (clock+1)),?_,hr.turn _ ho hmu rfl fun hst hh=>⟨by simp[OT.refs],_,⟨r,_,hmu,hh,by simp[g3],rfl⟩,(rep' hst _ _ hnew).1,(rep' hst _ _ hnew).2⟩⟩
    simp only[Instr.mapUpdate,Sem.run_bind,run_underlying hu,Result.andThen_ok,hget,hck,hfk,hset]
  |some p=>
   obtain⟨i,dv⟩:=p
   cases q' with
   |none=>exact h2.elim
   |some p'=>
    obtain⟨j,v⟩:=p'
    obtain⟨rfl,h2⟩:=h2
    dsimp only at h
    split at h<;>try cases h
    rename_i hst
    obtain⟨qq,k',e1,e2,e3,e4⟩:=mZ ds 0 i dv hf
    obtain rfl:i=qq:=by omega
    have hlen:i<me.toList.length:=by
     have:=(AH.1 e4).1
     rw[g4,ej] at this
     omega
    have hme:me.toList[i]?=some (me.toList[i]'hlen):=AI _
    have hme':me[i]?=some (me.toList[i]'hlen):=by simp
    have hk':Rep w F μ σ k' (me.toList[i]'hlen).key:=g5 _ _ _ e2 (by rw[(eF me.toList i).1,hme];rfl)
    have hsc:∃ti,L kt=some ti∧ti.d.scal=true∧dh ti.d key k'=some true:=by
     unfold qV at hst
     split at hst
     ·rename_i ti hti
      refine⟨ti,hti,by simpa using hst,?_⟩
      unfold iU at e3
      rw[hti] at e3
      obtain⟨eq,k,by_,d,z⟩:=ti
      simp only[Cy,Bool.not_eq_false] at hst
      cases eq<;>cases d<;>first|exact e3|(simp[TD.scal] at hst)
     ·simp at hst
    obtain⟨ti,_,_,hec⟩:=hsc
    have hsame:=rj hec hk hk'
    have hbits:=ny hec hk
    have hstay:(Instr.keyThatStays ((me[i]?.map (·.key)).getD vk) vk).run P w=.ok vk w:=by
     rw[hme']
     simp only[AW,A8,Instr.keyThatStays,←hsame,hbits,if_true,Sem.run_pure]
    have hnew:bF w F μ σ ((ds.set (2*i) key).set (2*i+1) x) (bY (me.modify i fun e=>{e with key:=vk,val:=vx}).toList):=by
     have hget':∀q,(me.modify i fun e=>{e with key:=vk,val:=vx}).toList[q]?=if q=i then some {(me.toList[i]'hlen) with key:=vk,val:=vx} else me.toList[q]?:=by
      intro q
      have:(me.modify i fun e=>{e with key:=vk,val:=vx})[q]?=if q=i then some {(me.toList[i]'hlen) with key:=vk,val:=vx} else me.toList[q]?:=by
       rw[C1]
       by_cases hq:i=q
       ·subst hq
        simp[hme']
       ·rw[if_neg hq,if_neg (fun e=>hq e.symm)]
        simp
      rw[Cf];exact this
     refine⟨by simp[ej,g4],fun q d v hd hv=>?_⟩
     have hsz:2*i+1<ds.length:=(AH.1 e4).1
     rw[B2,B2] at hd
     simp only[Ci] at hd
     obtain⟨p,hp|hp⟩:∃p,q=2*p∨q=2*p+1:=⟨q/2,by omega⟩
     ·subst hp
      rw[(eF _ p).1,hget'] at hv
      rw[if_neg (by omega)] at hd
      by_cases hpi:p=i
      ·subst hpi
       rw[if_pos rfl] at hv
       simp only[AW,AX.injEq] at hv
       rw[if_pos rfl,if_pos (by omega)] at hd
       cases hd;subst hv
       exact hk
      ·rw[if_neg hpi] at hv
       rw[if_neg (by omega)] at hd
       exact g5 _ _ _ hd (by rw[(eF _ p).1];exact hv)
     ·subst hp
      rw[(eF _ p).2,hget'] at hv
      by_cases hpi:p=i
      ·subst hpi
       rw[if_pos rfl] at hv
       simp only[AW,AX.injEq] at hv
       rw[if_pos rfl,if_pos (by omega)] at hd
       cases hd;subst hv
       exact hx
      ·rw[if_neg hpi] at hv
       rw[if_neg (by omega),if_neg (by omega)] at hd
       exact g5 _ _ _ hd (by rw[(eF _ p).2];exact hv)
    refine⟨cN w r (.map (me.modify i fun e=>{e with key:=vk,val:=vx}) clock),?_,hr.turn _ ho hmu rfl fun hst hh=>⟨by simp[OT.refs],_,⟨r,_,hmu,hh,?_,rfl⟩,(rep' hst _ _ hnew).1,(rep' hst _ _ hnew).2⟩⟩
    ·simp only[Instr.mapUpdate,Sem.run_bind,run_underlying hu,Result.andThen_ok,hget,hck,hfk,hstay,hset]
    ·rw[←g3]
     apply BV
     intro q
     rw[AQ,AQ]
     have:(me.modify i fun e=>{e with key:=vk,val:=vx})[q]?=if q=i then some {(me.toList[i]'hlen) with key:=vk,val:=vx} else me.toList[q]?:=by
      rw[C1]
      by_cases hq:i=q
      ·subst hq
       simp[hme']
      ·rw[if_neg hq,if_neg (fun e=>hq e.symm)]
       simp
     rw[Cf,this]
     by_cases hq:q=i
     ·subst hq;rw[if_pos rfl,hme];rfl
     ·rw[if_neg hq]
end
end
section
section
variable{P:Program}{L:Lay}{w:World}{F:Nat→Nat→Prop}{μ:Nat→Option Nat}{σ:List Ob}
def nq (P:Program) (w:World) (F:Nat→Nat→Prop) (μ:Nat→Option Nat) (σ:List Ob) (s:Sem Value) (d:DV) (σ':List Ob):Prop:=
 ∃v w' μ',s.run P w=.ok v w'∧HR w' F μ' σ'∧Step w F μ σ w' F μ' σ'∧Fr w μ w' μ'∧Rep w' F μ' σ' d v
theorem HR.garbage (hr:HR w F μ σ) (O:Obj):HR (w.alloc O) F μ σ∧Step w F μ σ (w.alloc O) F μ σ∧Fr w μ (w.alloc O) μ:=by
 have hst:Step w F μ σ (w.alloc O) F μ σ:=by
  refine⟨fun c q hF=>?_,fun _ _ h=>h,fun i o h=>⟨o,h,Ob.ext_refl o⟩,fun i t' k' zs us h h' he=>⟨rfl,fun q cu fr hm hq=>⟨cu,fr,?_,rfl⟩⟩,fun i tt es h=>rfl⟩
  ·rw[aS,if_neg]
   have:=(hr.col c q hF).1
   omega
  ·have:=hr.lt i q hm
   rw[aS,if_neg (by omega)];exact hq
 refine⟨⟨fun i o h=>?_,hr.out,hr.inj,fun i q h=>?_,fun c q h=>⟨?_,(hr.col c q h).2⟩⟩,hst,⟨rfl,rfl,rfl,by rw[cG];omega,fun q hq hm=>?_,fun i q h=>.inl h,AU _⟩⟩
 ·have:=hr.obj i o h
  cases o with
  |arr t' k' zs=>
   refine⟨this.1,?_⟩
   rcases this.2 with⟨e1,e2⟩|⟨b',cu,fr',hb',hh',hfr',hcc⟩
   ·exact .inl ⟨e1,e2⟩
   ·refine .inr ⟨b',cu,fr',hb',?_,hfr',fun j q x d hx hd=>?_⟩
    ·have:=hr.lt _ _ hb'
     rw[aS,if_neg (by omega)];exact hh'
    ·obtain⟨v,h1,h2⟩:=hcc j q x d hx hd
     exact⟨v,h1,h2.step hst⟩
  |oth t' ds=>
   refine this.keep hst h fun q hq=>?_
   have:=hr.lt _ _ hq
   rw[aS,if_neg (by omega)]
  |dead=>exact this
 ·have:=hr.lt _ _ h
  rw[cG];omega
 ·have:=(hr.col c q h).1
  rw[cG];omega
 ·rw[aS,if_neg (by omega)]
theorem qf (hr:HR w F μ σ) (t:TypeId):nq P w F μ σ (Instr.makeMap t none) (.mp σ.length) (σ++[.oth (.map [] 0) []]):=by
 obtain⟨p1,p2,p3⟩:=hr.pushAny (.map #[] 0) (.oth (.map [] 0) []) fun hst h1 h2=>⟨by simp[OT.refs],[],⟨_, #[],h1,h2,rfl,rfl⟩,rfl,fun i d v hd=>by simp at hd⟩
 exact⟨.map (some w.heap.size),_,_,rfl,p1,p2,p3,.mp (by simp[bd]) ⟨.map [] 0,[],by simp,rfl⟩⟩
def mw (L:Lay) (ob:List Ob) (t:Nat) (m:DV):Option (DV×List Ob):=
 match L t with
 |some {d:=.map _ _,..}=>match m with
  |.mp id=>match ob[id]? with
   |some (.oth (.map _ clock) _)=>some (.it ob.length,ob++[.oth (.iter (some id) clock [] clock) []])
   |_=>none
  |_=>none
 |_=>none
theorem r7 (hL:af P L) (hr:HR w F μ σ){t:Nat}{m d:DV}{v:Value}{σ':List Ob} (h:mw L σ t m=some (d,σ')) (hm:Rep w F μ σ m v):nq P w F μ σ (Instr.range t v) d σ':=by
 unfold mw at h
 split at h<;>try cases h
 rename_i q0 k0 b0 kt vt z ht
 obtain⟨desc,hu,rfl⟩:=(hL _ _ ht).und
 split at h<;>try cases h
 rename_i id
 split at h<;>try cases h
 rename_i bs clock ds ho
 cases hm with
 | @mp _ r hmu _=>
 obtain⟨_,vs,⟨r',me,g1,g2,g3,rfl⟩,g4,g5⟩:=hr.obj _ _ ho
 rw[hmu] at g1
 cases g1
 have hid:=(AH.1 ho).1
 have hget:(getObj r).run P w=.ok (.map me clock) w:=by
  simp only[getObj,Sem.run]
  rw[show w.heap[r]?=_ from g2]
 obtain⟨p1,p2,p3⟩:=hr.pushAny (.mapIter (some r) clock #[] clock) (.oth (.iter (some id) clock [] clock) []) fun hst h1 h2=>
  ⟨fun i hi=>by
   simp only[OT.refs,BX] at hi
   subst hi
   exact⟨_,_,by rw[aD,if_neg (by omega)];exact ho⟩,[],⟨rfl,_,some r,h1,h2,by simp only[bd];rw[if_neg (by omega)];exact⟨hmu.symm,rfl⟩⟩,rfl,fun i d v hd=>by simp at hd⟩
 refine⟨.pointer (some ⟨w.heap.size,0,none⟩),_,_,?_,p1,p2,p3,.it (by simp[bd]) ⟨.iter (some id) clock [] clock,[],by simp,rfl⟩⟩
 simp only[Instr.range,Sem.run_bind,run_underlying hu,Result.andThen_ok,hget,Sem.run_pure]
 rfl
def qK (ob:List Ob) (it:DV):Option (DV×List Ob):=
 match it with
 |.it id=>match ob[id]? with
  |some (.oth (.iter (some mid) since seen stepped) _)=>match ob[mid]? with
   |some (.oth (.map [] _) _)=>some (.tup [.bool false],ob)
   |_=>none
  |_=>none
 |_=>none
theorem r8 (hr:HR w F μ σ){it d:DV}{v:Value}{σ':List Ob} (h:qK σ it=some (d,σ')) (hv:Rep w F μ σ it v) (ty:TypeId):nq P w F μ σ (Instr.next v false ty) d σ':=by
 unfold qK at h
 split at h<;>try cases h
 rename_i id
 split at h<;>try cases h
 rename_i mid since seen stepped ds ho
 split at h<;>try cases h
 rename_i clock ds' hm
 cases hv with
 | @it _ r hmu _=>
 obtain⟨_,vs,⟨rfl,r',mo,g1,g2,g3⟩,_,_⟩:=hr.obj _ _ ho
 rw[hmu] at g1
 cases g1
 obtain⟨rfl,g4⟩:=g3
 obtain⟨_,vs',⟨rm,me,q1,q2,q3,rfl⟩,_,_⟩:=hr.obj _ _ hm
 rw[q1] at g2
 have hme:me= #[]:=by simpa using q3
 subst hme
 have hget:(getObj r).run P w=.ok (.mapIter (some rm) since seen.toArray stepped) w:=by
  simp only[getObj,Sem.run]
  rw[show w.heap[r]?=_ from g2]
 have hget':(getObj rm).run P w=.ok (.map #[] clock) w:=by
  simp only[getObj,Sem.run]
  rw[show w.heap[rm]?=_ from q2]
 refine⟨.tuple #[.bool false],w,μ,?_,hr,Step.refl ..,Fr.refl ..,.tup rfl fun i d v hd hv=>?_⟩
 ·simp only[Instr.next,Sem.run_bind,hget,hget',Result.andThen_ok]
  have hf:∀p:MapEntry→Bool,Array.filter p #[] 0 0= #[]:=fun p=>rfl
  have hf':∀p:MapEntry→Bool,Array.filter p #[]= #[]:=fun p=>rfl
  simp[choose,Sem.run,Question.forced,Result.andThen,hf]
 ·rcases i with _|i<;>simp at hd hv
  subst hd;subst hv;exact .bool
def taM (L:Lay) (x:DV) (t:Nat):Option DV:=
 match L t with
 |some te=>match te.d with
  |.other=>none
  |_=>match x with
   |.nili=>some (.tup [te.zero,.bool false])
   |.iface t' d=>if t'=t then some (.tup [d,.bool true]) else some (.tup [te.zero,.bool false])
   |_=>none
 |none=>none
theorem x4 (hL:af P L){x d:DV}{v:Value}{t:Nat} (h:taM L x t=some d) (hv:Rep w F μ σ x v) (xt:TypeId):∃v',(Instr.typeAssert v xt t true).run P w=.ok v' w∧Rep w F μ σ d v':=by
 unfold taM at h
 split at h<;>try cases h
 rename_i te hte
 obtain⟨desc,hu,hd⟩:=(hL _ _ hte).und
 obtain⟨z,hz,_,hzo⟩:=(hL _ _ hte).zero w
 have hrz:Rep w F μ σ te.zero z:=by rw[←hzo];exact cn z
 have hni:∀m,desc≠ .interface m:=by
  rintro m rfl
  cases hq:te.d<;>rw[hq] at hd<;>simp[kV] at hd
 have fails:Rep w F μ σ (.tup [te.zero,.bool false]) (.tuple #[z,.bool false]):=by
  refine .tup (vs:=[z,.bool false]) rfl fun i d v hd hv=>?_
  rcases i with _|_|i<;>simp at hd hv
  ·subst hd;subst hv;exact hrz
  ·subst hd;subst hv;exact .bool
 split at h<;>try cases h
 split at h<;>try cases h
 ·cases hv
  refine⟨.tuple #[z,.bool false],?_,fails⟩
  simp only[Instr.typeAssert,Sem.run_bind,run_underlying hu,Result.andThen_ok]
  cases desc<;>first|exact absurd rfl (hni _)|simp[hz]
 ·rename_i t' d'
  cases hv with
  | @iface _ _ v' hr'=>
   by_cases ht:t'=t
   ·rw[if_pos ht] at h
    cases h
    refine⟨.tuple #[v',.bool true],?_,?_⟩
    ·simp only[Instr.typeAssert,Sem.run_bind,run_underlying hu,Result.andThen_ok]
     cases desc<;>first|exact absurd rfl (hni _)|simp[ht]
    ·refine .tup (vs:=[v',.bool true]) rfl fun i d v hd hv=>?_
     rcases i with _|_|i<;>simp at hd hv
     ·subst hd;subst hv;exact hr'
     ·subst hd;subst hv;exact .bool
   ·rw[if_neg ht] at h
    cases h
    refine⟨.tuple #[z,.bool false],?_,fails⟩
    simp only[Instr.typeAssert,Sem.run_bind,run_underlying hu,Result.andThen_ok]
    cases desc<;>first|exact absurd rfl (hni _)|simp[ht,hz]
def ne (L:Lay) (ob:List Ob) (s t:Nat) (d:DV):Option (DV×List Ob):=
 match L s,L t with
 |some {d:=.slice e,..},some {d:=.slice _,..}=>if s=t∧ic L e=true then(match d with
  |.sl id g off len=>match ob[id]? with
   |some (.arr _ k xs)=>if g=xs.length∧0<len∧k=1 then some (d,ob) else none
   |_=>none
  |_=>none) else none
 |some _,some {d:=.slice e,..}=>if ic L e=true then(match d with
  |.str x=>if x.size≤1073741824 then some (.sl ob.length x.size 0 x.size,ob++[.arr e 1 (x.data.toList.map fun b=>.int .u8 b.toNat)]) else none
  |_=>none) else none
 |_,_=>none
theorem kr.mark{fr:Nat×Nat}{n k:Nat} (h:kr fr n k) (hk:k=1):kr (if(fr.1==fr.2)=true then(n,n+1) else(min fr.1 n,max fr.2 (n+1))) n k:=by
 rcases h with rfl|⟨h,_⟩
 ·exact .inr ⟨AU _,hk⟩
 ·split
  ·exact .inr ⟨AU _,hk⟩
  ·exact .inr ⟨by show n≤min fr.1 n;omega,hk⟩
theorem qe{b o:Nat}{cur:Array Value}{e:TypeId}{fr:Nat×Nat} (h:w.heap[b]?=some (.cells cur e fr)):
  (markStringish ⟨b,o,none⟩).run P w=.ok () (cN w b (.cells cur e (if(fr.1==fr.2)=true then(cur.size,cur.size+1) else(min fr.1 cur.size,max fr.2 (cur.size+1))))):=by
 have hsh:(shape b).run P w=.ok (some (e,cur.size)) w:=by simp[shape,Sem.run,World.shape?,h]
 simp only[markStringish,Sem.run_bind,hsh,Result.andThen_ok,freeze,Sem.run]
 congr 1
 obtain⟨lo,hi⟩:=fr
 unfold World.freeze cN
 rw[if_neg (by omega)]
 congr 1
 apply CQ
 intro i
 rw[C1,Bu]
 obtain⟨h1,h2⟩:=Bm.1 h
 by_cases hi:b=i
 ·subst hi
  simp[h1,h2]
 ·simp[hi]
theorem uA (hL:af P L) (hr:HR w F μ σ){s t:Nat}{d d':DV}{v:Value}{σ':List Ob} (h:ne L σ s t d=some (d',σ')) (hv:Rep w F μ σ d v):nq P w F μ σ (convert s t v) d' σ':=by
 unfold ne at h
 split at h<;>try cases h
 ·rename_i q0 k0 b0 e z0 q1 k1 b1 e1 z1 hs ht
  obtain⟨desc,hu,rfl⟩:=(hL _ _ hs).und
  split at h<;>try cases h
  rename_i hc
  obtain⟨rfl,hoct⟩:=hc
  have hue:=kL hL hoct
  split at h<;>try cases h
  rename_i id g off len
  split at h<;>try cases h
  rename_i t0 k xs ho
  split at h<;>try cases h
  rename_i hg
  obtain⟨rfl,hlen,hk1⟩:=hg
  cases hv with
  | @sl _ _ _ _ A cap hsl=>
  have hsl':=hsl
  obtain⟨t2,k2,xs2,ho2,g1,g2,g3,g4,g5⟩:=hsl'
  rw[ho] at ho2
  cases ho2
  rcases g5 rfl with⟨q1,_⟩|⟨b,cur,fr,q1,q2,q3,q5,q4⟩
  ·omega
  have hA:=q4 (.inl hlen)
  subst hA
  obtain⟨hxk,hor⟩:=hr.obj _ _ ho
  rcases hor with⟨he,_⟩|⟨b',cur',fr',hb',hh',hfr',hcells⟩
  ·subst he;simp at g1;omega
  rw[q1] at hb'
  cases hb'
  rw[q2] at hh'
  cases hh'
  obtain⟨p1,p2,p3⟩:=hr.write (ys:=xs) (cur':=cur) ho q1 q2 (hfr'.mark hk1) rfl (AU _) hxk hcells
  rw[p9 ho] at p1 p2
  refine⟨_,_,μ,?_,p1,p2,p3,(Rep.sl hsl).step p2⟩
  have:(convert s s (.slice (some ⟨b,off*k,none⟩) len cap)).run P w=((do markStringish ⟨b,off*k,none⟩;pure (.slice (some ⟨b,off*k,none⟩) len cap):Sem Value)).run P w:=by
   simp only[convert,Sem.run_bind,run_underlying hu,Result.andThen_ok,run_underlying hue,beq_self_eq_true]
  rw[this]
  simp only[Sem.run_bind,qe q2,Result.andThen_ok,Sem.run_pure]
 ·rename_i ti q1 k1 b1 e z1 hne hs ht
  obtain⟨desc,hus,_⟩:=(hL _ _ hs).und
  obtain⟨desc',hu,rfl⟩:=(hL _ _ ht).und
  split at h<;>try cases h
  rename_i hoct
  have hue:=kL hL hoct
  split at h<;>try cases h
  rename_i x
  split at h<;>try cases h
  rename_i hx
  cases hv
  have hgc:=grownCap_ge w x.size 0 e
  have hgm:=grownCap_le_maxLen w x.size 0 e (by simp only[maxLen];omega)
  generalize hN:grownCap w x.size 0 e=N at hgc hgm
  have hch:(choose (.appendCap x.size 0 e)).run P w=.ok N w.drew:=by rw[←hN];rfl
  obtain⟨cells,hcells⟩:∃cells,cells=(x.data.map fun b=>Value.int .u8 b.toNat)++BI (N-x.size) (.int .u8 0):=⟨_,rfl⟩
  have hcs:cells.size=N:=by
   rw[hcells]
   simp only[C2,Dm,Array.size_replicate]
   show x.size+(N-x.size)=N
   omega
  have hxs:(x.data.toList.map fun b=>DV.int .u8 b.toNat).length=x.size:=by first|(simp;done)|(simp;rfl)
  obtain⟨p1,p2,p3⟩:=hr.drew1.push (t:=e) (k:=1) (xs:=x.data.toList.map fun b=>.int .u8 b.toNat) (cur:=cells) (fr:=(cells.size,cells.size+1)) (.inr ⟨AU _,rfl⟩) (fun y hy=>by
   obtain⟨b,_,rfl⟩:=Ba.1 hy;rfl) (fun j i y d hy hd=>by
   rw[AQ] at hy
   cases hb:x.data.toList[j]? with
   |none=>rw[hb] at hy;cases hy
   |some b=>
    rw[hb] at hy
    cases hy
    rcases i with _|i<;>simp[DV.cells] at hd
    subst hd
    refine⟨.int .u8 b.toNat,?_,.int⟩
    have hj:j<x.data.size:=by have:=(AH.1 hb).1;simpa using this
    rw[hcells,Dk,Bt,BO (by simpa using hj),DK]
    rw[Cf] at hb
    rw[hb]
    rfl)
  refine⟨.slice (some ⟨w.heap.size,0,none⟩) x.size N,_,_,?_,p1,eM.trans p2,mX.trans p3,?_⟩
  ·have hrow:(newRow e cells).run P w.drew=.ok ⟨w.heap.size,0,none⟩ (w.drew.alloc (.cells cells e)):=rfl
   have hget:(w.drew.alloc (.cells cells e)).heap[w.heap.size]?=some (.cells cells e (0,0)):=by rw[aS];exact if_pos rfl
   have hmk:=qe (P:=P) (o:=0) hget
   have heq:cN (w.drew.alloc (.cells cells e)) w.heap.size (.cells cells e (cells.size,cells.size+1))=w.drew.alloc (.cells cells e (cells.size,cells.size+1)):=by
    unfold cN World.alloc
    congr 1
    apply CQ
    intro i
    have hs:w.drew.heap.size=w.heap.size:=rfl
    rw[Bu]
    by_cases hi:w.heap.size=i
    ·rw[if_pos hi,if_pos (by rw[Array.size_push,hs];omega),Da,hs,if_pos hi.symm]
    ·rw[if_neg hi,Da,Da,hs,if_neg (fun e=>hi e.symm),if_neg (fun e=>hi e.symm)]
   have e1:(if((0,0):Nat×Nat).1==((0,0):Nat×Nat).2 then(cells.size,cells.size+1) else(min 0 cells.size,max 0 (cells.size+1)))=(cells.size,cells.size+1):=rfl
   simp only[e1,heq] at hmk
   have hcv:(convert s t (.string x)).run P w=(Conv.stringToBytes e x).run P w:=by
    simp only[convert,Sem.run_bind,run_underlying hus,run_underlying hu,Result.andThen_ok]
    cases desc<;>simp[run_underlying hue]
   rw[hcv]
   simp only[Conv.stringToBytes,Sem.run_bind,hch,Result.andThen_ok,←hcells,hrow,Sem.run_pure]
   refine(congrArg (fun r:Result Unit=>r.andThen fun _ w'=>Result.ok (Value.slice (some ⟨w.heap.size,0,none⟩) x.size N) w') hmk).trans ?_
   rfl
  ·refine .sl ⟨e,1,x.data.toList.map fun b=>.int .u8 b.toNat,by simp,by omega,by rw[hxs];exact AU _,hgc,hgm,fun _=>.inr ⟨w.heap.size,cells,_,if_pos rfl,by rw[aS];exact if_pos rfl,by rw[hcs];omega,rfl,fun _=>by simp⟩⟩
end
end
def mop (L:Lay) (st:St) (op:Op):Option (DV×List Ob):=
 match op with
 |.binOp op t x y _=>match op with
  |.eql=>(eqM L st.ob t (ev st.env x) (ev st.env y)).map fun b=>(.bool b,st.ob)
  |.neq=>(eqM L st.ob t (ev st.env x) (ev st.env y)).map fun b=>(.bool (!b),st.ob)
  |_=>none
 |.index t x i=>(kc L t (ev st.env x) (ev st.env i)).map fun d=>(d,st.ob)
 |.slice t x lo (some hi) (some mx)=>(gN L st.ob t (ev st.env x) (lo.map (ev st.env)) (some (ev st.env hi)) (ev st.env mx)).map fun d=>(d,st.ob)
 |.convert s t x=>match gt L st.ob s t (ev st.env x) with
  |some d=>some (d,st.ob)
  |none=>ne L st.ob s t (ev st.env x)
 |.typeAssert x _ t true=>(taM L (ev st.env x) t).map fun d=>(d,st.ob)
 |.makeMap t none=>some (.mp st.ob.length,st.ob++[.oth (.map [] 0) []])
 |.lookup t m k ok=>(gp L st.ob t (ev st.env m) (ev st.env k) ok).map fun d=>(d,st.ob)
 |.mapUpdate t m k v=>(nt L st.ob t (ev st.env m) (ev st.env k) (ev st.env v)).map fun ob=>(.undef,ob)
 |.insert t m k v=>(nt L st.ob t (ev st.env m) (ev st.env k) (ev st.env v)).map fun ob=>(.undef,ob)
 |.range t x=>mw L st.ob t (ev st.env x)
 |.next it false=>qK st.ob (ev st.env it)
 |.buildSlice t 0 ps=>if ps.size=0 then(match L t with
  |some {d:=.slice e,..}=>match L e with
   |some _=>some (.emp,st.ob)
   |none=>none
  |_=>none) else none
 |.call {callee:=.builtin .append,args,argTypes}=>match argTypes.toList,args.toList.map (ev st.env) with
  | [t,t'],[d1,d2]=>vo L st.ob t t' d1 d2
  |_,_=>none
 |.call {callee:=.builtin .copy,args,argTypes}=>match argTypes.toList,args.toList.map (ev st.env) with
  |t::_,[d1,d2]=>nc L st.ob t d1 d2
  |_,_=>none
 |.call {callee:=.builtin .clear,args,argTypes}=>match argTypes.toList,args.toList.map (ev st.env) with
  |t::_,[d1]=>ju L st.ob t d1
  |_,_=>none
 |_=>none
theorem ar.mem{P:Program}{o:Oper}{st:St}{d:DV}{ob':List Ob}
  (h:∀(a:Act) (w:World) (F:Nat→Nat→Prop) (μ:Nat→Option Nat),HR w F μ st.ob→(∀x,Rep w F μ st.ob (ev st.env x) (a.eval x))→
   ∃s:Sem Value,nq P w F μ st.ob s d ob'∧∀v w',s.run P w=.ok v w'→(execOp a.eval o).run P w=.ok (.value v) w'):ar P o st d ob':=by
 intro a w F μ hr he
 obtain⟨s,⟨v,w',μ',h1,h2,h3,h4,h5⟩,h6⟩:=h a w F μ hr he
 exact⟨_,w',μ',v,h6 v w' h1,.inl rfl,h2,h3,h4,h5⟩
theorem uH{w:World}{F:Nat→Nat→Prop}{μ:Nat→Option Nat}{σ:List Ob}{env:List (Nat×DV)}{a:Act} (he:∀x,Rep w F μ σ (ev env x) (a.eval x)) (o:Option Operand):
  kp w F μ σ (o.map (ev env)) (o.map a.eval):=by
 cases o with
 |none=>exact .inl ⟨rfl,rfl⟩
 |some x=>exact .inr ⟨_,_,rfl,rfl,he x⟩
theorem ar.of_mop{P:Program}{L:Lay} (hL:af P L){o:Oper}{st:St}{d:DV}{ob':List Ob} (h:mop L st o.op=some (d,ob')):ar P o st d ob':=by
 have pure1:∀(q:Option DV),q.map (fun d=>(d,st.ob))=some (d,ob')→q=some d∧ob'=st.ob:=by
  intro q hq
  cases q with
  |none=>cases hq
  |some x=>cases hq;exact⟨rfl,rfl⟩
 unfold mop at h
 split at h
 case h_1 op t x y yt hop=>
  split at h<;>try cases h
  ·cases hq:eqM L st.ob t (ev st.env x) (ev st.env y) with
   |none=>rw[hq] at h;cases h
   |some b=>
    rw[hq] at h;cases h
    refine ar.pure fun a w F μ hr he=>⟨_,?_,.bool⟩
    have:=o5 (P:=P) hL hq (he x) (he y) .eql (.inl rfl) x y
    simp only[execOp,hop]
    rw[Sem.run_bind,this]
    rfl
  ·cases hq:eqM L st.ob t (ev st.env x) (ev st.env y) with
   |none=>rw[hq] at h;cases h
   |some b=>
    rw[hq] at h;cases h
    refine ar.pure fun a w F μ hr he=>⟨_,?_,.bool⟩
    have:=o5 (P:=P) hL hq (he x) (he y) .neq (.inr rfl) x y
    simp only[execOp,hop]
    rw[Sem.run_bind,this]
    rfl
 case h_2 t x i hop=>
  obtain⟨h1,rfl⟩:=pure1 _ h
  refine ar.pure fun a w F μ hr he=>?_
  obtain⟨v,r1,r2⟩:=qj (P:=P) hL h1 (he x) (he i)
  exact⟨v,by simp[execOp,hop,r1],r2⟩
 case h_3 t x lo hi mx hop=>
  obtain⟨h1,rfl⟩:=pure1 _ h
  refine ar.pure fun a w F μ hr he=>?_
  obtain⟨v,r1,r2⟩:=o4 (P:=P) hL h1 (he x) (uH he lo) (.inr ⟨_,_,rfl,rfl,he hi⟩) rfl (he mx)
  exact⟨v,by simp[execOp,hop,r1],r2⟩
 case h_4 s t x hop=>
  split at h
  ·rename_i d' hb
   cases h
   refine ar.pure fun a w F μ hr he=>?_
   obtain⟨v,r1,r2⟩:=sf (P:=P) hL hr hb (he x)
   exact⟨v,by simp[execOp,hop,r1],r2⟩
  ·exact ar.mem fun a w F μ hr he=>⟨_,uA hL hr h (he x),fun v w' h1=>by simp[execOp,hop,h1]⟩
 case h_5 x xt t hop=>
  obtain⟨h1,rfl⟩:=pure1 _ h
  refine ar.pure fun a w F μ hr he=>?_
  obtain⟨v,r1,r2⟩:=x4 (P:=P) hL h1 (he x) xt
  exact⟨v,by simp[execOp,hop,r1],r2⟩
 case h_6 t hop=>
  cases h
  exact ar.mem fun a w F μ hr he=>⟨_,qf hr t,fun v w' h1=>by simp[execOp,hop,h1]⟩
 case h_7 t m k ok hop=>
  obtain⟨h1,rfl⟩:=pure1 _ h
  refine ar.pure fun a w F μ hr he=>?_
  obtain⟨v,r1,r2⟩:=qg (P:=P) hL hr h1 (he m) (he k)
  exact⟨v,by simp[execOp,hop,r1],r2⟩
 case h_8 t m k v hop=>
  intro a w F μ hr he
  cases hq:nt L st.ob t (ev st.env m) (ev st.env k) (ev st.env v) with
  |none=>rw[hq] at h;cases h
  |some ob2=>
   rw[hq] at h;cases h
   obtain⟨w',r1,r2,r3,r4⟩:=qa (P:=P) hL hr hq (he m) (he k) (he v)
   exact⟨.skip,w',μ,undef,by simp[execOp,hop,r1],.inr ⟨rfl,rfl⟩,r2,r3,r4,.undef⟩
 case h_9 t m k v hop=>
  intro a w F μ hr he
  cases hq:nt L st.ob t (ev st.env m) (ev st.env k) (ev st.env v) with
  |none=>rw[hq] at h;cases h
  |some ob2=>
   rw[hq] at h;cases h
   obtain⟨w',r1,r2,r3,r4⟩:=qa (P:=P) hL hr hq (he m) (he k) (he v)
   exact⟨.skip,w',μ,undef,by simp[execOp,hop,r1],.inr ⟨rfl,rfl⟩,r2,r3,r4,.undef⟩
 case h_10 t x hop=>exact ar.mem fun a w F μ hr he=>⟨_,r7 hL hr h (he x),fun v w' h1=>by simp[execOp,hop,h1]⟩
 case h_11 it hop=>exact ar.mem fun a w F μ hr he=>⟨_,r8 hr h (he it) o.type,fun v w' h1=>by simp[execOp,hop,h1]⟩
 case h_12 t ps hop=>
  split at h<;>try cases h
  rename_i hps
  split at h<;>try cases h
  rename_i q0 k0 b0 e z ht
  obtain⟨desc,hu,rfl⟩:=(hL _ _ ht).und
  split at h<;>try cases h
  rename_i te hte
  refine ar.mem fun a w F μ hr he=>⟨Instr.buildSlice t 0 #[],?_,fun v w' h1=>?_⟩
  ·obtain⟨g1,g2,g3⟩:=hr.garbage (.cells #[] e)
   refine⟨.slice (some ⟨w.heap.size,0,none⟩) 0 0,_,μ,?_,g1,g2,g3,.emp⟩
   have h0:¬(0>2^24):=by simp
   simp only[Instr.buildSlice,Sem.run_bind,run_underlying hu,Result.andThen_ok,(hL _ _ hte).size,CT,if_neg h0,if_true,Sem.run_bind,Sem.run_pure,Result.andThen_ok,Instr.fill]
   have hz0:∀f:Nat→Value,(Array.range 0).map f= #[]:=fun f=>by apply BZ;simp
   rw[hz0]
   rfl
  ·have:ps.map (fun(i,x)=>(i,a.eval x))= #[]:=by apply BZ;simpa using hps
   simp[execOp,hop,this,h1]
 case h_13 args ts hop=>
  split at h<;>try cases h
  rename_i t t' d1 d2 hts hds
  refine ar.mem fun a w F μ hr he=>?_
  have hargs:args.map a.eval=⟨args.toList.map a.eval⟩:=by apply BJ;simp
  rcases hxs:args.toList with _|⟨x1,_|⟨x2,_|⟨x3,r⟩⟩⟩<;>rw[hxs] at hds<;>simp at hds
  obtain⟨rfl,rfl⟩:=hds
  have:ts= #[t,t']:=by apply BJ;simpa using hts
  subst this
  refine⟨Builtin.append_ #[t,t'] o.type #[a.eval x1,a.eval x2],wb hL hr h (he x1) (he x2) o.type,fun v w' h1=>?_⟩
  simp only[execOp,hop,resolve,Sem.run_bind,Sem.run_pure,Result.andThen_ok,invoke,hargs,hxs,Bf,BQ,builtin,h1]
 case h_14 args ts hop=>
  split at h<;>try cases h
  rename_i t r d1 d2 hts hds
  refine ar.mem fun a w F μ hr he=>?_
  have hargs:args.map a.eval=⟨args.toList.map a.eval⟩:=by apply BJ;simp
  rcases hxs:args.toList with _|⟨x1,_|⟨x2,_|⟨x3,r⟩⟩⟩<;>rw[hxs] at hds<;>simp at hds
  obtain⟨rfl,rfl⟩:=hds
  have hts0:ts[0]?=some t:=by
   have:ts.toList[0]?=some t:=by rw[hts];rfl
   simpa using this
  obtain⟨v,w',r1,r2,r3,r4,r5⟩:=nS (P:=P) hL hr h (he x1) (he x2) ts hts0 o.type
  refine⟨Builtin.copy_ ts o.type #[a.eval x1,a.eval x2],⟨v,w',μ,r1,r2,r3,r4,r5⟩,fun v w' h1=>?_⟩
  simp only[execOp,hop,resolve,Sem.run_bind,Sem.run_pure,Result.andThen_ok,invoke,hargs,hxs,Bf,BQ,builtin,h1]
 case h_15 args ts hop=>
  split at h<;>try cases h
  rename_i t r d1 hts hds
  refine ar.mem fun a w F μ hr he=>?_
  have hargs:args.map a.eval=⟨args.toList.map a.eval⟩:=by apply BJ;simp
  rcases hxs:args.toList with _|⟨x1,_|⟨x2,r⟩⟩<;>rw[hxs] at hds<;>simp at hds
  subst hds
  have hts0:ts[0]?=some t:=by
   have:ts.toList[0]?=some t:=by rw[hts];rfl
   simpa using this
  obtain⟨v,w',r1,r2,r3,r4,r5⟩:=ml (P:=P) hL hr h (he x1) ts hts0 o.type
  refine⟨Builtin.clear_ ts o.type #[a.eval x1],⟨v,w',μ,r1,r2,r3,r4,r5⟩,fun v w' h1=>?_⟩
  simp only[execOp,hop,resolve,Sem.run_bind,Sem.run_pure,Result.andThen_ok,invoke,hargs,hxs,Bf,BQ,builtin,h1]
 case h_16=>cases h
def bU (L:Lay) (st:St) (op:Op):Option (DV×List Ob):=
 match op with
 |.move x=>some (ev st.env x,st.ob)
 |.assign x=>some (ev st.env x,st.ob)
 |.pick c a b=>match ev st.env c with
  |.bool q=>some (if q=true then ev st.env a else ev st.env b,st.ob)
  |_=>none
 |.binOp op t x y _=>(io L op t (ev st.env x) (ev st.env y)).map fun d=>(d,st.ob)
 |.unOp op _ x=>(un op (ev st.env x)).map fun d=>(d,st.ob)
 |.convert s t x=>(cF L s t (ev st.env x)).map fun d=>(d,st.ob)
 |.extract x i=>match ev st.env x with
  |.tup xs=>(xs[i]?).map fun d=>(d,st.ob)
  |_=>none
 |.field t x f=>(lK L t (ev st.env x) f).map fun d=>(d,st.ob)
 |.fieldAddr t x f=>(dQ L t f (ev st.env x)).map fun d=>(d,st.ob)
 |.indexAddr t x i=>(bg L st.ob t (ev st.env x) (ev st.env i)).map fun d=>(d,st.ob)
 |.load t x=>(e9 L st.ob t (ev st.env x)).map fun d=>(d,st.ob)
 |.store t p x=>(dD L st.ob t (ev st.env p) (ev st.env x)).map fun ob=>(.undef,ob)
 |.alloc t=>match L t with
  |some ti=>if ti.zero.cells.length=ti.k then some (.ptr st.ob.length 1 0 0,st.ob++[.arr t ti.k [ti.zero]]) else none
  |none=>none
 |.box t x=>if(ev st.env x).full=true then some (.ptr st.ob.length 1 0 0,st.ob++[.arr t (ev st.env x).cells.length [ev st.env x]]) else none
 |.build t ps=>(bf L t (ps.toList.map fun p=>(p.1,ev st.env p.2))).map fun d=>(d,st.ob)
 |.buildSlice t n ps=>if n=0 then none else vn L st.ob t n (ps.toList.map fun p=>(p.1,ev st.env p.2))
 |.makeSlice t l c=>pc L st.ob t (ev st.env l) (ev st.env c)
 |.slice t x lo hi none=>(aw L st.ob t (ev st.env x) (lo.map (ev st.env)) (hi.map (ev st.env))).map fun d=>(d,st.ob)
 |.makeFunc (.func f) first caps=>if first.size=0 then some (.fn f (caps.toList.map (ev st.env)),st.ob) else none
 |.makeInterface t x=>match L t with
  |some _=>some (.iface t (ev st.env x),st.ob)
  |none=>none
 |.nilCheck x=>match ev st.env x with
  |.ptr id g j o=>some (.ptr id g j o,st.ob)
  |.vptr c cs=>some (.vptr c cs,st.ob)
  |.fn f caps=>some (.fn f caps,st.ob)
  |.iface t x=>some (.iface t x,st.ob)
  |_=>none
 |.call {callee:=.builtin b,args,argTypes}=>bi L st.ob b argTypes.toList (args.toList.map (ev st.env))
 |_=>none
theorem rI{w:World}{F:Nat→Nat→Prop}{μ:Nat→Option Nat}{σ:List Ob}{env:List (Nat×DV)}{a:Act} (he:∀x,Rep w F μ σ (ev env x) (a.eval x)) (ps:Array (Nat×Operand)):
  All2 (fun(p:Nat×DV) (u:Nat×Value)=>p.1=u.1∧Rep w F μ σ p.2 u.2) (ps.toList.map fun p=>(p.1,ev env p.2)) (ps.map fun(i,x)=>(i,a.eval x)).toList:=by
 rw[DQ]
 exact lu _ fun x _=>⟨rfl,he x.2⟩
theorem jU{w:World}{F:Nat→Nat→Prop}{μ:Nat→Option Nat}{σ:List Ob}{env:List (Nat×DV)}{a:Act} (he:∀x,Rep w F μ σ (ev env x) (a.eval x)) (o:Option Operand):
  kp w F μ σ (o.map (ev env)) (o.map a.eval):=by
 cases o with
 |none=>exact .inl ⟨rfl,rfl⟩
 |some x=>exact .inr ⟨_,_,rfl,rfl,he x⟩
theorem nV{w:World}{F:Nat→Nat→Prop}{μ:Nat→Option Nat}{σ:List Ob}{env:List (Nat×DV)}{a:Act} (he:∀x,Rep w F μ σ (ev env x) (a.eval x)) (xs:List Operand):
  bF w F μ σ (xs.map (ev env)) (xs.map a.eval):=by
 refine⟨by simp,fun i d v hd hv=>?_⟩
 rw[AQ] at hd hv
 cases hx:xs[i]? with
 |none=>simp[hx] at hd
 |some x=>
  simp only[hx,AW,AX.injEq] at hd hv
  subst hd;subst hv
  exact he x
theorem ar.of_sop0{P:Program}{L:Lay} (hL:af P L){o:Oper}{st:St}{d:DV}{ob':List Ob} (h:bU L st o.op=some (d,ob')):ar P o st d ob':=by
 have pure1:∀(q:Option DV),q.map (fun d=>(d,st.ob))=some (d,ob')→q=some d∧ob'=st.ob:=by
  intro q hq
  cases q with
  |none=>cases hq
  |some x=>cases hq;exact⟨rfl,rfl⟩
 cases hop:o.op<;>rw[hop] at h<;>try(cases h;done)
 case move x=>
  cases h
  exact ar.pure fun a w F μ hr he=>⟨_,by simp[execOp,hop],he x⟩
 case assign x=>
  cases h
  exact ar.pure fun a w F μ hr he=>⟨_,by simp[execOp,hop],he x⟩
 case pick c x y=>
  simp only[bU] at h
  split at h<;>try cases h
  rename_i q hc
  refine ar.pure fun a w F μ hr he=>?_
  have h1:=he c
  rw[hc] at h1
  have h2:a.eval c=.bool q:=by generalize a.eval c=v at h1;cases h1;rfl
  cases q
  ·exact⟨_,by simp[execOp,hop,h2,asBool],he y⟩
  ·exact⟨_,by simp[execOp,hop,h2,asBool],he x⟩
 case binOp op t x y yt=>
  obtain⟨h1,rfl⟩:=pure1 _ h
  refine ar.pure fun a w F μ hr he=>?_
  obtain⟨v,hv1,hv2⟩:=uB hL h1 (he x) (he y) x y
  refine⟨v,?_,hv2⟩
  simp only[execOp,hop]
  rw[Sem.run_bind,hv1]
  rfl
 case unOp op t x=>
  obtain⟨h1,rfl⟩:=pure1 _ h
  refine ar.pure fun a w F μ hr he=>?_
  have hx:=he x
  cases hd:ev st.env x<;>rw[hd] at h1 hx<;>try(cases h1;done)
  ·rename_i k n
   have h2:a.eval x=.int k n:=by generalize a.eval x=v at hx;cases hx;rfl
   obtain⟨r1,r2⟩:=vZ (P:=P) (v:=a.eval x) h1 (by rw[h2];rfl) rfl w
   exact⟨_,by simp[execOp,hop,r1],eA r2⟩
  ·rename_i b
   have h2:a.eval x=.bool b:=by generalize a.eval x=v at hx;cases hx;rfl
   obtain⟨r1,r2⟩:=vZ (P:=P) (v:=a.eval x) h1 (by rw[h2];rfl) rfl w
   exact⟨_,by simp[execOp,hop,r1],eA r2⟩
 case convert s t x=>
  obtain⟨h1,rfl⟩:=pure1 _ h
  refine ar.pure fun a w F μ hr he=>?_
  obtain⟨v,r1,r2⟩:=sd hL h1 (he x)
  exact⟨v,by simp[execOp,hop,r1],r2⟩
 case extract x i=>
  simp only[bU] at h
  split at h<;>try cases h
  rename_i xs hx
  obtain⟨h1,rfl⟩:=pure1 _ h
  refine ar.pure fun a w F μ hr he=>?_
  have h2:=he x
  rw[hx] at h2
  generalize hv:a.eval x=v at h2
  cases h2 with
  | @tup _ vs hl hh=>
   have hi:=(AH.1 h1).1
   refine⟨vs[i]'(by omega),?_,hh i d _ h1 (AI (by omega))⟩
   have:(⟨vs⟩:Array Value)[i]?=some (vs[i]'(by omega)):=by simp
   simp only[execOp,hop,hv,Instr.extract,this,Sem.run_bind,Sem.run_pure,Result.andThen_ok]
 case field t x f=>
  obtain⟨h1,rfl⟩:=pure1 _ h
  refine ar.pure fun a w F μ hr he=>?_
  obtain⟨v,r1,r2⟩:=qk hL h1 (he x)
  exact⟨v,by simp[execOp,hop,r1],r2⟩
 case fieldAddr t x f=>
  obtain⟨h1,rfl⟩:=pure1 _ h
  refine ar.pure fun a w F μ hr he=>?_
  obtain⟨v,r1,r2⟩:=nB hL h1 (he x)
  exact⟨v,by simp[execOp,hop,r1],r2⟩
 case indexAddr t x i=>
  obtain⟨h1,rfl⟩:=pure1 _ h
  refine ar.pure fun a w F μ hr he=>?_
  obtain⟨v,r1,r2⟩:=nA hL h1 (he x) (he i)
  exact⟨v,by simp[execOp,hop,r1],r2⟩
 case load t x=>
  obtain⟨h1,rfl⟩:=pure1 _ h
  refine ar.pure fun a w F μ hr he=>?_
  obtain⟨v,r1,r2⟩:=qi hL hr h1 (he x)
  exact⟨v,by simp[execOp,hop,r1],r2⟩
 case store t p x=>
  intro a w F μ hr he
  simp only[bU] at h
  cases hs:dD L st.ob t (ev st.env p) (ev st.env x) with
  |none=>rw[hs] at h;cases h
  |some ob2=>
   rw[hs] at h;cases h
   obtain⟨w',r1,r2,r3,r4⟩:=qb hL hr hs (he p) (he x)
   exact⟨.skip,w',μ,undef,by simp[execOp,hop,r1],.inr ⟨rfl,rfl⟩,r2,r3,r4,.undef⟩
 case alloc t=>
  simp only[bU] at h
  split at h<;>try cases h
  rename_i ti ht
  split at h<;>try cases h
  rename_i hk
  exact ar.alloc hL hop ht hk
 case box t x=>
  simp only[bU] at h
  split at h<;>try cases h
  rename_i hf
  exact ar.box hop hf
 case build t ps=>
  obtain⟨h1,rfl⟩:=pure1 _ h
  refine ar.pure fun a w F μ hr he=>?_
  obtain⟨v,r1,r2⟩:=ql hL h1 (rI he ps)
  exact⟨v,by simp[execOp,hop,r1],r2⟩
 case buildSlice t n ps=>
  simp only[bU] at h
  split at h<;>try cases h
  intro a w F μ hr he
  obtain⟨v,w',μ',r1,r2,r3,r4,r5⟩:=ms (P:=P) hL hr h (rI he ps)
  exact⟨.value v,w',μ',v,by simp[execOp,hop,r1],.inl rfl,r2,r3,r4,r5⟩
 case makeSlice t l c=>
  intro a w F μ hr he
  obtain⟨v,w',μ',r1,r2,r3,r4,r5⟩:=nz (P:=P) hL hr h (he l) (he c)
  exact⟨.value v,w',μ',v,by simp[execOp,hop,r1],.inl rfl,r2,r3,r4,r5⟩
 case slice t x lo hi mx=>
  cases mx with
  |some m=>cases h
  |none=>
   obtain⟨h1,rfl⟩:=pure1 _ h
   refine ar.pure fun a w F μ hr he=>?_
   obtain⟨v,r1,r2⟩:=qc (P:=P) hL h1 (he x) (jU he lo) (jU he hi)
   exact⟨v,by simp[execOp,hop,r1],r2⟩
 case makeFunc fn first caps=>
  cases fn<;>try(cases h;done)
  rename_i f
  simp only[bU] at h
  split at h<;>try cases h
  rename_i hf
  refine ar.pure fun a w F μ hr he=>?_
  obtain⟨hl,hh⟩:=nV he caps.toList
  have hf0:first.map a.eval= #[]:=by
   apply BZ;simpa using hf
  have hc:caps.map a.eval=⟨caps.toList.map a.eval⟩:=by apply BJ;simp
  refine⟨.func (.func f) #[] ⟨caps.toList.map a.eval⟩,?_,.fn hl hh⟩
  simp only[execOp,hop,Instr.makeFunc,hf0,hc,Sem.run_bind,Sem.run_pure,Result.andThen_ok]
 case makeInterface t x=>
  simp only[bU] at h
  split at h<;>try cases h
  rename_i ti ht
  refine ar.pure fun a w F μ hr he=>⟨.iface t (a.eval x),?_,.iface (he x)⟩
  obtain⟨desc,hu,hd⟩:=(hL _ _ ht).und
  have:(Instr.makeInterface t (a.eval x)).run P w=.ok (.iface t (a.eval x)) w:=by
   simp only[Instr.makeInterface,Sem.run_bind,run_underlying hu,Result.andThen_ok]
   cases hq:ti.d<;>rw[hq] at hd<;>simp only[kV] at hd<;>try(subst hd;rfl)
   ·obtain⟨f,rfl,_⟩:=hd;rfl
   ·cases desc<;>first|rfl|(simp at hd)
  simp[execOp,hop,this]
 case nilCheck x=>
  simp only[bU] at h
  split at h<;>try cases h
  all_goals
   rename_i hx
   refine ar.pure fun a w F μ hr he=>?_
   have h1:=he x
   rw[hx] at h1
   generalize hv:a.eval x=v at h1
   refine⟨v,?_,h1⟩
   cases h1
   simp[execOp,hop,hv]
 case call c=>
  obtain⟨callee,args,ts⟩:=c
  cases callee<;>try(cases h;done)
  rename_i b
  simp only[bU] at h
  intro a w F μ hr he
  have hreps:=nV he args.toList
  have hargs:args.map a.eval=⟨args.toList.map a.eval⟩:=by apply BJ;simp
  have fin:∀(v:Value) (w':World),(∀consts,(builtin b ts o.type consts ⟨args.toList.map a.eval⟩).run P w=.ok (.value v) w')→(execOp a.eval o).run P w=.ok (.value v) w':=by
   intro v w' hb
   simp only[execOp,hop,resolve,Sem.run_bind,Sem.run_pure,Result.andThen_ok,invoke,hargs]
   exact hb _
  cases b<;>try(cases h;done)
  case append=>
   simp only[bi] at h
   split at h<;>try cases h
   rename_i t t' d1 d2 hts hds
   obtain⟨hl,hr2⟩:=hreps
   rw[hds] at hl hr2
   rcases hvs:args.toList.map a.eval with _|⟨v1,_|⟨v2,_|⟨v3,r⟩⟩⟩<;>rw[hvs] at hl hr2<;>simp at hl
   obtain⟨v,w',μ',r1,r2,r3,r4,r5⟩:=uC (P:=P) hL hr h (hr2 0 d1 v1 rfl rfl) (hr2 1 d2 v2 rfl rfl) o.type
   refine⟨.value v,w',μ',v,fin v w' (fun consts=>?_),.inl rfl,r2,r3,r4,r5⟩
   have:ts= #[t,t']:=by apply BJ;simpa using hts
   subst this
   rw[hvs]
   simp only[builtin,Sem.run_bind,r1,Result.andThen_ok,Sem.run_pure]
  case len=>
   simp only[bi] at h
   split at h<;>try cases h
   rename_i t d1 hts hds
   obtain⟨h1,rfl⟩:=pure1 _ h
   obtain⟨hl,hr2⟩:=hreps
   rw[hds] at hl hr2
   rcases hvs:args.toList.map a.eval with _|⟨v1,_|⟨v2,r⟩⟩<;>rw[hvs] at hl hr2<;>simp at hl
   have:ts= #[t]:=by apply BJ;simpa using hts
   subst this
   obtain⟨v,r1,r2⟩:=uz (P:=P) hL h1 (hr2 0 d1 v1 rfl rfl) #[t] o.type rfl
   refine⟨.value v,w,μ,v,fin v w (fun consts=>?_),.inl rfl,hr,Step.refl ..,Fr.refl ..,r2⟩
   rw[hvs]
   simp only[builtin,Sem.run_bind,r1,Result.andThen_ok,Sem.run_pure]
  case min=>
   obtain⟨h1,rfl⟩:=pure1 _ h
   obtain⟨v,r1,r2⟩:=ux (P:=P) h1 hreps ts o.type
   refine⟨.value v,w,μ,v,fin v w (fun consts=>?_),.inl rfl,hr,Step.refl ..,Fr.refl ..,r2⟩
   simp only[builtin,Sem.run_bind,r1,Result.andThen_ok,Sem.run_pure]
  case max=>
   obtain⟨h1,rfl⟩:=pure1 _ h
   obtain⟨v,r1,r2⟩:=uy (P:=P) h1 hreps ts o.type
   refine⟨.value v,w,μ,v,fin v w (fun consts=>?_),.inl rfl,hr,Step.refl ..,Fr.refl ..,r2⟩
   simp only[builtin,Sem.run_bind,r1,Result.andThen_ok,Sem.run_pure]
def sop (L:Lay) (st:St) (op:Op):Option (DV×List Ob):=
 match bU L st op with
 |some r=>some r
 |none=>mop L st op
theorem ar.of_sop{P:Program}{L:Lay} (hL:af P L){o:Oper}{st:St}{d:DV}{ob':List Ob} (h:sop L st o.op=some (d,ob')):ar P o st d ob':=by
 unfold sop at h
 split at h
 ·rename_i r hr
  cases h
  exact ar.of_sop0 hL hr
 ·exact ar.of_mop hL h
mutual
/-- A value,once object id is none any more:what was a slice of it becomes r;other ways to it are forgotten. -/
def fz (id N:Nat) (r:Nat→Nat→DV):DV→DV
 |.vec c k xs=>.vec c k (fzL id N r xs)
 |.agg cs=>.agg (fzL id N r cs)
 |.tup xs=>.tup (fzL id N r xs)
 |.fn f caps=>.fn f (fzL id N r caps)
 |.iface t x=>.iface t (fz id N r x)
 |.vptr c cs=>.vptr c (fzL id N r cs)
 |.ptr i g j o=>if i=id then .undef else .ptr i g j o
 |.sl i g off len=>if i=id then(if g=N then r off len else .undef) else .sl i g off len
 |.slx i g off len cap=>if i=id then(if g=N then r off len else .undef) else .slx i g off len cap
 |.mp i=>if i=id then .undef else .mp i
 |.it i=>if i=id then .undef else .it i
 |.yld i=>if i=id then .undef else .yld i
 |.emp=>.emp
 |.int k n=>.int k n
 |.bool b=>.bool b
 |.str s=>.str s
 |.nils=>.nils
 |.nilp=>.nilp
 |.nilf=>.nilf
 |.nili=>.nili
 |.undef=>.undef
 |.skip=>.skip
def fzL (id N:Nat) (r:Nat→Nat→DV):List DV→List DV
 | []=> []
 |x::xs=>fz id N r x::fzL id N r xs
end
theorem ei (id N:Nat) (r:Nat→Nat→DV) (xs:List DV):fzL id N r xs=xs.map (fz id N r):=by
 induction xs with
 |nil=>simp[fzL]
 |cons x xs ih=>simp[fzL,ih]
theorem ij{id N:Nat}{r:Nat→Nat→DV} (hr:∀off len,(r off len).cells=[r off len]) (d:DV):(fz id N r d).cells=d.cells.map (fz id N r):=by
 cases d with
 |ptr i g j o=>by_cases h:i=id<;>simp[fz,DV.cells,h]
 |mp i=>by_cases h:i=id<;>simp[fz,DV.cells,h]
 |it i=>by_cases h:i=id<;>simp[fz,DV.cells,h]
 |yld i=>by_cases h:i=id<;>simp[fz,DV.cells,h]
 |sl i g off len=>
  by_cases h:i=id
  ·by_cases hg:g=N
   ·simp only[fz,DV.cells,h,hg,if_true,Bf,BQ];exact hr off len
   ·simp[fz,DV.cells,h,hg]
  ·simp[fz,DV.cells,h]
 |slx i g off len cap=>
  by_cases h:i=id
  ·by_cases hg:g=N
   ·simp only[fz,DV.cells,h,hg,if_true,Bf,BQ];exact hr off len
   ·simp[fz,DV.cells,h,hg]
  ·simp[fz,DV.cells,h]
 |_=>simp only[fz,DV.cells,Bf,BQ,ei]
def dW (id N:Nat) (r:Nat→Nat→DV):Ob→Ob
 |.arr t k xs=>.arr t k (xs.map (fz id N r))
 |.oth t ds=>.oth t (ds.map (fz id N r))
 |.dead=>.dead
def Ob.like:Ob→Ob→Prop
 |.arr t k xs,o=>∃ys,o=.arr t k ys∧ys.length=xs.length
 |.oth t _,o=>∃ds,o=.oth t ds
 |.dead,o=>o=.dead
theorem Ob.like_fz (id N:Nat) (r:Nat→Nat→DV) (o:Ob):o.like (dW id N r o):=by
 cases o with
 |arr t k xs=>exact⟨_,rfl,by simp⟩
 |oth t ds=>exact⟨_,rfl⟩
 |dead=>rfl
theorem Rep.fz{w:World}{F F':Nat→Nat→Prop}{μ μ':Nat→Option Nat}{σ σ':List Ob}{id N:Nat}{r:Nat→Nat→DV} (hr:∀off len,(r off len).cells=[r off len]) (hF:∀c b,F c b→F' c b) (hμ:∀i,i≠id→μ' i=μ i)
  (hσ:∀(i:Nat) (o:Ob),i≠id→σ[i]?=some o→∃o',σ'[i]?=some o'∧o.like o')
  (hB:∀off len A cap,dX w μ σ id N off len A cap→Rep w F' μ' σ' (r off len) (.slice A len cap)){d:DV}{v:Value} (h:Rep w F μ σ d v):Rep w F' μ' σ' (VL.fz id N r d) v:=by
 have lists:∀{cs:List DV}{vs:List Value},cs.length=vs.length→(∀(i:Nat) (d:DV) (v:Value),cs[i]?=some d→vs[i]?=some v→Rep w F' μ' σ' (VL.fz id N r d) v)→
   (fzL id N r cs).length=vs.length∧∀(i:Nat) (d:DV) (v:Value),(fzL id N r cs)[i]?=some d→vs[i]?=some v→Rep w F' μ' σ' d v:=by
  intro cs vs hl hh
  rw[ei]
  refine⟨by simpa using hl,fun i d v hd hv=>?_⟩
  rw[AQ] at hd
  cases hc:cs[i]? with
  |none=>simp[hc] at hd
  |some e=>simp[hc] at hd;subst hd;exact hh i e v hc hv
 induction h with
 |int=>exact .int
 |bool=>exact .bool
 |str=>exact .str
 | @vec c k xs A cap u hc hm ha hk hrr ih=>
  simp only[VL.fz,ei]
  have:=Rep.vec (w:=w) (F:=F') (μ:=μ') (σ:=σ') (c:=c) (k:=k) (xs:=xs.map (VL.fz id N r)) (A:=A) (cap:=cap) u (by simpa using hc) hm (fun h0=>by
   obtain⟨a,h1,h2,h3⟩:=ha (by simpa using h0)
   exact⟨a,h1,hF _ _ h2,fun j i hj hi=>h3 j i (by simpa using hj) hi⟩) (fun x hx=>by
   obtain⟨y,hy,rfl⟩:=Ba.1 hx
   rw[ij hr];simpa using hk y hy) (fun j i x d hx hd=>by
   rw[AQ] at hx
   cases hc:xs[j]? with
   |none=>simp[hc] at hx
   |some y=>
    simp[hc] at hx
    subst hx
    rw[ij hr,AQ] at hd
    cases he:y.cells[i]? with
    |none=>simp[he] at hd
    |some e=>simp[he] at hd;subst hd;exact ih j i y e hc he)
  simpa using this
 |agg hl h ih=>simp only[VL.fz];exact .agg (lists hl ih).1 (lists hl ih).2
 |tup hl h ih=>simp only[VL.fz];exact .tup (lists hl ih).1 (lists hl ih).2
 |fn hl h ih=>simp only[VL.fz];exact .fn (lists hl ih).1 (lists hl ih).2
 | @ptr i g j o a hp=>
  simp only[VL.fz]
  by_cases hi:i=id
  ·rw[if_pos hi];exact .undef
  ·rw[if_neg hi]
   obtain⟨t,k,xs,h1,h2,h3⟩:=hp
   obtain⟨o',h4,ys,rfl,h5⟩:=hσ i _ hi h1
   exact .ptr ⟨t,k,ys,h4,by omega,fun e=>by rw[hμ i hi];exact h3 (by omega)⟩
 | @vptr c cs a u hF' hu hrr ih=>
  simp only[VL.fz,ei]
  refine .vptr u (hF _ _ hF') (fun i hi=>hu i (by simpa using hi)) (fun i d hd=>?_)
  rw[AQ] at hd
  cases hc:cs[i]? with
  |none=>simp[hc] at hd
  |some e=>simp[hc] at hd;subst hd;exact ih i e hc
 | @sl i g off len A cap hs=>
  simp only[VL.fz]
  by_cases hi:i=id
  ·rw[if_pos hi]
   subst hi
   by_cases hg:g=N
   ·rw[if_pos hg];subst hg;exact hB _ _ _ _ hs
   ·rw[if_neg hg];exact .undef
  ·rw[if_neg hi]
   obtain⟨t,k,xs,h1,h2,h3,h4,h5,h6⟩:=hs
   obtain⟨o',h7,ys,rfl,h8⟩:=hσ i _ hi h1
   exact .sl ⟨t,k,ys,h7,h2,by omega,h4,h5,fun e=>by rw[hμ i hi];exact h6 (by omega)⟩
 | @slx i g off len A cap hs=>
  simp only[VL.fz]
  by_cases hi:i=id
  ·rw[if_pos hi]
   subst hi
   by_cases hg:g=N
   ·rw[if_pos hg];subst hg;exact hB _ _ _ _ hs
   ·rw[if_neg hg];exact .undef
  ·rw[if_neg hi]
   obtain⟨t,k,xs,h1,h2,h3,h4,h5,h6⟩:=hs
   obtain⟨o',h7,ys,rfl,h8⟩:=hσ i _ hi h1
   exact .slx ⟨t,k,ys,h7,h2,by omega,h4,h5,fun e=>by rw[hμ i hi];exact h6 (by omega)⟩
 |nils=>exact .nils
 |nilp=>exact .nilp
 |nilf=>exact .nilf
 |iface h ih=>simp only[VL.fz];exact .iface ih
 |nili=>exact .nili
 | @mp i q h ho=>
  simp only[VL.fz]
  by_cases hi:i=id
  ·rw[if_pos hi];exact .undef
  ·rw[if_neg hi]
   obtain⟨t,ds,ho,hk⟩:=ho
   obtain⟨o',h1,ds',rfl⟩:=hσ i _ hi ho
   exact .mp (by rw[hμ i hi];exact h) ⟨t,ds',h1,hk⟩
 | @it i q h ho=>
  simp only[VL.fz]
  by_cases hi:i=id
  ·rw[if_pos hi];exact .undef
  ·rw[if_neg hi]
   obtain⟨t,ds,ho,hk⟩:=ho
   obtain⟨o',h1,ds',rfl⟩:=hσ i _ hi ho
   exact .it (by rw[hμ i hi];exact h) ⟨t,ds',h1,hk⟩
 | @yld i q h ho=>
  simp only[VL.fz]
  by_cases hi:i=id
  ·rw[if_pos hi];exact .undef
  ·rw[if_neg hi]
   obtain⟨t,ds,ho,hk⟩:=ho
   obtain⟨o',h1,ds',rfl⟩:=hσ i _ hi ho
   exact .yld (by rw[hμ i hi];exact h) ⟨t,ds',h1,hk⟩
 |emp=>exact .emp
 |undef=>exact .undef
 |skip=>exact .skip
def bj (id:Nat) (d:DV):Prop:=∀N r,fz id N r d=d
def cQ (μ:Nat→Option Nat) (id:Nat):Nat→Option Nat:=fun i=>if i=id then none else μ i
def rb (F:Nat→Nat→Prop) (c:Nat) (q:Option Nat):Nat→Nat→Prop:=fun c' b=>F c' b∨(c'=c∧q=some b)
def ff (c k:Nat) (xs:List DV) (off len:Nat):DV:=.vec c k ((xs.drop off).take len)
theorem HR.kill{w:World}{F:Nat→Nat→Prop}{μ:Nat→Option Nat}{σ:List Ob} (hr:HR w F μ σ){id t k:Nat}{xs:List DV} (c:Nat) (ho:σ[id]?=some (.arr t k xs)) (hx:∀x∈xs,bj id x):
  let r:=ff c k xs
  let F':=rb F c (μ id)
  let μ':=cQ μ id
  let σ':=(σ.map (dW id xs.length r)).set id .dead
  HR w F' μ' σ'∧(∀d v,Rep w F μ σ d v→Rep w F' μ' σ' (fz id xs.length r d) v)∧
   ∀(i:Nat) (o:Ob),i≠id→σ[i]?=some o→σ'[i]?=some (dW id xs.length r o):=by
 intro r F' μ' σ'
 have hidl:=(AH.1 ho).1
 have hF:∀c b,F c b→F' c b:=fun _ _ h=>.inl h
 have hμ:∀i,i≠id→μ' i=μ i:=fun i hi=>if_neg hi
 have hget:∀(i:Nat) (o:Ob),i≠id→σ[i]?=some o→σ'[i]?=some (dW id xs.length r o):=by
  intro i o hi h
  rw[aU (by simpa using hidl),if_neg (fun e=>hi e.symm),AQ,h]
  rfl
 have hσ:∀(i:Nat) (o:Ob),i≠id→σ[i]?=some o→∃o',σ'[i]?=some o'∧o.like o':=fun i o hi h=>⟨_,hget i o hi h,Ob.like_fz _ _ _ _⟩
 have hdead:σ'[id]?=some .dead:=by rw[aU (by simpa using hidl),if_pos rfl]
 have hno:∀d v,bj id d→Rep w F μ σ d v→Rep w F' μ' σ' d v:=by
  intro d v hn h
  have:=Rep.fz (F':=F') (μ':=μ') (σ':=σ') (id:=id) (N:=xs.length) (r:=fun _ _=>.undef) (fun _ _=>rfl) hF hμ hσ (fun _ _ _ _ _=>.undef) h
  rwa [hn] at this
 obtain⟨hxk,hor⟩:=hr.obj _ _ ho
 have hnc:∀x∈xs,∀(i:Nat) (e:DV),x.cells[i]?=some e→bj id e:=by
  intro x hx' i e he N r'
  have h1:=hx x hx' N r'
  cases x
  case agg cs=>
   simp only[fz,ei,DV.agg.injEq] at h1
   simp only[DV.cells] at he
   have h2:(cs.map (fz id N r'))[i]?=cs[i]?:=by rw[h1]
   rw[AQ,he] at h2
   simpa using h2
  all_goals
   simp only[DV.cells] at he
   cases i with
   |zero=>simp at he;subst he;exact h1
   |succ i=>simp at he
 have hB:∀off len A cap,dX w μ σ id xs.length off len A cap→Rep w F' μ' σ' (r off len) (.slice A len cap):=by
  intro off len A cap hs
  obtain⟨t2,k2,xs2,ho2,h1,h2,h3,h4,h5⟩:=hs
  rw[ho] at ho2
  cases ho2
  have hlen:((xs.drop off).take len).length=len:=by simp;omega
  have hgetx:∀j x,((xs.drop off).take len)[j]?=some x→j<len∧xs[off+j]?=some x:=by
   intro j x hj
   have hjl:=(AH.1 hj).1
   rw[hlen] at hjl
   rw[BM hjl,Bk] at hj
   exact⟨hjl,hj⟩
  have mk:=fun(u:Nat→Nat→Value) (ha:0<((xs.drop off).take len).length→∃a,A=some a∧F' c a.block∧∀j i,j<((xs.drop off).take len).length→i<k→w.cell? (a.add (j*k+i))=some (u j i)) (hrr:∀(j i:Nat) (x d:DV),((xs.drop off).take len)[j]?=some x→x.cells[i]?=some d→Rep w F' μ' σ' d (u j i))=>
   Rep.vec (w:=w) (F:=F') (μ:=μ') (σ:=σ') (c:=c) (k:=k) (xs:=(xs.drop off).take len) (A:=A) (cap:=cap) u (by rw[hlen];exact h3) h4 ha (fun x hx'=>hxk x (By (Bz hx'))) hrr
  rw[hlen] at mk
  show Rep w F' μ' σ' (.vec c k ((xs.drop off).take len)) _
  rcases B4 len with h0|h0
  ·exact mk (fun _ _=>undef) (fun h=>by omega) (fun j i x d hx' _=>by have:=(hgetx j x hx').1;omega)
  ·rcases h5 rfl with⟨q1,_⟩|⟨b,cur,fr,q1,q2,q3,_,q4⟩
   ·omega
   ·have hA:=q4 (.inl h0)
    subst hA
    rcases hor with⟨e1,_⟩|⟨b',cur',fr',hb',hh',hfr',hcells⟩
    ·subst e1;simp at h1 h2;omega
    ·rw[q1] at hb'
     cases hb'
     rw[q2] at hh'
     cases hh'
     refine mk (fun j i=>(cur[(off+j)*k+i]?).getD undef) (fun _=>⟨_,rfl,.inr ⟨rfl,q1⟩,fun j i hj hi=>?_⟩) (fun j i x e hx' he=>?_)
     ·have hxx:xs[off+j]?=some (xs[off+j]'(by omega)):=AI (by omega)
      have hxl:=hxk _ (BS (show off+j<xs.length by omega))
      obtain⟨vv,hvv,_⟩:=hcells (off+j) i _ _ hxx (AI (show i<xs[off+j].cells.length by omega))
      rw[cj,show off*k+(j*k+i)=(off+j)*k+i by rw[Bx];omega]
      simp only[World.cell?,q2]
      simp[hvv]
     ·obtain⟨hj,hx''⟩:=hgetx j x hx'
      obtain⟨vv,hvv,hrep⟩:=hcells (off+j) i x e hx'' he
      show Rep w F' μ' σ' e ((cur[(off+j)*k+i]?).getD undef)
      rw[hvv]
      exact hno e _ (hnc x (AM hx'') i e he) hrep
 have hrc:∀off len,(r off len).cells=[r off len]:=fun _ _=>rfl
 have all:∀d v,Rep w F μ σ d v→Rep w F' μ' σ' (fz id xs.length r d) v:=fun d v h=>Rep.fz hrc hF hμ hσ hB h
 refine⟨⟨fun i o h=>?_,fun i hi=>?_,fun i j b h1 h2=>?_,fun i b h=>?_,fun c' b h=>?_⟩,all,hget⟩
 ·by_cases hi:i=id
  ·subst hi
   rw[hdead] at h;cases h
   exact if_pos rfl
  ·have hilt:i<σ.length:=by have:=(AH.1 h).1;simpa[σ'] using this
   have hs:=hget i _ hi (AI hilt)
   rw[h] at hs
   cases hs
   have hob:=hr.obj i _ (AI hilt)
   generalize σ[i]=o at hob
   cases o with
   |arr t' k' zs=>
    obtain⟨z1,z2⟩:=hob
    refine⟨fun y hy=>?_,?_⟩
    ·obtain⟨q,hq,rfl⟩:=Ba.1 hy
     rw[ij hrc];simpa using z1 q hq
    ·rcases z2 with⟨e1,e2⟩|⟨b',cu,fr',hb',hh',hfr',hcc⟩
     ·exact .inl ⟨by rw[e1];rfl,by rw[hμ i hi];exact e2⟩
     ·refine .inr ⟨b',cu,fr',by rw[hμ i hi];exact hb',hh',hfr',fun j q y e hy he=>?_⟩
      rw[AQ] at hy
      cases hz:zs[j]? with
      |none=>simp[hz] at hy
      |some y0=>
       simp[hz] at hy
       subst hy
       rw[ij hrc,AQ] at he
       cases he0:y0.cells[q]? with
       |none=>simp[he0] at he
       |some e0=>
        simp[he0] at he
        subst he
        obtain⟨vv,g1,g2⟩:=hcc j q y0 e0 hz he0
        exact⟨vv,g1,all _ _ g2⟩
   |oth t' ds=>
    obtain⟨g0,vs,g1,g2,g3⟩:=hob
    have hne:∀i∈t'.refs,i≠id:=fun q hq e=>by
     obtain⟨_,_,e'⟩:=g0 q hq
     rw[e,ho] at e'
     cases e'
    refine⟨fun q hq=>?_,vs,g1.keep (fun b _=>rfl) (hμ i hi) (fun q hq=>hμ q (hne q hq)),by simpa using g2,fun j e v he hv=>?_⟩
    ·obtain⟨t2,es,e'⟩:=g0 q hq
     exact⟨t2,_,hget q _ (hne q hq) e'⟩
    ·rw[AQ] at he
     cases he0:ds[j]? with
     |none=>simp[he0] at he
     |some e0=>
      simp[he0] at he
      subst he
      exact all _ _ (g3 j e0 v he0 hv)
   |dead=>exact(hμ i hi).trans hob
 ·by_cases h:i=id
  ·subst h;exact if_pos rfl
  ·rw[hμ i h]
   exact hr.out i (by simpa[σ'] using hi)
 ·have a1:i≠id:=by rintro rfl;simp[μ',cQ] at h1
  have a2:j≠id:=by rintro rfl;simp[μ',cQ] at h2
  rw[hμ i a1] at h1
  rw[hμ j a2] at h2
  exact hr.inj _ _ _ h1 h2
 ·have a1:i≠id:=by rintro rfl;simp[μ',cQ] at h
  rw[hμ i a1] at h
  exact hr.lt _ _ h
 ·rcases h with h|⟨_,h⟩
  ·refine⟨(hr.col _ _ h).1,fun i e=>?_⟩
   have a1:i≠id:=by rintro rfl;simp[μ',cQ] at e
   rw[hμ i a1] at e
   exact(hr.col _ _ h).2 i e
  ·refine⟨hr.lt _ _ h,fun i e=>?_⟩
   have a1:i≠id:=by rintro rfl;simp[μ',cQ] at e
   rw[hμ i a1] at e
   exact a1 (hr.inj _ _ _ e h)
theorem HR.popDead{w:World}{F:Nat→Nat→Prop}{μ:Nat→Option Nat}{σ:List Ob} (hr:HR w F μ (σ++[.dead])):HR w F μ σ∧∀d v,Rep w F μ (σ++[.dead]) d v→Rep w F μ σ d v:=by
 have hd:∀i,(σ++[Ob.dead])[i]?=if i=σ.length then some .dead else σ[i]?:=aD σ .dead
 have hrep:∀d v,Rep w F μ (σ++[.dead]) d v→Rep w F μ σ d v:=by
  intro d v h
  induction h with
  |int=>exact .int
  |bool=>exact .bool
  |str=>exact .str
  |vec u hc hm ha hk hrr ih=>exact .vec u hc hm ha hk ih
  |agg hl h ih=>exact .agg hl ih
  |tup hl h ih=>exact .tup hl ih
  |fn hl h ih=>exact .fn hl ih
  |ptr hp=>
   obtain⟨t,k,xs,h1,h2⟩:=hp
   rw[hd] at h1
   split at h1
   ·cases h1
   ·exact .ptr ⟨t,k,xs,h1,h2⟩
  |vptr u hF hu hrr ih=>exact .vptr u hF hu ih
  |sl hs=>
   obtain⟨t,k,xs,h1,h2⟩:=hs
   rw[hd] at h1
   split at h1
   ·cases h1
   ·exact .sl ⟨t,k,xs,h1,h2⟩
  |slx hs=>
   obtain⟨t,k,xs,h1,h2⟩:=hs
   rw[hd] at h1
   split at h1
   ·cases h1
   ·exact .slx ⟨t,k,xs,h1,h2⟩
  |nils=>exact .nils
  |nilp=>exact .nilp
  |nilf=>exact .nilf
  |iface h ih=>exact .iface ih
  |nili=>exact .nili
  |mp h ho=>
   obtain⟨t,ds,h1,hk⟩:=ho
   rw[hd] at h1
   split at h1
   ·cases h1
   ·exact .mp h ⟨t,ds,h1,hk⟩
  |it h ho=>
   obtain⟨t,ds,h1,hk⟩:=ho
   rw[hd] at h1
   split at h1
   ·cases h1
   ·exact .it h ⟨t,ds,h1,hk⟩
  |yld h ho=>
   obtain⟨t,ds,h1,hk⟩:=ho
   rw[hd] at h1
   split at h1
   ·cases h1
   ·exact .yld h ⟨t,ds,h1,hk⟩
  |emp=>exact .emp
  |undef=>exact .undef
  |skip=>exact .skip
 refine⟨⟨fun i o h=>?_,fun i hi=>?_,hr.inj,hr.lt,hr.col⟩,hrep⟩
 ·have hi:=(AH.1 h).1
  have:=hr.obj i o (by rw[hd,if_neg (by omega)];exact h)
  cases o with
  |arr t k xs=>
   refine⟨this.1,this.2.imp (fun e=>e) ?_⟩
   rintro⟨b,cur,fr',h1,h2,hfr',h3⟩
   exact⟨b,cur,fr',h1,h2,hfr',fun j q x d hx he=>by obtain⟨v,g1,g2⟩:=h3 j q x d hx he;exact⟨v,g1,hrep _ _ g2⟩⟩
  |oth t ds=>
   obtain⟨g0,vs,g1,g2,g3⟩:=this
   refine⟨fun q hq=>?_,vs,g1,g2,fun j e v he hv=>hrep _ _ (g3 j e v he hv)⟩
   obtain⟨t2,es,e'⟩:=g0 q hq
   rw[hd] at e'
   split at e'
   ·cases e'
   ·exact⟨t2,es,e'⟩
  |dead=>exact this
 ·rcases Bp σ.length i with h|h
  ·exact hr.out i (by simp;omega)
  ·have:i=σ.length:=by omega
   subst this
   exact hr.obj σ.length .dead (by simp)
def ai (C:Ctx) (st st':St):Prop:=∀a w,Rel C st a w→Rel C st' a w
theorem ai.refl (C:Ctx) (st:St):ai C st st:=fun _ _ h=>h
theorem ai.trans{C:Ctx}{a b c:St} (h:ai C a b) (k:ai C b c):ai C a c:=fun x w r=>k x w (h x w r)
theorem ai.weak{C:Ctx}{st st':St} (h:Weak st st'):ai C st st':=fun _ _ r=>r.weak h
theorem SW.ghost{C:Ctx}{c:Code}{st st':St}{K:XE→St→Prop} (g:ai C st st') (h:SW C c st' K):SW C c st K:=fun a w r=>h a w (g a w r)
theorem aa.ghost{C:Ctx}{ops:Array Oper}{rest:List Oper}{st st':St}{K:XE→St→Prop} (g:ai C st st') (h:aa C ops rest st' K):aa C ops rest st K:=fun a w r=>h a w (g a w r)
def fzE (id N:Nat) (r:Nat→Nat→DV) (e:List (Nat×DV)):List (Nat×DV):=e.map fun p=>(p.1,fz id N r p.2)
theorem zN (id N:Nat) (r:Nat→Nat→DV) (e:List (Nat×DV)) (t:Nat):lk (fzE id N r e) t=fz id N r (lk e t):=by
 induction e with
 |nil=>simp[fzE,lk,fz]
 |cons p e ih=>
  obtain⟨s,d⟩:=p
  simp only[fzE,Bf,lk] at ih⊢
  by_cases h:s=t
  ·rw[if_pos h,if_pos h]
  ·rw[if_neg h,if_neg h];exact ih
theorem Ob.ext_fz{o o':Ob} (id N:Nat) (r:Nat→Nat→DV) (h:o.ext o'):o.ext (dW id N r o'):=by
 cases o with
 |arr t k xs=>obtain⟨ys,rfl,hl⟩:=h;exact⟨_,rfl,by simpa using hl⟩
 |oth t ds=>obtain⟨t',ds',rfl,hk⟩:=h;exact⟨_,_,rfl,hk⟩
 |dead=>cases h;rfl
def na (id:Nat):List DD→Prop
 | []=>True
 |.col i::r=>i≠id∧na id r
 |.fn _ caps::r=>(∀d∈caps,bj id d)∧na id r
theorem ai.kill{C:Ctx}{st:St}{id t k:Nat}{xs:List DV} (c:Nat) (ho:st.ob[id]?=some (.arr t k xs)) (hid:C.σ0.length≤id) (hx:∀x∈xs,bj id x) (hdd:na id C.dd):
  ai C st ⟨fzE id xs.length (ff c k xs) st.env,(st.ob.map (dW id xs.length (ff c k xs))).set id .dead⟩:=by
 rintro a w ⟨F,μ,h⟩
 obtain⟨h1,h2,h3⟩:=h.hr.kill c ho hx
 have hlt:∀(i:Nat) (o:Ob),C.σ0[i]?=some o→i≠id:=by
  rintro i o hi rfl
  have:=(AH.1 hi).1
  omega
 refine⟨_,_,h1,fun q=>?_,⟨h.step.imm,fun c' b hb=>.inl (h.step.col c' b hb),fun i o hi=>?_,fun i t' k' zs ys hz hy he=>?_,fun i tt es hi=>?_⟩,?_,fun c' b hb=>?_,h.size,?_⟩
 ·rw[zN];exact h2 _ _ (h.env q)
 ·obtain⟨o',g1,g2⟩:=h.step.ext i o hi
  exact⟨_,h3 i o' (hlt i o hi) g1,Ob.ext_fz _ _ _ g2⟩
 ·obtain⟨o',g1,us,rfl,g3⟩:=h.step.ext i _ hz
  have:=h3 i _ (hlt i _ hz) g1
  rw[hy] at this
  simp only[dW,AX.injEq,Ob.arr.injEq,true_and] at this
  subst this
  simp only[AN] at he
  have hs:=h.step.same i t' k' zs us hz g1 he
  simp only[cQ]
  rw[if_neg (hlt i _ hz)]
  exact hs
 ·simp only[cQ]
  rw[if_neg (hlt i _ hi)]
  exact h.step.othsame i tt es hi
 ·refine⟨h.fr.os,h.fr.tape,h.fr.output,h.fr.size,h.fr.keep,fun i b hb=>?_,h.fr.drawn⟩
  simp only[cQ] at hb
  split at hb
  ·cases hb
  ·exact h.fr.new i b hb
 ·rcases hb with hb|⟨_,hb⟩
  ·exact h.col c' b hb
  ·rcases h.fr.new id b hb with e|e
   ·rw[C.out id hid] at e;cases e
   ·exact .inr e
 ·have key:∀(dd:List DD) (l:List Deferred),na id dd→bS w F μ st.ob dd l→bS w (rb F c (μ id)) (cQ μ id) ((st.ob.map (dW id xs.length (ff c k xs))).set id .dead) dd l:=by
   intro dd
   induction dd with
   |nil=>intro l _ hl;exact hl
   |cons x dd ih=>
    rintro l hn ⟨d,l',e1,e2,e3⟩
    cases x with
    |col i=>
     obtain⟨D,ds,g1,g2,g3⟩:=e2
     exact⟨d,l',e1,⟨D,_,by simp only[cQ];rw[if_neg hn.1];exact g1,h3 i _ hn.1 g2,g3⟩,ih _ hn.2 e3⟩
    |fn f caps=>
     obtain⟨vs,g1,g2⟩:=e2
     refine⟨d,l',e1,⟨vs,⟨g1.1,fun i e v he hv=>?_⟩,g2⟩,ih _ hn.2 e3⟩
     have:=h2 _ _ (g1.2 i e v he hv)
     rwa [hn.1 e (AM he)] at this
  exact key _ _ hdd h.defers
theorem ai.popDead{C:Ctx}{env:List (Nat×DV)}{ob:List Ob} (hid:C.σ0.length≤ob.length):ai C ⟨env,ob++[.dead]⟩ ⟨env,ob⟩:=by
 rintro a w ⟨F,μ,h⟩
 obtain⟨h1,h2⟩:=h.hr.popDead
 have hd:∀(i:Nat) (o:Ob),(ob++[Ob.dead])[i]?=some o→i<C.σ0.length→ob[i]?=some o:=by
  intro i o hi hl
  rw[aD,if_neg (by omega)] at hi
  exact hi
 refine⟨F,μ,h1,fun t=>h2 _ _ (h.env t),⟨h.step.imm,h.step.col,fun i o hi=>?_,fun i t' k' zs ys hz hy he=>?_,h.step.othsame⟩,h.fr,h.col,h.size,?_⟩
 ·obtain⟨o',g1,g2⟩:=h.step.ext i o hi
  exact⟨o',hd i o' g1 (AH.1 hi).1,g2⟩
 ·refine h.step.same i t' k' zs ys hz ?_ he
  have hlt:i<ob.length:=(AH.1 hy).1
  rw[aD,if_neg (by omega)]
  exact hy
 ·have key:∀(dd:List DD) (l:List Deferred),bS w F μ (ob++[.dead]) dd l→bS w F μ ob dd l:=by
   intro dd
   induction dd with
   |nil=>intro l hl;exact hl
   |cons x dd ih=>
    rintro l ⟨d,l',e1,e2,e3⟩
    refine⟨d,l',e1,?_,ih _ e3⟩
    cases x with
    |col i=>
     obtain⟨D,ds,g1,g2,g3⟩:=e2
     rw[aD] at g2
     split at g2
     ·cases g2
     ·exact⟨D,ds,g1,g2,g3⟩
    |fn f caps=>
     obtain⟨vs,g1,g2⟩:=e2
     exact⟨vs,⟨g1.1,fun i e v he hv=>h2 _ _ (g1.2 i e v he hv)⟩,g2⟩
  exact key _ _ h.defers
theorem ai.pop{C:Ctx}{env:List (Nat×DV)}{ob:List Ob}{t k:Nat}{xs:List DV} (c:Nat) (hid:C.σ0.length≤ob.length) (hx:∀x∈xs,bj ob.length x) (hdd:na ob.length C.dd):
  ai C ⟨env,ob++[.arr t k xs]⟩ ⟨fzE ob.length xs.length (ff c k xs) env,ob.map (dW ob.length xs.length (ff c k xs))⟩:=by
 refine ai.trans (ai.kill (id:=ob.length) (t:=t) (k:=k) (xs:=xs) c (by simp) hid hx hdd) ?_
 have:((ob++[Ob.arr t k xs]).map (dW ob.length xs.length (ff c k xs))).set ob.length .dead=ob.map (dW ob.length xs.length (ff c k xs))++[.dead]:=by
  rw[B8,List.set_append]
  simp
 rw[this]
 exact ai.popDead (by simpa using hid)
theorem ai.newNil{C:Ctx}{env:List (Nat×DV)}{ob:List Ob} (t e k:Nat) (ht:lk env t=.nils):ai C ⟨env,ob⟩ ⟨up env t (.sl ob.length 0 0 0),ob++[.arr e k []]⟩:=by
 rintro a w ⟨F,μ,h⟩
 obtain⟨h1,h2⟩:=h.hr.pushNil e k
 refine⟨F,μ,h1,fun q=>?_,h.step.trans h2,h.fr,h.col,h.size,h.defers.step h2⟩
 rw[iT]
 by_cases hq:t=q
 ·subst hq
  rw[if_pos rfl]
  have:=h.env t
  dsimp only at this
  rw[ht] at this
  generalize a.tmps.getD t undef=v at this
  cases this
  exact .sl ⟨e,k,[],by simp,by omega,by simp,by omega,by simp[maxLen],fun _=>.inl ⟨rfl,rfl,rfl,h.hr.out _ (AU _)⟩⟩
 ·rw[if_neg hq]
  exact(h.env q).step h2
def Op.plain:Op→Bool
 |.call {callee:=.value _,..}|.call {callee:=.invoke _ _,..}|.defer _|.panic _=>false
 |.call {callee:=.builtin .recover,..}=>false
 |_=>true
def fi (L:Lay) (ops:Array Oper):List Oper→St→Option (List Oper×St)
 | [],st=>some ([],st)
 |o::rest,st=>match gd ops st.env o with
  |some false=>fi L ops rest ⟨upo st.env o.dst .skip,st.ob⟩
  |some true=>if Op.plain o.op=true then match sop L st o.op with
    |some (d,ob')=>fi L ops rest ⟨upo st.env o.dst d,ob'⟩
    |none=>some (o::rest,st)
   else some (o::rest,st)
  |none=>none
def cm (n:Nat) (l:List Oper):Bool:=l.all fun o=>match o.dst with
 |some t=>decide (t<n)
 |none=>true
theorem aa.run{C:Ctx}{L:Lay} (hL:af C.P L){ops:Array Oper}{K:XE→St→Prop}:∀(l:List Oper) (st:St){rest:List Oper}{st':St},cm C.n l=true→fi L ops l st=some (rest,st')→aa C ops rest st' K→aa C ops l st K:=by
 intro l
 induction l with
 |nil=>intro st rest st' _ h hk;cases h;exact hk
 |cons o l ih=>
  intro st rest st' hd h hk
  simp only[cm,Cv,BF] at hd
  have hd0:∀t,o.dst=some t→t<C.n:=by
   intro t ht
   have:=hd.1
   rw[ht] at this
   simpa using this
  simp only[fi] at h
  cases hg:gd ops st.env o with
  |none=>rw[hg] at h;cases h
  |some b=>
   rw[hg] at h
   cases b with
   |false=>exact aa.pass hg hd0 (ih _ hd.2 h hk)
   |true=>
    simp only at h
    by_cases hp:Op.plain o.op=true
    ·rw[if_pos hp] at h
     cases hs:sop L st o.op with
     |none=>rw[hs] at h;cases h;exact hk
     |some q=>
      obtain⟨d,ob'⟩:=q
      rw[hs] at h
      exact aa.op hg hd0 (ar.of_sop hL hs) (ih _ hd.2 h hk)
    ·rw[if_neg hp] at h
     cases h
     exact hk
theorem aa.go{C:Ctx}{L:Lay} (hL:af C.P L){ops:Array Oper}{K:XE→St→Prop}{l:List Oper}{st:St} (hd:cm C.n l=true)
  (h:match fi L ops l st with|some (rest,st')=>aa C ops rest st' K|none=>False):aa C ops l st K:=by
 cases hr:fi L ops l st with
 |none=>rw[hr] at h;exact h.elim
 |some q=>rw[hr] at h;exact aa.run hL l st hd hr h
theorem aa.panic{C:Ctx}{ops:Array Oper}{rest:List Oper}{o:Oper}{st:St}{K:XE→St→Prop}{x:Operand}{t:Nat}{d:DV}
  (hg:gd ops st.env o=some true) (ho:o.op=.panic x) (hx:ev st.env x=.iface t d) (h:K (.panic (.iface t d)) st):aa C ops (o::rest) st K:=by
 rintro a w ⟨F,μ,hr⟩
 refine wpListIn_step fun K' hK=>?_
 rw[if_pos (aK hr hg)]
 have hv:=bb hr x
 rw[hx] at hv
 have hv':∃v,a.eval x=.iface t v∧Rep w F μ st.ob d v:=by
  generalize a.eval x=v at hv
  cases hv with
  |iface h=>exact⟨_,rfl,h⟩
 obtain⟨v,hv1,hv2⟩:=hv'
 have hrun:(execOp a.eval o).run C.P w=.halt (.panic (.iface t v)) w:=by
  simp[execOp,ho,hv1,Instr.panic,goPanic]
 refine bR (.inr fun c hc=>by rw[ho] at hc;cases hc) ?_
 unfold Oper.wp
 rw[hrun,Oper.upon_panic]
 exact⟨st,_,_,F,μ,h,rfl,hr,.iface hv2⟩
def aV (L:Lay) (st:St):ResultVar→Option DV
 |.tmp t=>some (lk st.env t)
 |.cell a t=>e9 L st.ob t (lk st.env a)
def cA (L:Lay) (st:St):List ResultVar→Option (List DV)
 | []=>some []
 |r::rs=>match aV L st r,cA L st rs with
  |some d,some ds=>some (d::ds)
  |_,_=>none
def aF (L:Lay) (st:St) (rs:List ResultVar):Option DV:=
 match cA L st rs with
 |some [d]=>some d
 |some ds=>some (.tup ds)
 |none=>none
theorem bZ{C:Ctx}{L:Lay} (hL:af C.P L){F:Nat→Nat→Prop}{μ:Nat→Option Nat}{st:St}{a:Act}{w:World} (h:Rel0 C F μ st a w){fn:Func}{d:DV} (hd:aF L st fn.results.toList=some d):
  ∃v,(results fn a.tmps).run C.P w=.ok v w∧Rep w F μ st.ob d v:=by
 have key:∀(g:ResultVar→Sem Value),(∀t,g (.tmp t)=pure (a.tmps.getD t undef))→(∀q t,g (.cell q t)=do loadVar t (←asAddr (a.tmps.getD q undef)))→∀(rs:List ResultVar) (ds:List DV),cA L st rs=some ds→∃vs:List Value,(rs.mapM g).run C.P w=.ok vs w∧bF w F μ st.ob ds vs:=by
  intro g hg1 hg2 rs
  induction rs with
  |nil=>intro ds h;cases h;exact⟨[],rfl,rfl,fun i d v h=>by simp at h⟩
  |cons r rs ih=>
   intro ds hds
   simp only[cA] at hds
   cases h1:aV L st r with
   |none=>rw[h1] at hds;cases hds
   |some d1=>
    cases h2:cA L st rs with
    |none=>rw[h1,h2] at hds;cases hds
    |some ds2=>
     rw[h1,h2] at hds
     cases hds
     obtain⟨vs,g1,g2⟩:=ih ds2 h2
     have hone:∃v,(g r).run C.P w=.ok v w∧Rep w F μ st.ob d1 v:=by
      cases r with
      |tmp t=>
       cases h1
       exact⟨_,by rw[hg1];rfl,h.env t⟩
      |cell q t=>
       obtain⟨v,r1,r2⟩:=qi hL h.hr h1 (h.env q)
       refine⟨v,?_,r2⟩
       have hq:∃ad,a.tmps.getD q undef=.pointer (some ad):=by
        have:=h.env q
        simp only[aV,e9] at h1
        split at h1<;>try cases h1
        split at h1<;>try cases h1
        rename_i cs hcs
        obtain⟨ad,u,e1,_⟩:=lg h.hr hcs this
        exact⟨ad,e1⟩
       obtain⟨ad,hq⟩:=hq
       rw[hg2]
       rw[hq] at r1⊢
       simpa[Instr.loadAt,Instr.sureAddr,asAddr] using r1
     obtain⟨v,r1,r2⟩:=hone
     refine⟨v::vs,by simp only[List.mapM_cons,Sem.run_bind,r1,g1,Result.andThen_ok,Sem.run_pure],by simp[g2.1],fun i e u he hu=>?_⟩
     cases i with
     |zero=>simp at he hu;subst he;subst hu;exact r2
     |succ i=>exact g2.2 i e u (by simpa using he) (by simpa using hu)
 unfold aF at hd
 cases hl:cA L st fn.results.toList with
 |none=>rw[hl] at hd;cases hd
 |some ds=>
  rw[hl] at hd
  obtain⟨vs,g1,g2,g3⟩:=key (fun|.tmp t=>pure (a.tmps.getD t undef)|.cell q t=>do loadVar t (←asAddr (a.tmps.getD q undef))) (fun _=>rfl) (fun _ _=>rfl) _ ds hl
  have hrun:(results fn a.tmps).run C.P w=.ok (if h:vs.toArray.size=1 then vs.toArray[0] else .tuple vs.toArray) w:=by
   unfold results
   rw[Array.mapM_eq_mapM_toList]
   simp only[Sem.run_bind,map_eq_pure_bind]
   refine(congrArg (fun x=>(x.andThen fun(a:List Value) w'=>Sem.run C.P (pure a.toArray) w').andThen fun(a:Array Value) w'=>Sem.run C.P (pure (if h:a.size=1 then a[0] else Value.tuple a)) w') g1).trans ?_
   rfl
  rcases ds with _|⟨d0,_|⟨d1,r⟩⟩
  ·rcases vs with _|⟨v0,r⟩
   ·cases hd;exact⟨_,hrun,.tup rfl (fun i d v h=>by simp at h)⟩
   ·simp at g2
  ·rcases vs with _|⟨v0,_|⟨v1,r⟩⟩
   ·simp at g2
   ·cases hd;exact⟨_,hrun,g3 0 _ _ rfl rfl⟩
   ·simp at g2
  ·rcases vs with _|⟨v0,_|⟨v1,r'⟩⟩
   ·simp at g2
   ·simp at g2
   ·cases hd;exact⟨_,hrun,.tup g2 g3⟩
def bL:Nat→List DV→List (Nat×DV)
 |_,[]=> []
 |n,d::ds=>(n,d)::bL (n+1) ds
theorem db:∀(ds:List DV) (n t:Nat),lk (bL n ds) t=if n≤t then(ds[t-n]?).getD .undef else .undef
 | [],n,t=>by simp[bL,lk]
 |d::ds,n,t=>by
  simp only[bL,lk]
  by_cases h:n=t
  ·subst h;simp
  ·rw[if_neg h,db ds (n+1) t]
   by_cases h1:n+1≤t
   ·rw[if_pos h1,if_pos (by omega),show t-n=(t-(n+1))+1 by omega]
    simp
   ·rw[if_neg h1,if_neg (by omega)]
theorem fx{id:Nat}{x:DV} (h:∀(i:Nat) (e:DV),x.cells[i]?=some e→bj id e):bj id x:=by
 intro N r
 cases x
 case agg cs=>
  simp only[fz,ei,DV.agg.injEq]
  apply BV
  intro i
  rw[AQ]
  cases hc:cs[i]? with
  |none=>rfl
  |some e=>simp[h i e hc N r]
 all_goals exact h 0 _ rfl N r
theorem fP{id:Nat}{cs:List DV} (h:∀(i:Nat) (e:DV),cs[i]?=some e→bj id e) (N:Nat) (r:Nat→Nat→DV):fzL id N r cs=cs:=by
 rw[ei]
 apply BV
 intro i
 rw[AQ]
 cases hc:cs[i]? with
 |none=>rfl
 |some e=>simp[h i e hc N r]
theorem Rep.noId{w:World}{F:Nat→Nat→Prop}{μ:Nat→Option Nat}{σ:List Ob}{d:DV}{v:Value} (h:Rep w F μ σ d v) (id:Nat) (hid:σ.length≤id):bj id d:=by
 have hne:∀(i:Nat) (o:Ob),σ[i]?=some o→i≠id:=by
  rintro i o hi rfl
  have:=(AH.1 hi).1
  omega
 induction h with
 |vec u hc hm ha hk hrr ih=>
  intro N r
  simp only[VL.fz]
  congr 1
  refine fP (fun j x hx=>fx fun i e he=>ih j i x e hx he) N r
 | @agg cs vs hl h ih=>intro N r;simp only[VL.fz];congr 1;exact fP (fun i e he=>ih i e _ he (AI (by rw[←hl];exact(AH.1 he).1))) N r
 | @tup cs vs hl h ih=>intro N r;simp only[VL.fz];congr 1;exact fP (fun i e he=>ih i e _ he (AI (by rw[←hl];exact(AH.1 he).1))) N r
 | @fn f cs vs hl h ih=>intro N r;simp only[VL.fz];congr 1;exact fP (fun i e he=>ih i e _ he (AI (by rw[←hl];exact(AH.1 he).1))) N r
 |vptr u hF hu hrr ih=>intro N r;simp only[VL.fz];congr 1;exact fP ih N r
 |ptr hp=>intro N r;obtain⟨t,k,xs,h1,_⟩:=hp;simp only[VL.fz];rw[if_neg (hne _ _ h1)]
 |sl hs=>intro N r;obtain⟨t,k,xs,h1,_⟩:=hs;simp only[VL.fz];rw[if_neg (hne _ _ h1)]
 |slx hs=>intro N r;obtain⟨t,k,xs,h1,_⟩:=hs;simp only[VL.fz];rw[if_neg (hne _ _ h1)]
 |mp h ho=>intro N r;obtain⟨_,_,h1,_⟩:=ho;simp only[VL.fz];rw[if_neg (hne _ _ h1)]
 |it h ho=>intro N r;obtain⟨_,_,h1,_⟩:=ho;simp only[VL.fz];rw[if_neg (hne _ _ h1)]
 |yld h ho=>intro N r;obtain⟨_,_,h1,_⟩:=ho;simp only[VL.fz];rw[if_neg (hne _ _ h1)]
 |iface h ih=>intro N r;simp only[VL.fz];rw[ih N r]
 |_=>intro N r;simp only[VL.fz]
def gF (σ:List Ob):Prop:=∀id,σ.length≤id→∀N r,σ.map (dW id N r)=σ
theorem HR.fixed{w:World}{F:Nat→Nat→Prop}{μ:Nat→Option Nat}{σ:List Ob} (hr:HR w F μ σ):gF σ:=by
 intro id hid N r
 apply BV
 intro i
 rw[AQ]
 cases ho:σ[i]? with
 |none=>rfl
 |some o=>
  simp only[AW,AX.injEq]
  have hob:=hr.obj i o ho
  cases o with
  |arr t k xs=>
   obtain⟨h1,h2⟩:=hob
   simp only[dW,Ob.arr.injEq,true_and]
   rcases h2 with⟨rfl,_⟩|⟨b,cur,_,_,_,_,h3⟩
   ·rfl
   ·apply BV
    intro j
    rw[AQ]
    cases hx:xs[j]? with
    |none=>rfl
    |some x=>
     simp only[AW,AX.injEq]
     exact fx (fun q e he=>by obtain⟨v,_,g⟩:=h3 j q x e hx he;exact g.noId id hid) N r
  |oth t ds=>
   obtain⟨_,vs,_,h3,h4⟩:=hob
   simp only[dW,Ob.oth.injEq,true_and]
   apply BV
   intro j
   rw[AQ]
   cases hx:ds[j]? with
   |none=>rfl
   |some p=>
    have hj:=(AH.1 hx).1
    have g1:=h4 j p _ hx (AI (show j<vs.length by omega))
    simp only[AW,AX.injEq]
    exact g1.noId id hid N r
  |dead=>rfl
def ag (C:Ctx) (d:DV) (ob:List Ob) (d':DV) (ob':List Ob):Prop:=
 ∀(a:Act) (w:World) (v:Value) (F:Nat→Nat→Prop) (μ:Nat→Option Nat),Rel0 C F μ ⟨[],ob⟩ a w→Rep w F μ ob d v→∃F' μ',Rel0 C F' μ' ⟨[],ob'⟩ a w∧Rep w F' μ' ob' d' v
theorem ag.refl (C:Ctx) (d:DV) (ob:List Ob):ag C d ob d ob:=fun _ _ _ F μ h r=>⟨F,μ,h,r⟩
theorem ag.of{C:Ctx}{d d':DV}{ob ob':List Ob} (hn:0<C.n) (h:ai C ⟨[(0,d)],ob⟩ ⟨[(0,d')],ob'⟩):ag C d ob d' ob':=by
 intro a w v F μ hr r
 have hs:({a with tmps:=a.tmps.setIfInBounds 0 v}:Act).tmps.getD 0 undef=v:=by
  rw[A0,Bu]
  simp[hr.size,hn]
 obtain⟨F',μ',h'⟩:=h {a with tmps:=a.tmps.setIfInBounds 0 v} w ⟨F,μ,hr.hr,fun t=>by
  simp only[lk]
  by_cases ht:0=t
  ·subst ht
   rw[if_pos rfl,hs]
   exact r
  ·rw[if_neg ht]
   exact .undef,hr.step,hr.fr,hr.col,by simpa using hr.size,hr.defers⟩
 refine⟨F',μ',⟨h'.hr,fun _=>.undef,h'.step,h'.fr,h'.col,hr.size,h'.defers⟩,?_⟩
 have:=h'.env 0
 rw[hs] at this
 simpa[lk] using this
def lE (C:Ctx) (L:Lay) (rs:List ResultVar) (out:Out) (σ':List Ob):XE→St→Prop
 |.normal,st|.ret,st=>∃st' d d',ai C st st'∧aF L st' rs=some d∧ag C d st'.ob d' σ'∧out=.ret d'
 |.panic d,st=>∃d',ag C d st.ob d' σ'∧out=.pan d'
 |_,_=>False
theorem Ok.of_body{P:Program}{L:Lay} (hL:af P L){f:FuncId}{fn:Func}{c:Code}{args:List DV}{σ:List Ob}{out:Out}{σ':List Ob} (hf:P.funcs[f]?=some fn) (hb:fn.body=some c)
  (hname:(fn.name== "runtime.NumGoroutine")=false) (hlen:args.length≤fn.ntmps)
  (h:∀C:Ctx,C.P=P→C.n=fn.ntmps→C.σ0=σ→gF σ→C.dd=[]→SW C c ⟨bL 0 args,σ⟩ (lE C L fn.results.toList out σ')):Ok P f args σ out σ':=by
 refine⟨fun vs w=>?_,fun w F μ vs hr hv=>?_⟩
 ·have hn:¬ fn.name= "runtime.NumGoroutine" :=by simpa using hname
  simp[callFunc,program,Sem.run,hf,hn,hb]
 ·let C:Ctx:=⟨P,fn.ntmps,none,[],w,F,μ,σ,hr.out⟩
  refine calls_of_wp hf hb (wp_mono ((wpIn_wide (n:=0)).1 (h C rfl rfl rfl hr.fixed rfl _ w ⟨F,μ,hr,fun t=>?_,Step.refl ..,Fr.refl ..,fun _ _ h=>.inl h,?_,rfl⟩)) fun e a w' hq=>?_)
  ·show Rep w F μ σ (lk (bL 0 args) t) _
   rw[db,if_pos (BD t),B6]
   rcases Bp t args.length with ht|ht
   ·rw[AI ht,A8]
    have ht':t<vs.length:=by rw[←hv.1];exact ht
    have:((⟨vs⟩:Array Value)++BI (fn.ntmps-(⟨vs⟩:Array Value).size) undef).getD t undef=vs[t]:=by
     rw[A0,BO (by simpa using ht')]
     simp[ht']
    rw[this]
    exact hv.2 t _ _ (AI ht) (AI ht')
   ·rw[BA ht]
    exact .undef
  ·show((⟨vs⟩:Array Value)++BI (fn.ntmps-(⟨vs⟩:Array Value).size) undef).size=fn.ntmps
   have:=hv.1
   simp;omega
  ·have wk:∀{F' μ' st},Rel0 C F' μ' st a w'→Rel0 C F' μ' ⟨[],st.ob⟩ a w':=fun h=>⟨h.hr,fun _=>.undef,h.step,h.fr,h.col,h.size,h.defers⟩
   have fin:∀st,(∃st' d d',ai C st st'∧aF L st' fn.results.toList=some d∧ag C d st'.ob d' σ'∧out=.ret d')→Rel C st a w'→
     a.defers=[]∧∃v,(results fn a.tmps).run P w'=.ok v w'∧di out σ' w F μ σ (.returned v) w':=by
    rintro st ⟨st',d,d',g1,g3,g4,rfl⟩ hrel
    obtain⟨F',μ',h'⟩:=g1 a w' hrel
    obtain⟨v,r1,r2⟩:=bZ (C:=C) hL h' g3
    obtain⟨F'',μ'',h'',r3⟩:=g4 a w' v F' μ' (wk h') r2
    exact⟨h'.defers,v,r1,F'',μ'',v,⟨h''.hr,h''.step,h''.fr,h''.col⟩,rfl,r3⟩
   cases e with
   |normal=>obtain⟨st,hk,hrel⟩:=hq;exact fin st hk hrel
   |ret=>obtain⟨st,hk,hrel⟩:=hq;exact fin st hk hrel
   |exit i=>obtain⟨st,hk,_⟩:=hq;exact hk.elim
   |goto l=>exact hq.elim
   |panic ch=>
    obtain⟨st,d,v,F',μ',⟨d',g4,rfl⟩,rfl,h',r2⟩:=hq
    obtain⟨F'',μ'',h'',r3⟩:=g4 a w' v F' μ' (wk h') r2
    exact⟨h'.defers,F'',μ'',v,⟨h''.hr,h''.step,h''.fr,h''.col⟩,rfl,r3⟩
   |outgrown=>exact hq.elim
section
section
variable{C:Ctx}{L:Lay}{K:XE→St→Prop}{st:St}
theorem SW.rs (hL:af C.P L){id:Nat}{ops:Array Oper}{y:Code} (hd:cm C.n ops.toList=true)
  (h:match fi L ops ops.toList st with|some ([],st')=>SW C y st' K|some (o::r,st')=>aa C ops (o::r) st' (ap C y K)|none=>False):SW C (.seq (.region id ops false) y) st K:=by
 refine SW.seq (SW.region ?_)
 cases hr:fi L ops ops.toList st with
 |none=>rw[hr] at h;exact h.elim
 |some q=>
  obtain⟨l,st'⟩:=q
  rw[hr] at h
  cases l with
  |nil=>exact aa.run hL _ _ hd hr (aa.nil h)
  |cons o r=>exact aa.run hL _ _ hd hr h
theorem SW.re (hL:af C.P L){id:Nat}{ops:Array Oper} (hd:cm C.n ops.toList=true)
  (h:match fi L ops ops.toList st with|some ([],st')=>K .normal st'|some (o::r,st')=>aa C ops (o::r) st' K|none=>False):SW C (.region id ops false) st K:=by
 refine SW.region ?_
 cases hr:fi L ops ops.toList st with
 |none=>rw[hr] at h;exact h.elim
 |some q=>
  obtain⟨l,st'⟩:=q
  rw[hr] at h
  cases l with
  |nil=>exact aa.run hL _ _ hd hr (aa.nil h)
  |cons o r=>exact aa.run hL _ _ hd hr h
theorem SW.ct{c:Operand}{x y:Code} (hc:ev st.env c=.bool true) (h:SW C x st K):SW C (.cond c x y) st K:=SW.cond true hc (fun _=>h) (fun e=>by cases e)
theorem SW.cf{c:Operand}{x y:Code} (hc:ev st.env c=.bool false) (h:SW C y st K):SW C (.cond c x y) st K:=SW.cond false hc (fun e=>by cases e) (fun _=>h)
def aC (env:List (Nat×DV)):List (Nat×DV)→Prop
 | []=>True
 |p::r=>lk env p.1=p.2∧aC env r
theorem rK{env:List (Nat×DV)}:∀{l:List (Nat×DV)},aC env l→∀t,lk l t=.undef∨lk l t=lk env t
 | [],_,t=>.inl rfl
 |(s,d)::r,h,t=>by
  simp only[lk]
  by_cases hs:s=t
  ·subst hs
   rw[if_pos rfl]
   exact .inr h.1.symm
  ·rw[if_neg hs]
   exact rK h.2 t
theorem Weak.of_agree{env l:List (Nat×DV)}{ob ob':List Ob} (ho:ob'=ob) (h:aC env l):Weak ⟨env,ob⟩ ⟨l,ob'⟩:=⟨ho,rK h⟩
theorem SW.lp{c:Code} (I:Nat→St→Prop) (n:Nat){st0:St} (hw:Weak st st0) (h0:I n st0)
 (h:∀n st,I n st→SW C c st (cx n I K)):SW C (.loop c) st K:=SW.weak hw (SW.loop I n h0 h)
theorem SW.keep{c:Code}{env:List (Nat×DV)}{ob:List Ob} (l:List (Nat×DV)) (h:aC env l) (k:SW C c ⟨l,ob⟩ K):SW C c ⟨env,ob⟩ K:=SW.weak (Weak.of_agree rfl h) k
theorem SW.vlen{c:Code} (t:Nat){q k:Nat}{xs:List DV} (ht:lk st.env t=.vec q k xs) (h:xs.length≤9223372036854775807→SW C c st K):SW C c st K:=by
 rintro a w ⟨F,μ,hr⟩
 have:=hr.env t
 rw[ht] at this
 generalize a.tmps.getD t undef=v at this
 cases this with
 |vec u hc hm ha hk hrr=>exact h (by simp only[maxLen] at hm;omega) a w ⟨F,μ,hr⟩
end
end
section
def Lp{X:Type} (S:X→St) (m:X→Nat) (P:X→Prop):Nat→St→Prop:=fun n st=>∃x,P x∧m x=n∧st=S x
section
variable{C:Ctx}{K:XE→St→Prop}{st:St}
theorem SW.lpx{c:Code}{X:Type} (S:X→St) (m:X→Nat) (P:X→Prop) (x:X) (h0:P x) (hw:Weak st (S x))
  (h:∀x,P x→SW C c (S x) (cx (m x) (Lp S m P) K)):SW C (.loop c) st K:=by
 refine SW.lp (Lp S m P) (m x) hw ⟨x,h0,rfl,rfl⟩ ?_
 rintro n st' ⟨y,hy,rfl,rfl⟩
 exact h y hy
end
theorem az{n dflt hi:Nat}{k:IntKind} (h:n≤hi):au (some (.int k (n:Int))) dflt hi=some n:=by
 simp only[au]
 rw[if_pos (by omega)]
 exact congrArg some (Bg _)
end
section
theorem Rel.drew{C:Ctx}{st:St}{a:Act}{w:World} (h:Rel C st a w) (n:Nat) (hn:w.drawn≤n):Rel C st a {w with drawn:=n}:=by
 obtain⟨F,μ,h⟩:=h
 exact⟨F,μ,h.hr.drew n,fun t=>(h.env t).step (fG w n F μ st.ob),h.step.trans (fG w n F μ st.ob),
  h.fr.trans ⟨rfl,rfl,rfl,AU _,fun _ _ _=>rfl,fun _ _ h=>.inl h,hn⟩,h.col,h.size,h.defers.step (fG w n F μ st.ob)⟩
def bK (P:Program) (o:Oper) (st:St) (out:Out) (ob':List Ob):Prop:=
 ∀(ro:Option Nat) (a:Act) (w:World) (F:Nat→Nat→Prop) (μ:Nat→Option Nat) (K':Act→World→Prop) (Q:Exit→Act→World→Prop),HR w F μ st.ob→(∀x,Rep w F μ st.ob (ev st.env x) (a.eval x))→
  (∀v w' F' μ',After w F μ st.ob w' F' μ' ob'→match out with
   |.ret d=>Rep w' F' μ' ob' d v→K' (a.put o.dst v) w'
   |.pan d=>Rep w' F' μ' ob' d v→Q (.panic [{v,recovered:=false}]) a w')→o.wpIn {Fence.wide with round:=ro} 0 P a w K' Q
theorem bK.op{P:Program}{L:Lay} (hL:af P L){o:Oper}{st:St}{d:DV}{ob':List Ob} (h:sop L st o.op=some (d,ob')):bK P o st (.ret d) ob':=by
 intro ro a w F μ K' Q hh he hk
 obtain⟨r,w',μ',v,hrun,hv,hh',hst,hfr,hrep⟩:=ar.of_sop (o:=o) hL h a w F μ hh he
 have:=hk v w' F μ' ⟨hh',hst,hfr,fun c b h=>.inl h⟩ hrep
 refine bR (.inr fun c hc=>?_) ?_
 ·obtain⟨d',rfl⟩:=gq hc hrun
  rcases hv with e|⟨e,_⟩<;>cases e
 unfold Oper.wp
 rw[hrun]
 rcases hv with rfl|⟨rfl,rfl⟩
 ·exact this
 ·exact this
theorem bK.call{P:Program}{o:Oper}{st:St}{g:Operand}{xs:Array Operand}{ts:Array TypeId}{f:FuncId}{caps:List DV}{out:Out}{σ':List Ob}
  (ho:o.op=.call {callee:=.value g,args:=xs,argTypes:=ts}) (hf:ev st.env g=.fn f caps)
  (hok:Ok P f (xs.toList.map (ev st.env)++caps) st.ob out σ'):bK P o st out σ':=by
 intro ro a w F μ K' Q hh he hk
 have hv:=he g
 rw[hf] at hv
 have hcap:∃vs:List Value,a.eval g=.func (.func f) #[] ⟨vs⟩∧bF w F μ st.ob caps vs:=by
  generalize a.eval g=v at hv
  cases hv with
  |fn hl hh=>exact⟨_,rfl,hl,hh⟩
 obtain⟨cvs,hge,hcr⟩:=hcap
 have hrun:(execOp a.eval o).run P w=.ok (.enter f ⟨xs.toList.map a.eval++cvs⟩) w:=by
  unfold execOp
  rw[ho]
  dsimp only[resolve]
  rw[hge]
  have harr:(xs.map a.eval++(⟨cvs⟩:Array Value))=⟨xs.toList.map a.eval++cvs⟩:=by
   apply BJ
   simp
  simp only[Deferred.ofValue,Sem.run_bind,Sem.run_pure,Result.andThen_ok,invoke,B3,harr]
  exact hok.enters _ w
 have hrm:bF w F μ st.ob (xs.toList.map (ev st.env)) (xs.toList.map a.eval):=by
  refine⟨by simp,fun i d v hd hv=>?_⟩
  rw[AQ] at hd hv
  cases hx:xs.toList[i]? with
  |none=>simp[hx] at hd
  |some x=>
   simp only[hx,AW,AX.injEq] at hd hv
   subst hd;subst hv
   exact he x
 refine bR (.inr fun c hc=>by rw[ho] at hc;cases hc) ?_
 unfold Oper.wp
 rw[hrun,Oper.upon_enter]
 refine(hok.calls w F μ _ hh (hrm.append hcr)).mono fun e w' he=>?_
 obtain⟨F',μ',v,haf,hout⟩:=he
 have:=hk v w' F' μ' haf
 cases out with
 |ret d=>
  obtain⟨rfl,hrep⟩:=hout
  exact this hrep
 |pan d=>
  obtain⟨rfl,hrep⟩:=hout
  exact this hrep
structure DI where
 rd:List Nat
 pre:List Nat
 eff:Bool
 ph:List Nat
 dst:Option Nat
 dir:List Nat
def DI.none:DI:=⟨[],[],false,[],DC,[]⟩
def aP (ops:Array Oper) (i:Nat):Option Nat:=(ops[i]?).bind (·.dst)
def aM (I:List DI) (f:Nat→Bool):Nat→Nat
 |0=>0
 |n+1=>aM I f n+if(I.getD n .none).eff&&f n then 1 else 0
def fc (o:Oper):List Nat:=(o.after.toList.filter fun e=>Region.binds .any e).map fun e=>e.on
def fA (ops:Array Oper) (i:Nat):List Nat:=match ops[i]? with
 |some o=>fc o
 |none=> []
def sr (dir:Nat→List Nat) (I:List DI) (i:Nat):Bool:=
 ((dir i).all fun j=>decide (j<i))&&(I.getD i .none).pre.all fun j=>decide (j<i)&&((dir i).contains j||(dir i).any fun k=>(I.getD k .none).pre.contains j)
def ec (a b:Option Nat):Bool:=match a,b with|some x,some y=>x==y|_,_=>false
def fj (a:Option Nat) (l:List Nat):Bool:=match a with|some x=>l.contains x|_=>false
def zf (dst:Nat→Option Nat) (I:List DI) (j i:Nat):Bool:=
 !(fj (dst j) (I.getD i .none).rd||fj (dst i) (I.getD j .none).rd||ec (dst j) (dst i)||((I.getD i .none).eff&&(I.getD j .none).eff))||(I.getD i .none).pre.contains j
def phB (I:List DI) (n i:Nat):Bool:=
 (I.getD i .none).eff||(let lo:=aM I (fun j=>(I.getD i .none).pre.contains j) n;let hi:=aM I (fun k=>!(I.getD k .none).pre.contains i) n;
  (Bs (n+1)).all fun q=>decide (q<lo)||decide (hi<q)||(I.getD i .none).ph.contains q)
def yT (dst:Nat→Option Nat) (m i:Nat):Bool:=match dst i with|some t=>decide (t<m)|none=>true
def w9 (dst:Nat→Option Nat) (dir:Nat→List Nat) (I:List DI) (m n:Nat):Bool:=
 (Bs n).all fun i=>sr dir I i&&phB I n i&&yT dst m i&&(Bs i).all fun j=>zf dst I j i
def t5 (ops:Array Oper) (I:List DI) (m n:Nat):Bool:=decide (ops.size=n)&&w9 (aP ops) (fA ops) I m n
def m8 (I:List DI) (m:Nat):Bool:=w9 (fun i=>(I.getD i .none).dst) (fun i=>(I.getD i .none).dir) I m I.length
theorem rp{l:List Oper}{I:List DI}{m:Nat} (h:l.map (fun o=>(o.dst,fc o))=I.map fun D:DI=>(D.dst,D.dir)) (hF:m8 I m=true):t5 l.toArray I m l.length=true:=by
 have hl:l.length=I.length:=by simpa using congrArg Cr h
 have hi:∀i:Nat,(l[i]?.map fun o=>(o.dst,fc o))=I[i]?.map fun D:DI=>(D.dst,D.dir):=fun(i:Nat)=>by
  have:=congrArg (fun(q:List (Option Tmp×List Nat))=>q[i]?) h
  simpa only[AQ] using this
 have h1:aP l.toArray=fun i=>(I.getD i .none).dst:=by
  funext i
  have:=hi i
  simp only[aP,Bn,AZ]
  cases hx:l[i]?<;>cases hy:I[i]?<;>simp[hx,hy] at this⊢
  ·rfl
  ·exact this.1
 have h2:fA l.toArray=fun i=>(I.getD i .none).dir:=by
  funext i
  have:=hi i
  simp only[fA,Bn,AZ]
  cases hx:l[i]?<;>cases hy:I[i]?<;>simp[hx,hy] at this⊢
  ·rfl
  ·exact this.2
 unfold t5
 rw[h1,h2]
 unfold m8 at hF
 rw[←hl] at hF
 rw[hF]
 simp
def rst (env:List (Nat×DV)) (l:List Nat):List (Nat×DV):=l.map fun t=>(t,lk env t)
def orN (K:XE→St→Prop):XE→St→Prop:=fun e s=>e=.normal∨K e s
def dop (C:Ctx) (ops:Array Oper) (φ:List (List Ob)) (D:DI) (p:Nat) (o:Oper) (env:List (Nat×DV)) (last:Bool) (K:XE→St→Prop) (next nextN:DV→Prop):Prop:=
 match gd ops (rst env D.rd) o with
 |some false=>(D.eff=true→φ.getD (p+1) []=φ.getD p [])∧next .skip
 |some true=>
  if D.eff=true then ∃out,bK C.P o ⟨rst env D.rd,φ.getD p []⟩ out (φ.getD (p+1) [])∧match out with
   |.ret d=>next d
   |.pan d=>(last=true∨∃d',nextN d')∧K (.panic d) ⟨[],φ.getD (p+1) []⟩
  else ∃d,(∀q∈D.ph,bK C.P o ⟨rst env D.rd,φ.getD q []⟩ (.ret d) (φ.getD q []))∧next d
 |none=>False
def gE (C:Ctx) (ops:Array Oper) (φ:List (List Ob)):(XE→St→Prop)→List DI→Nat→List Oper→List (Nat×DV)→Prop
 |K,_,p,[],env=>K .normal ⟨env,φ.getD p []⟩
 |_,[],_,_::_,_=>False
 |K,D::I,p,o::rest,env=>dop C ops φ D p o env rest.isEmpty K (fun d=>gE C ops φ K I (if D.eff then p+1 else p) rest (upo env o.dst d)) (fun d=>gE C ops φ (orN K) I (if D.eff then p+1 else p) rest (upo env o.dst d))
section
variable{I:List DI}{f g:Nat→Bool}
theorem dy:∀n,(∀j,j<n→(I.getD j .none).eff=true→f j=true→g j=true)→aM I f n≤aM I g n
 |0,_=>AU _
 |n+1,h=>by
  have:=dy n fun j hj=>h j (by omega)
  simp only[aM]
  have hn:=h n (by omega)
  cases he:(I.getD n .none).eff<;>cases hf:f n<;>cases hg:g n<;>simp_all<;>omega
theorem pb:∀n,aM I f n≤n
 |0=>AU _
 |n+1=>by
  have:=pb n
  simp only[aM]
  split<;>omega
theorem jl (n:Nat) (h:∀j,j<n→(I.getD j .none).eff=true→f j=g j):aM I f n=aM I g n:=
 Nat.le_antisymm (dy n fun j hj he hf=>(h j hj he)▸hf) (dy n fun j hj he hf=>(h j hj he).symm▸hf)
theorem lJ{i:Nat}:∀n,i≤n→(∀j,j<i→(I.getD j .none).eff=true→f j=true)→(∀j,i≤j→j<n→(I.getD j .none).eff=true→f j=false)→aM I f n=aM I (fun _=>true) i
 |0,hi,h1,_=>by
  obtain rfl:i=0:=by omega
  rfl
 |n+1,hi,h1,h2=>by
  rcases Bp n i with hn|hn
  ·obtain rfl:i=n+1:=by omega
   exact jl _ fun j hj he=>h1 j hj he
  ·have:=lJ n hn h1 fun j a b=>h2 j a (by omega)
   simp only[aM]
   have hq:=h2 n hn (by omega)
   cases he:(I.getD n .none).eff<;>simp_all
theorem c9{i:Nat} (hf:f i=false):∀n,aM I (fun j=>decide (j=i)||f j) n=aM I f n+if(I.getD i .none).eff=true∧i<n then 1 else 0
 |0=>by simp[aM]
 |n+1=>by
  have:=c9 hf n
  simp only[aM,this]
  by_cases hn:n=i
  ·subst hn
   simp[hf]
  ·have h1:(i<n+1)=(i<n):=propext (by omega)
   simp only[hn,decide_false,Dx,h1]
   omega
end
def vAt (ops:Array Oper) (env0:List (Nat×DV)) (ds:Nat→DV) (f:Nat→Bool):Nat→Nat→DV
 |0,t=>lk env0 t
 |n+1,t=>if f n=true∧aP ops n=some t then ds n else vAt ops env0 ds f n t
section
variable{ops:Array Oper}{env0:List (Nat×DV)}{ds:Nat→DV}{f g:Nat→Bool}
theorem ew{t:Nat}:∀n,(∀j,j<n→aP ops j=some t→f j=g j)→vAt ops env0 ds f n t=vAt ops env0 ds g n t
 |0,_=>rfl
 |n+1,h=>by
  simp only[vAt]
  rw[ew n fun j hj=>h j (by omega)]
  by_cases hd:aP ops n=some t
  ·rw[h n (by omega) hd]
  ·simp[hd]
theorem jM{t i:Nat}:∀n,i≤n→(∀j,i≤j→j<n→aP ops j=some t→f j=false)→vAt ops env0 ds f n t=vAt ops env0 ds f i t
 |0,hi,_=>by
  obtain rfl:i=0:=by omega
  rfl
 |n+1,hi,h=>by
  rcases Bp n i with hn|hn
  ·obtain rfl:i=n+1:=by omega
   rfl
  ·simp only[vAt]
   rw[jM n hn fun j a b=>h j a (by omega),if_neg (fun⟨a,b⟩=>by rw[h n hn (by omega) b] at a;cases a)]
theorem oK{t i:Nat}:∀n,i<n→(∀j,i<j→j<n→aP ops i=some t→aP ops j=some t→f j=false)→vAt ops env0 ds (fun j=>decide (j=i)||f j) n t=if aP ops i=some t then ds i else vAt ops env0 ds f n t
 |0,hi,_=>by omega
 |n+1,hi,h=>by
  by_cases hd:aP ops i=some t
  ·rw[if_pos hd,jM (i:=i+1) (n+1) (by omega) (fun j a b c=>by
    rw[h j (by omega) b hd c]
    simp only[Bool.or_false,decide_eq_false_iff_not]
    omega)]
   simp[vAt,hd]
  ·rw[if_neg hd]
   refine ew _ fun j _ hj=>?_
   have:j≠i:=fun e=>hd (e▸hj)
   simp[this]
theorem g9 (e:List (Nat×DV)) (o:Option Nat) (d:DV) (t:Nat):lk (upo e o d) t=if o=some t then d else lk e t:=by
 cases o with
 |none=>simp[upo]
 |some q=>simp only[upo,iT,AX.injEq]
theorem jN{E:Nat→List (Nat×DV)} (h0:E 0=env0):∀n,(∀k,k<n→E (k+1)=upo (E k) (aP ops k) (ds k))→∀t,vAt ops env0 ds (fun _=>true) n t=lk (E n) t
 |0,_,t=>by rw[h0];rfl
 |n+1,h,t=>by
  rw[h n (by omega),g9]
  simp only[vAt,true_and]
  rw[jN h0 n (fun k hk=>h k (by omega)) t]
end
def dM (C:Ctx) (ops:Array Oper) (φ:List (List Ob)) (I:List DI) (K:XE→St→Prop) (E:Nat→List (Nat×DV)) (k:Nat):Prop:=
 ∃o d,ops[k]?=some o∧gd ops (rst (E k) (I.getD k .none).rd) o=some true∧(I.getD k .none).eff=true∧
  bK C.P o ⟨rst (E k) (I.getD k .none).rd,φ.getD (aM I (fun _=>true) k) []⟩ (.pan d) (φ.getD (aM I (fun _=>true) k+1) [])∧K (.panic d) ⟨[],φ.getD (aM I (fun _=>true) k+1) []⟩
def qW (C:Ctx) (ops:Array Oper) (φ:List (List Ob)) (I:List DI) (E:Nat→List (Nat×DV)) (ds:Nat→DV) (k:Nat):Prop:=
 ∃o,ops[k]?=some o∧
  ((gd ops (rst (E k) (I.getD k .none).rd) o=some false∧ds k=.skip∧((I.getD k .none).eff=true→φ.getD (aM I (fun _=>true) k+1) []=φ.getD (aM I (fun _=>true) k) []))∨
  (gd ops (rst (E k) (I.getD k .none).rd) o=some true∧(I.getD k .none).eff=true∧bK C.P o ⟨rst (E k) (I.getD k .none).rd,φ.getD (aM I (fun _=>true) k) []⟩ (.ret (ds k)) (φ.getD (aM I (fun _=>true) k+1) []))∨
  (gd ops (rst (E k) (I.getD k .none).rd) o=some true∧(I.getD k .none).eff=false∧∀q∈(I.getD k .none).ph,bK C.P o ⟨rst (E k) (I.getD k .none).rd,φ.getD q []⟩ (.ret (ds k)) (φ.getD q [])))
theorem ox{C:Ctx}{ops:Array Oper}{φ:List (List Ob)}{I:List DI}:∀(l:List Oper) (i:Nat) (env:List (Nat×DV)) (I':List DI) (p:Nat){K:XE→St→Prop},
  i≤ops.size→ops.toList.drop i=l→I.drop i=I'→p=aM I (fun _=>true) i→gE C ops φ K I' p l env→
  ∃(E:Nat→List (Nat×DV)) (ds:Nat→DV),E i=env∧(∀k,i≤k→k<ops.size→E (k+1)=upo (E k) (aP ops k) (ds k)∧(qW C ops φ I E ds k∨dM C ops φ I K E k))∧
   (K .normal ⟨E ops.size,φ.getD (aM I (fun _=>true) ops.size) []⟩∨∃k,i≤k∧k<ops.size∧dM C ops φ I K E k):=by
 intro l
 induction l with
 |nil=>
  intro i env I' p K hi hl _ hp h
  have:ops.size≤i:=by
   have:=congrArg Cr hl
   simp at this
   omega
  obtain rfl:i=ops.size:=by omega
  refine⟨fun _=>env,fun _=>.undef,rfl,fun k a b=>by omega,.inl ?_⟩
  have:gE C ops φ K I' p [] env=K .normal ⟨env,φ.getD p []⟩:=by cases I'<;>rfl
  rw[this,hp] at h
  exact h
 |cons o rest ih=>
  intro i env I' p K hi hl hI hp h
  cases hI':I' with
  |nil=>rw[hI'] at h;exact h.elim
  |cons D J=>
   rw[hI'] at h hI
   have hlt:i<ops.size:=by
    have:=congrArg Cr hl
    simp at this
    omega
   have ho:ops[i]?=some o:=by
    have:=congrArg Di hl
    rw[Cz] at this
    simpa using this
   have hr:ops.toList.drop (i+1)=rest:=by
    have:=congrArg DR hl
    rwa [C4] at this
   have hD:I.getD i .none=D:=by
    have:=congrArg Di hI
    rw[Cz] at this
    simp only[List.head?_cons] at this
    rw[AZ,this]
    rfl
   have hJ:I.drop (i+1)=J:=by
    have:=congrArg DR hI
    rwa [C4] at this
   have hda:aP ops i=o.dst:=by simp[aP,ho]
   simp only[gE,dop] at h
   have go:∀(K':XE→St→Prop) d,(∀d s,K' (.panic d) s→K (.panic d) s)→((K'=K)∨∀(E:Nat→List (Nat×DV)),E i=env→dM C ops φ I K E i)→gE C ops φ K' J (if D.eff=true then p+1 else p) rest (upo env o.dst d)→(∀(E:Nat→List (Nat×DV)) (ds:Nat→DV),E i=env→ds i=d→qW C ops φ I E ds i∨dM C ops φ I K E i)→
     ∃(E:Nat→List (Nat×DV)) (ds:Nat→DV),E i=env∧(∀k,i≤k→k<ops.size→E (k+1)=upo (E k) (aP ops k) (ds k)∧(qW C ops φ I E ds k∨dM C ops φ I K E k))∧
      (K .normal ⟨E ops.size,φ.getD (aM I (fun _=>true) ops.size) []⟩∨∃k,i≤k∧k<ops.size∧dM C ops φ I K E k):=by
    intro K' d hK' hfin hw hret
    obtain⟨E,ds,h0,h1,h2⟩:=ih (i+1) _ J _ (by omega) hr hJ (by
     simp only[aM,hD,Dc,←hp]
     split<;>rfl) hw
    have e1:∀k,i<k→(fun k=>if k=i then env else E k) k=E k:=fun k hk=>if_neg (by omega)
    have e2:∀k,i<k→(fun k=>if k=i then d else ds k) k=ds k:=fun k hk=>if_neg (by omega)
    have pan:∀k,i<k→dM C ops φ I K' E k→dM C ops φ I K (fun k=>if k=i then env else E k) k:=by
     intro k hk hp
     unfold dM
     rw[e1 k hk]
     obtain⟨o',d',q1,q2,q3,q4,q5⟩:=hp
     exact⟨o',d',q1,q2,q3,q4,hK' _ _ q5⟩
    refine⟨fun k=>if k=i then env else E k,fun k=>if k=i then d else ds k,if_pos rfl,fun k hk hk'=>?_,?_⟩
    ·rcases Cu hk with rfl|hlt'
     ·refine⟨?_,hret _ _ (if_pos rfl) (if_pos rfl)⟩
      rw[e1 _ (by omega),h0]
      simp[hda]
     ·obtain⟨a,b⟩:=h1 k hlt' hk'
      refine⟨?_,b.imp (fun q=>?_) (pan k hlt')⟩
      ·rw[e1 _ (by omega),e1 _ hlt',e2 _ hlt',a]
      ·unfold qW
       rw[e1 k hlt',e2 k hlt']
       exact q
    ·rcases hfin with rfl|hfin
     ·refine h2.imp (fun q=>?_) (fun⟨k,a,b,c⟩=>⟨k,by omega,b,pan k a c⟩)
      rw[e1 _ hlt]
      exact q
     ·exact .inr ⟨i,AU _,hlt,hfin _ (if_pos rfl)⟩
   split at h
   ·rename_i hg
    refine go K _ (fun _ _ h=>h) (.inl rfl) h.2 fun E ds he hd=>.inl ⟨o,ho,.inl ?_⟩
    rw[he,hd,hD,←hp]
    exact⟨hg,rfl,h.1⟩
   ·rename_i hg
    split at h
    ·rename_i hE
     obtain⟨out,hdo,hm⟩:=h
     cases out with
     |ret d=>
      refine go K d (fun _ _ h=>h) (.inl rfl) (by rw[if_pos hE];exact hm) fun E ds he hd=>.inl ⟨o,ho,.inr (.inl ?_)⟩
      rw[he,hd,hD,←hp]
      exact⟨hg,hE,hdo⟩
     |pan d=>
      replace hm:(rest.isEmpty=true∨∃d',gE C ops φ (orN K) J (p+1) rest (upo env o.dst d'))∧K (.panic d) ⟨[],φ.getD (p+1) []⟩:=by simpa[hE] using hm
      obtain⟨hm1,hm2⟩:=hm
      rcases hm1 with hm1|⟨d',hw⟩
      rotate_left
      ·have hpn:∀(E:Nat→List (Nat×DV)),E i=env→dM C ops φ I K E i:=fun E he=>by
        refine⟨o,d,ho,?_⟩
        rw[he,hD,←hp]
        exact⟨hg,hE,hdo,hm2⟩
       exact go (orN K) d' (fun d s h=>h.elim (fun e=>by cases e) id) (.inr hpn) (by rw[if_pos hE];exact hw) fun E ds he hd=>.inr (hpn E he)
      have hrest:rest=[]:=by simpa using hm1
      rw[hrest] at hr
      have hsz:ops.size≤i+1:=by
       have:=congrArg Cr hr
       simp at this
       omega
      have hpan:dM C ops φ I K (fun k=>if k≤i then env else upo env o.dst .undef) i:=by
       refine⟨o,d,ho,?_⟩
       simp only[AU,if_true,hD,←hp]
       exact⟨hg,hE,hdo,hm2⟩
      refine⟨fun k=>if k≤i then env else upo env o.dst .undef,fun _=>.undef,if_pos (AU _),fun k a b=>?_,.inr ⟨i,AU _,hlt,hpan⟩⟩
      obtain rfl:k=i:=by omega
      refine⟨?_,.inr hpan⟩
      dsimp only
      rw[if_neg (by omega),if_pos (AU _),hda]
    ·rename_i hE
     obtain⟨d,hdo,hm⟩:=h
     refine go K d (fun _ _ h=>h) (.inl rfl) (by rw[if_neg hE];exact hm) fun E ds he hd=>.inl ⟨o,ho,.inr (.inr ?_)⟩
     rw[he,hd,hD]
     exact⟨hg,by simpa using hE,hdo⟩
   ·exact h.elim
theorem eD{md:Region.Mode}{ops:Array Oper}{listed:Array Bool}{i:Nat}:i∈Region.ready md ops listed↔i<ops.size∧listed.getD i true=false∧∃o,ops[i]?=some o∧∀e∈o.after.toList,Region.binds md e=true→listed.getD e.on false=true:=by
 unfold Region.ready
 rw[CA,Cw]
 refine and_congr_right fun hi=>?_
 rw[BG hi]
 simp only[AW,A8,BF,Cy,AX.injEq,exists_eq_left']
 refine and_congr_right fun _=>?_
 rw[Array.all_eq_true']
 simp only[DB,Cs,Cy]
 refine forall_congr' fun e=>forall_congr' fun _=>?_
 cases Region.binds md e<;>simp
def cnt (f:Nat→Bool):Nat→Nat
 |0=>0
 |n+1=>cnt f n+if f n=true then 0 else 1
theorem nf{f:Nat→Bool}:∀n,cnt f n=0→∀i,i<n→f i=true
 |0,_,i,hi=>by omega
 |n+1,h,i,hi=>by
  simp only[cnt] at h
  rcases Bp i n with hn|hn
  ·exact nf n (by omega) i hn
  ·obtain rfl:i=n:=by omega
   by_cases hf:f i=true
   ·exact hf
   ·rw[if_neg hf] at h
    omega
theorem pE{f:Nat→Bool}{i:Nat} (hf:f i=false):∀n,cnt (fun j=>decide (j=i)||f j) n+(if i<n then 1 else 0)=cnt f n
 |0=>by simp[cnt]
 |n+1=>by
  have:=pE hf n
  simp only[cnt]
  by_cases hn:n=i
  ·subst hn
   simp[hf] at this⊢
   exact this
  ·have h1:(i<n+1)=(i<n):=propext (by omega)
   simp only[hn,decide_false,Dx,h1]
   omega
theorem pF{f:Nat→Bool}:∀n,cnt f n≤n
 |0=>AU _
 |n+1=>by
  have:= @pF f n
  simp only[cnt]
  split<;>omega
theorem nl{env e:List (Nat×DV)}:∀{l:List Nat},(∀t∈l,lk env t=lk e t)→aC env (rst e l)
 | [],_=>trivial
 |_::r,h=>⟨h _ (by simp),nl fun t ht=>h t (by simp[ht])⟩
theorem fR{l:Array Bool}{i:Nat} (h:i<l.size) (a b:Bool):l.getD i a=l.getD i b:=by
 simp[A0,BG h]
theorem rn{C:Ctx}{ops:Array Oper}{φ:List (List Ob)}{I:List DI}{K:XE→St→Prop}{E:Nat→List (Nat×DV)}{ds:Nat→DV}
  (hB:t5 ops I C.n ops.size=true)
  (hE:∀k,k<ops.size→E (k+1)=upo (E k) (aP ops k) (ds k)∧(qW C ops φ I E ds k∨dM C ops φ I K E k))
  (hK:K .normal ⟨E ops.size,φ.getD (aM I (fun _=>true) ops.size) []⟩∨∃k,k<ops.size∧dM C ops φ I K E k):
  ∀(fuel:Nat) (listed:Array Bool) (a:Act) (w:World),listed.size=ops.size→
   (∀i,i<ops.size→listed.getD i false=true→(∀j∈(I.getD i .none).pre,listed.getD j false=true)∧¬ dM C ops φ I K E i)→
   cnt (fun i=>listed.getD i false) ops.size≤fuel→
   (∃env,Rel C ⟨env,φ.getD (aM I (fun i=>listed.getD i false) ops.size) []⟩ a w∧∀t,lk env t=vAt ops (E 0) ds (fun i=>listed.getD i false) ops.size t)→
   wpAnyIn C.fe 0 C.P .any ops (iM C K) fuel listed a w:=by
 simp only[t5,w9,decide_true,Dd,AS,Cw,BF] at hB
 have hdirs:∀i,i<ops.size→∀j∈fA ops i,j<i:=fun i hi j hj=>by
  have:=(hB i hi).1.1.1
  simp only[sr,BF,AS,decide_eq_true_eq] at this
  exact this.1 j hj
 have hpre:∀i,i<ops.size→∀j∈(I.getD i .none).pre,j∈fA ops i∨∃k∈fA ops i,j∈(I.getD k .none).pre:=fun i hi j hj=>by
  have:=(hB i hi).1.1.1
  simp only[sr,BF,AS,decide_eq_true_eq,Cs,List.any_eq_true,BB] at this
  exact(this.2 j hj).2
 have hpair:∀i j,j<i→i<ops.size→(fj (aP ops j) (I.getD i .none).rd=true∨fj (aP ops i) (I.getD j .none).rd=true∨ec (aP ops j) (aP ops i)=true∨((I.getD i .none).eff=true∧(I.getD j .none).eff=true))→j∈(I.getD i .none).pre:=fun i j hj hi h=>by
  have:=(hB i hi).2 j hj
  simp only[zf,Cs,Cy,Bool.or_eq_false_iff,Bool.and_eq_false_iff,BB] at this
  rcases this with⟨⟨⟨h1,h2⟩,h3⟩,h4⟩|h
  ·rcases h with h|h|h|⟨h,h'⟩
   ·rw[h1] at h;cases h
   ·rw[h2] at h;cases h
   ·rw[h3] at h;cases h
   ·rcases h4 with h4|h4
    ·rw[h4] at h;cases h
    ·rw[h4] at h';cases h'
  ·exact h
 have hdst:∀i,i<ops.size→∀t,aP ops i=some t→t<C.n:=fun i hi t ht=>by
  have:=(hB i hi).1.2
  simp only[yT,ht,decide_eq_true_eq] at this
  exact this
 have post:∀(listed:Array Bool) (a:Act) (w:World),
   (∀i,i<ops.size→listed.getD i false=true→(∀j∈(I.getD i .none).pre,listed.getD j false=true)∧¬ dM C ops φ I K E i)→
   (∃env,Rel C ⟨env,φ.getD (aM I (fun i=>listed.getD i false) ops.size) []⟩ a w∧∀t,lk env t=vAt ops (E 0) ds (fun i=>listed.getD i false) ops.size t)→
   (∀i,i<ops.size→listed.getD i false=true)→iM C K .normal a w:=by
  intro listed a w hinv ⟨env,hrel,henv⟩ hall
  rcases hK with hK|⟨k,hk,hp⟩
  ·refine⟨_,hK,hrel.weak ⟨?_,fun t=>.inr ?_⟩⟩
   ·dsimp only
    rw[jl (f:=fun i=>listed.getD i false) (g:=fun _=>true) _ fun j hj _=>hall j hj]
   ·dsimp only
    rw[henv t,ew (g:=fun _=>true) _ fun j hj _=>hall j hj]
    exact(jN rfl _ (fun k hk=>(hE k hk).1) t).symm
  ·exact absurd hp (hinv k hk (hall k hk)).2
 intro fuel
 induction fuel with
 |zero=>
  intro listed a w hs hinv hc hrel
  have hall:=nf ops.size (by omega:cnt (fun i=>listed.getD i false) ops.size=0)
  refine⟨Dv.2 fun i hi=>?_,post listed a w hinv hrel hall⟩
  obtain⟨h1,h2,_⟩:=eD.1 hi
  have:=hall i h1
  rw[fR (by omega) true false] at h2
  rw[h2] at this
  cases this
 |succ fuel ih=>
  intro listed a w hs hinv hc hrel
  refine⟨fun hr=>post listed a w hinv hrel ?_,fun i hi=>?_⟩
  ·intro i
   induction i using Dh with
   |_ i ihi=>
    intro hlt
    cases hf:listed.getD i false with
    |true=>rfl
    |false=>
     have hmem:i∈Region.ready .any ops listed:=by
      refine eD.2 ⟨hlt,by rw[fR (by omega) true false];exact hf,ops[i],BG hlt,fun e he hb=>?_⟩
      have hd:e.on∈fA ops i:=by
       simp only[fA,fc,BG hlt]
       exact Ba.2 ⟨e,CA.2 ⟨he,hb⟩,rfl⟩
      exact ihi e.on (hdirs i hlt _ hd) (DS (hdirs i hlt _ hd) hlt)
     rw[hr] at hmem
     cases hmem
  ·obtain⟨hlt,hl,o,ho,haft⟩:=eD.1 hi
   rw[fR (by omega) true false] at hl
   obtain⟨env,⟨F,μ,hr⟩,henv⟩:=hrel
   have hdl:∀j∈fA ops i,listed.getD j false=true:=by
    intro j hj
    simp only[fA,fc,ho] at hj
    obtain⟨e,he,rfl⟩:=Ba.1 hj
    obtain⟨he,hb⟩:=CA.1 he
    exact haft e he hb
   have hpl:∀j∈(I.getD i .none).pre,listed.getD j false=true:=by
    intro j hj
    rcases hpre i hlt j hj with h|⟨k,hk,h⟩
    ·exact hdl j h
    ·exact(hinv k (DS (hdirs i hlt k hk) hlt) (hdl k hk)).1 j h
   have hlate:∀j,j<ops.size→i∈(I.getD j .none).pre→listed.getD j false=false:=by
    intro j hj hm
    cases hf:listed.getD j false with
    |false=>rfl
    |true=>
     have:=(hinv j hj hf).1 i hm
     rw[hl] at this
     cases this
   have hda:aP ops i=o.dst:=by simp[aP,ho]
   have hrd:∀t∈(I.getD i .none).rd,lk env t=lk (E i) t:=by
    intro t ht
    rw[henv t,jM (i:=i) _ (by omega),ew (g:=fun _=>true),jN rfl _ fun k hk=>(hE k (by omega)).1]
    ·intro j hj hd
     exact hpl j (hpair i j hj hlt (.inl (by simp only[fj,hd];exact BB.2 ht)))
    ·intro j hj hj' hd
     rcases Cu hj with rfl|hj
     ·exact hl
     ·exact hlate j hj' (hpair j i hj hj' (.inr (.inl (by simp only[fj,hd];exact BB.2 ht))))
   have hw:Weak ⟨env,φ.getD (aM I (fun i=>listed.getD i false) ops.size) []⟩ ⟨rst (E i) (I.getD i .none).rd,φ.getD (aM I (fun i=>listed.getD i false) ops.size) []⟩:=
    Weak.of_agree rfl (nl hrd)
   have hr2:=hr.weak hw
   have heff:(I.getD i .none).eff=true→aM I (fun i=>listed.getD i false) ops.size=aM I (fun _=>true) i:=by
    intro he
    refine lJ _ (by omega) (fun j hj hej=>hpl j (hpair i j hj hlt (.inr (.inr (.inr ⟨he,hej⟩))))) fun j hj hj' hej=>?_
    rcases Cu hj with rfl|hj
    ·exact hl
    ·exact hlate j hj' (hpair j i hj hj' (.inr (.inr (.inr ⟨hej,he⟩))))
   have hd0:∀t,o.dst=some t→t<C.n:=fun t ht=>hdst i hlt t (hda.trans ht)
   have hget:(fun k=>(listed.setIfInBounds i true).getD k false)=fun k=>decide (k=i)||listed.getD k false:=by
    funext k
    simp only[A0,Bu]
    by_cases hk:i=k
    ·subst hk
     simp[hs,hlt]
    ·simp[hk,show ¬ k=i from fun e=>hk e.symm]
   have next:∀(v:Value) (w':World),¬ dM C ops φ I K E i→
     Rel C ⟨upo env o.dst (ds i),φ.getD (aM I (fun k=>decide (k=i)||listed.getD k false) ops.size) []⟩ (a.put o.dst v) w'→wpAnyIn C.fe 0 C.P .any ops (iM C K) fuel (listed.setIfInBounds i true) (a.put o.dst v) w':=by
    intro v w' hnp hrel'
    refine ih _ _ _ (by simp[hs]) ?_ ?_ ⟨upo env o.dst (ds i),by rw[hget];exact hrel',fun t=>?_⟩
    ·intro k hk hf
     have e:∀k,(listed.setIfInBounds i true).getD k false=(decide (k=i)||listed.getD k false):=fun k=>congrFun hget k
     rw[e] at hf
     have hor:k=i∨listed.getD k false=true:=by simpa using hf
     rcases hor with rfl|hf
     ·exact⟨fun j hj=>by rw[e,hpl j hj];simp,hnp⟩
     ·exact⟨fun j hj=>by rw[e,(hinv k hk hf).1 j hj];simp,(hinv k hk hf).2⟩
    ·rw[hget]
     have:=pE (f:=fun k=>listed.getD k false) hl ops.size
     rw[if_pos hlt] at this
     omega
    ·rw[hget,oK _ hlt (fun j hj hj' hd hd'=>hlate j hj' (hpair j i hj hj' (.inr (.inr (.inl (by simp only[ec,hd',hd];exact beq_self_eq_true _)))))),g9,hda,henv t]
   simp only[wpOpIn,ho]
   by_cases hpan:dM C ops φ I K E i
   ·obtain⟨o',d,ho',hg,he,hdo,hk⟩:=hpan
    obtain rfl:o=o':=AX.inj (ho.symm.trans ho')
    rw[if_pos (aK hr2 hg)]
    rw[heff he] at hr2
    refine(hdo C.rd a w F μ _ _ hr2.hr (bb hr2) fun v w' F' μ' haf hrep=>?_)
    exact⟨⟨[],_⟩,d,v,F',μ',hk,rfl,⟨haf.hr,fun _=>.undef,hr2.step.trans haf.step,hr2.fr.trans haf.fr,
     fun c b hb=>(haf.col c b hb).elim (hr2.col c b) (fun q=>.inr (Bl hr2.fr.size q)),hr2.size,hr2.defers.step haf.step⟩,hrep⟩
   ·have hret:=(hE i hlt).2.resolve_right hpan
    obtain⟨o',ho',hret⟩:=hret
    obtain rfl:o=o':=AX.inj (ho.symm.trans ho')
    rcases hret with⟨hg,hd,he⟩|⟨hg,he,hdo⟩|⟨hg,he,hdo⟩
    ·rw[if_neg (by rw[aK hr2 hg];simp)]
     refine⟨fun _ _=>trivial,?_⟩
     refine next _ _ hpan ?_
     have ho:φ.getD (aM I (fun k=>decide (k=i)||listed.getD k false) ops.size) []=φ.getD (aM I (fun i=>listed.getD i false) ops.size) []:=by
      rw[c9 hl]
      cases hq:(I.getD i .none).eff with
      |false=>simp
      |true=>rw[if_pos ⟨rfl,hlt⟩,heff hq];exact he hq
     rw[ho,hd]
     exact⟨F,μ,hr.hr,cg (C:=C) (st:=⟨env,_⟩) hr.size hr.env o.dst hd0 .skip,hr.step,hr.fr,hr.col,by rw[bG];exact hr.size,by rw[a8];exact hr.defers⟩
    ·rw[if_pos (aK hr2 hg)]
     rw[heff he] at hr2 hr
     refine(hdo C.rd a w F μ _ _ hr2.hr (bb hr2) fun v w' F' μ' haf hrep=>next _ _ hpan ?_)
     rw[c9 hl,if_pos ⟨he,hlt⟩,heff he]
     exact⟨F',μ',haf.hr,cg (C:=C) (st:=⟨env,φ.getD (aM I (fun _=>true) i) []⟩) hr.size (fun t=>(hr.env t).step haf.step) o.dst hd0 hrep,hr.step.trans haf.step,hr.fr.trans haf.fr,
      fun c b hb=>(haf.col c b hb).elim (hr.col c b) (fun q=>.inr (Bl hr.fr.size q)),by rw[bG];exact hr.size,by rw[a8];exact hr.defers.step haf.step⟩
    ·rw[if_pos (aK hr2 hg)]
     have hph:aM I (fun i=>listed.getD i false) ops.size∈(I.getD i .none).ph:=by
      have:=(hB i hlt).1.1.2
      simp only[phB,he,Dx,AS,Cw,Cs,decide_eq_true_eq,BB] at this
      rcases this (aM I (fun i=>listed.getD i false) ops.size) (by have:=pb (I:=I) (f:=fun i=>listed.getD i false) ops.size;omega) with(h|h)|h
      ·refine absurd h (Du.2 (dy _ fun j hj _ hc=>hpl j (BB.1 hc)))
      ·refine absurd h (Du.2 (dy _ fun j hj _ hc=>?_))
       cases hq:(I.getD j .none).pre.contains i with
       |false=>rfl
       |true=>
        rw[hlate j hj (BB.1 hq)] at hc
        cases hc
      ·exact h
     refine(hdo _ hph C.rd a w F μ _ _ hr2.hr (bb hr2) fun v w' F' μ' haf hrep=>next _ _ hpan ?_)
     rw[c9 hl,if_neg (fun h=>by rw[he] at h;cases h.1),Bt]
     exact⟨F',μ',haf.hr,cg (C:=C) (st:=⟨env,_⟩) hr.size (fun t=>(hr.env t).step haf.step) o.dst hd0 hrep,hr.step.trans haf.step,hr.fr.trans haf.fr,
      fun c b hb=>(haf.col c b hb).elim (hr.col c b) (fun q=>.inr (Bl hr.fr.size q)),by rw[bG];exact hr.size,by rw[a8];exact hr.defers.step haf.step⟩
end
theorem aa.callx{C:Ctx}{P:Program}{ops:Array Oper}{rest:List Oper}{o:Oper}{st:St}{K:XE→St→Prop}{g:Operand}{xs:Array Operand}{ts:Array TypeId}{f:FuncId}{args caps:List DV}{d:DV}{σ':List Ob}
  (hP:C.P=P) (hd:cm C.n [o]=true) (hok:Ok P f args st.ob (.ret d) σ') (hg:gd ops st.env o=some true) (ho:o.op=.call {callee:=.value g,args:=xs,argTypes:=ts}) (hf:ev st.env g=.fn f caps)
  (ha:xs.toList.map (ev st.env)++caps=args) (h:aa C ops rest ⟨upo st.env o.dst d,σ'⟩ K):aa C ops (o::rest) st K:=by
 subst hP;subst ha
 refine aa.call hg (fun t ht=>?_) ho hf hok h
 simp only[cm,Cv,ht,Do,Dc,decide_eq_true_eq] at hd
 exact hd
theorem aa.callp{C:Ctx}{P:Program}{ops:Array Oper}{rest:List Oper}{o:Oper}{st:St}{K:XE→St→Prop}{g:Operand}{xs:Array Operand}{ts:Array TypeId}{f:FuncId}{args caps:List DV}{d:DV}{σ':List Ob}
  (hP:C.P=P) (hd:cm C.n [o]=true) (hok:Ok P f args st.ob (.pan d) σ') (hg:gd ops st.env o=some true) (ho:o.op=.call {callee:=.value g,args:=xs,argTypes:=ts}) (hf:ev st.env g=.fn f caps)
  (ha:xs.toList.map (ev st.env)++caps=args) (h:K (.panic d) ⟨st.env,σ'⟩):aa C ops (o::rest) st K:=by
 subst hP;subst ha
 refine aa.call hg (fun t ht=>?_) ho hf hok h
 simp only[cm,Cv,ht,Do,Dc,decide_eq_true_eq] at hd
 exact hd
def o7 (L:Lay) (φ:List (List Ob)) (env:List (Nat×DV)) (op:Op) (next:DV→Prop) (other:Prop):List Nat→Prop
 | []=>False
 |q::qs=>match sop L ⟨env,φ.getD q []⟩ op with
  |some (d,ob')=>ob'=φ.getD q []∧(∀r∈qs,sop L ⟨env,φ.getD r []⟩ op=some (d,φ.getD r []))∧next d
  |none=>other
def aI (C:Ctx) (φ:List (List Ob)) (D:DI) (p:Nat) (o:Oper) (env:List (Nat×DV)) (last:Bool) (K:XE→St→Prop) (next:(XE→St→Prop)→DV→Prop):Prop:=
 if D.eff=true then ∃out,bK C.P o ⟨env,φ.getD p []⟩ out (φ.getD (p+1) [])∧match out with
   |.ret d=>next K d
   |.pan d=>(last=true∨∃d',next (orN K) d')∧K (.panic d) ⟨[],φ.getD (p+1) []⟩
  else ∃d,(∀q∈D.ph,bK C.P o ⟨env,φ.getD q []⟩ (.ret d) (φ.getD q []))∧next K d
def dgo (C:Ctx) (L:Lay) (ops:Array Oper) (φ:List (List Ob)):(XE→St→Prop)→List DI→Nat→List Oper→List (Nat×DV)→Prop
 |K,_,p,[],env=>K .normal ⟨env,φ.getD p []⟩
 |_,[],_,_::_,_=>False
 |K,D::I,p,o::rest,env=>match gd ops (rst env D.rd) o with
  |some false=>(D.eff=true→φ.getD (p+1) []=φ.getD p [])∧dgo C L ops φ K I (if D.eff then p+1 else p) rest (upo env o.dst .skip)
  |some true=>if Op.plain o.op=true then
    if D.eff=true then match sop L ⟨rst env D.rd,φ.getD p []⟩ o.op with
     |some (d,ob')=>ob'=φ.getD (p+1) []∧dgo C L ops φ K I (p+1) rest (upo env o.dst d)
     |none=>aI C φ D p o (rst env D.rd) rest.isEmpty K fun K d=>dgo C L ops φ K I (if D.eff then p+1 else p) rest (upo env o.dst d)
    else o7 L φ (rst env D.rd) o.op (fun d=>dgo C L ops φ K I p rest (upo env o.dst d)) (aI C φ D p o (rst env D.rd) rest.isEmpty K fun K d=>dgo C L ops φ K I (if D.eff then p+1 else p) rest (upo env o.dst d)) D.ph
   else aI C φ D p o (rst env D.rd) rest.isEmpty K fun K d=>dgo C L ops φ K I (if D.eff then p+1 else p) rest (upo env o.dst d)
  |none=>False
def DX (C:Ctx) (L:Lay) (ops:Array Oper) (φ:List (List Ob)) (K:XE→St→Prop) (I:List DI) (p:Nat) (rest:List Oper) (env:List (Nat×DV)) (dst:Option Tmp) (d:DV):Prop:=dgo C L ops φ K I p rest (upo env dst d)
theorem aj{C:Ctx}{L:Lay}{ops:Array Oper}{φ:List (List Ob)}{K:XE→St→Prop}{p:Nat}{env:List (Nat×DV)}:dgo C L ops φ K [] p [] env=K .normal ⟨env,φ.getD p []⟩:=propext Iff.rfl
theorem ah{C:Ctx}{L:Lay}{ops:Array Oper}{φ:List (List Ob)}{K:XE→St→Prop}{D:DI}{I:List DI}{p:Nat}{o:Oper}{rest:List Oper}{env:List (Nat×DV)}:
 dgo C L ops φ K (D::I) p (o::rest) env=match gd ops (rst env D.rd) o with
 |some false=>(D.eff=true→φ.getD (p+1) []=φ.getD p [])∧DX C L ops φ K I (if D.eff then p+1 else p) rest env o.dst .skip
 |some true=>if Op.plain o.op=true then
   if D.eff=true then match sop L ⟨rst env D.rd,φ.getD p []⟩ o.op with
    |some (d,ob')=>ob'=φ.getD (p+1) []∧DX C L ops φ K I (p+1) rest env o.dst d
    |none=>aI C φ D p o (rst env D.rd) rest.isEmpty K (fun K=>DX C L ops φ K I (if D.eff then p+1 else p) rest env o.dst)
   else o7 L φ (rst env D.rd) o.op (DX C L ops φ K I p rest env o.dst) (aI C φ D p o (rst env D.rd) rest.isEmpty K (fun K=>DX C L ops φ K I (if D.eff then p+1 else p) rest env o.dst)) D.ph
  else aI C φ D p o (rst env D.rd) rest.isEmpty K (fun K=>DX C L ops φ K I (if D.eff then p+1 else p) rest env o.dst)
 |none=>False:=propext Iff.rfl
theorem lC{C:Ctx}{L:Lay}{ops:Array Oper}{φ:List (List Ob)}{K:XE→St→Prop}{I:List DI}{p:Nat}{rest:List Oper}{env:List (Nat×DV)}{dst:Option Tmp}{d:DV}:
 DX C L ops φ K I p rest env dst d=dgo C L ops φ K I p rest (upo env dst d):=propext Iff.rfl
theorem qu{L:Lay}{φ:List (List Ob)}{env:List (Nat×DV)}{op:Op}{next:DV→Prop}{other:Prop}{q:Nat}{qs:List Nat}:
 o7 L φ env op next other (q::qs)=match sop L ⟨env,φ.getD q []⟩ op with
 |some (d,ob')=>ob'=φ.getD q []∧(∀r∈qs,sop L ⟨env,φ.getD r []⟩ op=some (d,φ.getD r []))∧next d
 |none=>other:=propext Iff.rfl
theorem aI.effx{C:Ctx}{P:Program}{φ:List (List Ob)}{D:DI}{p:Nat}{o:Oper}{env:List (Nat×DV)}{last:Bool}{K:XE→St→Prop}{next:(XE→St→Prop)→DV→Prop}{g:Operand}{xs:Array Operand}{ts:Array TypeId}{f:FuncId}{args caps:List DV}{d:DV}
  (hP:C.P=P) (hok:Ok P f args (φ.getD p []) (.ret d) (φ.getD (p+1) [])) (he:D.eff=true) (ho:o.op=.call {callee:=.value g,args:=xs,argTypes:=ts}) (hf:ev env g=.fn f caps)
  (ha:xs.toList.map (ev env)++caps=args) (h:next K d):aI C φ D p o env last K next:=by
 unfold aI
 rw[if_pos he]
 subst hP;subst ha
 exact⟨.ret d,bK.call ho hf hok,h⟩
theorem aI.panx{C:Ctx}{P:Program}{φ:List (List Ob)}{D:DI}{p:Nat}{o:Oper}{env:List (Nat×DV)}{last:Bool}{K:XE→St→Prop}{next:(XE→St→Prop)→DV→Prop}{g:Operand}{xs:Array Operand}{ts:Array TypeId}{f:FuncId}{args caps:List DV}{d:DV}
  (hP:C.P=P) (hok:Ok P f args (φ.getD p []) (.pan d) (φ.getD (p+1) [])) (he:D.eff=true) (ho:o.op=.call {callee:=.value g,args:=xs,argTypes:=ts}) (hf:ev env g=.fn f caps)
  (ha:xs.toList.map (ev env)++caps=args) (hl:last=true) (h:K (.panic d) ⟨[],φ.getD (p+1) []⟩):aI C φ D p o env last K next:=by
 unfold aI
 rw[if_pos he]
 subst hP;subst ha
 exact⟨.pan d,bK.call ho hf hok,.inl hl,h⟩
theorem aI.panm{C:Ctx}{P:Program}{φ:List (List Ob)}{D:DI}{p:Nat}{o:Oper}{env:List (Nat×DV)}{last:Bool}{K:XE→St→Prop}{next:(XE→St→Prop)→DV→Prop}{g:Operand}{xs:Array Operand}{ts:Array TypeId}{f:FuncId}{args caps:List DV}{d:DV} (d':DV)
  (hP:C.P=P) (hok:Ok P f args (φ.getD p []) (.pan d) (φ.getD (p+1) [])) (he:D.eff=true) (ho:o.op=.call {callee:=.value g,args:=xs,argTypes:=ts}) (hf:ev env g=.fn f caps)
  (ha:xs.toList.map (ev env)++caps=args) (h:K (.panic d) ⟨[],φ.getD (p+1) []⟩) (hx:next (orN K) d'):aI C φ D p o env last K next:=by
 unfold aI
 rw[if_pos he]
 subst hP;subst ha
 exact⟨.pan d,bK.call ho hf hok,.inr ⟨d',hx⟩,h⟩
theorem aI.pure{C:Ctx}{P:Program}{φ:List (List Ob)}{D:DI}{p:Nat}{o:Oper}{env:List (Nat×DV)}{last:Bool}{K:XE→St→Prop}{next:(XE→St→Prop)→DV→Prop}{g:Operand}{xs:Array Operand}{ts:Array TypeId}{f:FuncId}{args caps:List DV}{d:DV}
  (hP:C.P=P) (hok:∀q∈D.ph,Ok P f args (φ.getD q []) (.ret d) (φ.getD q [])) (he:D.eff=false) (ho:o.op=.call {callee:=.value g,args:=xs,argTypes:=ts}) (hf:ev env g=.fn f caps)
  (ha:xs.toList.map (ev env)++caps=args) (h:next K d):aI C φ D p o env last K next:=by
 unfold aI
 rw[if_neg (by rw[he];simp)]
 subst hP;subst ha
 exact⟨d,fun q hq=>bK.call ho hf (hok q hq),h⟩
theorem rq{C:Ctx}{L:Lay} (hL:af C.P L){ops:Array Oper}{φ:List (List Ob)}:∀(I:List DI) (p:Nat) (l:List Oper) (env:List (Nat×DV)){K:XE→St→Prop},dgo C L ops φ K I p l env→gE C ops φ K I p l env:=by
 intro I
 induction I with
 |nil=>intro p l env K h;cases l<;>exact h
 |cons D I ih=>
  intro p l env K h
  cases l with
  |nil=>exact h
  |cons o rest=>
   simp only[dgo] at h
   simp only[gE,dop]
   cases hg:gd ops (rst env D.rd) o with
   |none=>rw[hg] at h;exact h.elim
   |some b=>
   rw[hg] at h
   cases b with
   |false=>exact⟨h.1,ih _ _ _ h.2⟩
   |true=>
    dsimp only at h⊢
    have call:∀p',p'=(if D.eff=true then p+1 else p)→aI C φ D p o (rst env D.rd) rest.isEmpty K (fun K d=>dgo C L ops φ K I p' rest (upo env o.dst d))→
      if D.eff=true then ∃out,bK C.P o ⟨rst env D.rd,φ.getD p []⟩ out (φ.getD (p+1) [])∧match out with
       |.ret d=>gE C ops φ K I (if D.eff=true then p+1 else p) rest (upo env o.dst d)
       |.pan d=>(rest.isEmpty=true∨∃d',gE C ops φ (orN K) I (if D.eff=true then p+1 else p) rest (upo env o.dst d'))∧K (.panic d) ⟨[],φ.getD (p+1) []⟩
      else ∃d,(∀q∈D.ph,bK C.P o ⟨rst env D.rd,φ.getD q []⟩ (.ret d) (φ.getD q []))∧gE C ops φ K I (if D.eff=true then p+1 else p) rest (upo env o.dst d):=by
     rintro p' rfl h
     unfold aI at h
     by_cases he:D.eff=true
     ·rw[if_pos he] at h
      rw[if_pos he]
      obtain⟨out,h1,h2⟩:=h
      refine⟨out,h1,?_⟩
      cases out with
      |ret d=>exact ih _ _ _ h2
      |pan d=>exact⟨h2.1.imp id fun⟨d',h3⟩=>⟨d',ih _ _ _ h3⟩,h2.2⟩
     ·rw[if_neg he] at h
      rw[if_neg he]
      obtain⟨d,h1,h2⟩:=h
      exact⟨d,h1,ih _ _ _ h2⟩
    split at h
    ·split at h
     ·rename_i he
      split at h
      ·rename_i hs
       obtain⟨rfl,h⟩:=h
       rw[if_pos he]
       exact⟨.ret _,bK.op hL hs,ih _ _ _ (by rw[if_pos he];exact h)⟩
      ·exact call _ (by rw[if_pos he]) h
     ·rename_i he
      unfold o7 at h
      split at h
      ·exact h.elim
      ·rename_i q qs hq
       split at h
       ·rename_i d ob' hs
        obtain⟨rfl,h2,h3⟩:=h
        rw[if_neg he]
        refine⟨d,fun r hr=>?_,ih _ _ _ (by rw[if_neg he];exact h3)⟩
        rw[hq] at hr
        rcases Bh.1 hr with rfl|hr
        ·exact bK.op hL hs
        ·exact bK.op hL (h2 r hr)
       ·exact call _ (by rw[if_neg he]) h
    ·exact call _ rfl h
theorem SW.draw{C:Ctx}{L:Lay} (hL:af C.P L) (hm:C.P.follows .mixedOrders=true){id:Nat}{l:List Oper}{st:St}{K:XE→St→Prop} (I:List DI) (φ:List (List Ob)) (hφ:φ.getD 0 []=st.ob)
  (hA:l.map (fun o=>(o.dst,fc o))=I.map fun D:DI=>(D.dst,D.dir)) (hF:m8 I C.n=true) (h:dgo C L l.toArray φ K I 0 l st.env):SW C (.region id l.toArray true) st K:=by
 intro a w hr
 have hB:=rp hA hF
 refine wpIn_region_any hm ?_
 obtain⟨E,ds,h0,h1,h2⟩:=ox (I:=I) l 0 st.env I 0 (BD _) rfl rfl rfl (rq hL _ _ _ _ h)
 have hf:(fun i=>(BI l.toArray.size false).getD i false)=fun _=>false:=by
  funext i
  rw[A0]
  rw[De]
  split<;>rfl
 have hn:∀n,aM I (fun _=>false) n=0:=by
  intro n
  induction n with
  |zero=>rfl
  |succ n ih=>simp[aM,ih]
 have hv:∀n t,vAt l.toArray (E 0) ds (fun _=>false) n t=lk (E 0) t:=by
  intro n t
  induction n with
  |zero=>rfl
  |succ n ih=>simp[vAt,ih]
 refine rn (I:=I) (φ:=φ) (E:=E) (ds:=ds) hB (fun k hk=>h1 k (BD _) hk) (h2.imp (fun h=>h) fun⟨k,_,a,b⟩=>⟨k,a,b⟩) _ _ a _ (by simp) ?_ ?_ ⟨st.env,?_,fun t=>?_⟩
 ·intro i hi hl
  rw[show(BI l.toArray.size false).getD i false=false from congrFun hf i] at hl
  cases hl
 ·rw[hf]
  exact pF _
 ·rw[hf,hn,hφ]
  exact Rel.drew hr _ (DN _)
 ·rw[hf,hv,h0]
theorem SW.dr{C:Ctx}{L:Lay} (hL:af C.P L) (hm:C.P.follows .mixedOrders=true){id:Nat}{l:List Oper}{st:St}{K:XE→St→Prop}{y:Code} (I:List DI) (φ:List (List Ob)) (hφ:φ.getD 0 []=st.ob)
 (hA:l.map (fun o=>(o.dst,fc o))=I.map fun D:DI=>(D.dst,D.dir)) (hF:m8 I C.n=true) (h:dgo C L l.toArray φ (ap C y K) I 0 l st.env):SW C (.seq (.region id l.toArray true) y) st K:=SW.seq (SW.draw hL hm I φ hφ hA hF h)
theorem wi{x y:Int} (h: -9223372036854775808≤x∧x≤9223372036854775807) (e:x=y):IntKind.i64.wrap x=y:=e▸IntWalk.i64_in x h
theorem wu{x y:Int} (h:0≤x∧x≤18446744073709551615) (e:x=y):IntKind.u64.wrap x=y:=e▸IntWalk.u64_in x h
section
section
variable{id:Nat}
theorem fa (l:List DV):(∀N r,fzL id N r l=l)↔∀x∈l,bj id x:=by
 induction l with
 |nil=>simp[fzL]
 |cons a l ih=>
  simp only[fzL,List.cons.injEq,Bh,forall_eq_or_imp]
  rw[←ih]
  exact⟨fun h=>⟨fun N r=>(h N r).1,fun N r=>(h N r).2⟩,fun h N r=>⟨h.1 N r,h.2 N r⟩⟩
theorem mN (k:IntKind) (n:Int):bj id (.int k n)↔True:=⟨fun _=>trivial,fun _ _ _=>by simp[fz]⟩
theorem uS (b:Bool):bj id (.bool b)↔True:=⟨fun _=>trivial,fun _ _ _=>by simp[fz]⟩
theorem uQ:bj id .nils↔True:=⟨fun _=>trivial,fun _ _ _=>by simp[fz]⟩
theorem uR:bj id .nilp↔True:=⟨fun _=>trivial,fun _ _ _=>by simp[fz]⟩
theorem qE (c k:Nat) (xs:List DV):bj id (.vec c k xs)↔∀x∈xs,bj id x:=by
 rw[←fa];simp[bj,fz]
theorem eY (xs:List DV):bj id (.agg xs)↔∀x∈xs,bj id x:=by
 rw[←fa];simp[bj,fz]
theorem qF (xs:List DV):bj id (.tup xs)↔∀x∈xs,bj id x:=by
 rw[←fa];simp[bj,fz]
theorem tM (f:FuncId) (xs:List DV):bj id (.fn f xs)↔∀x∈xs,bj id x:=by
 rw[←fa];simp[bj,fz]
theorem od (c:Nat) (xs:List DV):bj id (.vptr c xs)↔∀x∈xs,bj id x:=by
 rw[←fa];simp[bj,fz]
theorem mO (t:Nat) (x:DV):bj id (.iface t x)↔bj id x:=by
 simp[bj,fz]
theorem wA (i g j o:Nat) (h:i≠id):bj id (.ptr i g j o):=fun _ _=>by simp[fz,h]
theorem yh (i g off len:Nat) (h:i≠id):bj id (.sl i g off len):=fun _ _=>by simp[fz,h]
theorem kD (i g j o:Nat):bj id (.ptr i g j o)↔i≠id:=⟨fun h e=>by
 have:=h 0 (fun _ _=>.undef)
 simp[fz,e] at this,wA i g j o⟩
theorem qG (i g off len:Nat):bj id (.sl i g off len)↔i≠id:=⟨fun h e=>by
 have:=h g (fun _ _=>.undef)
 simp[fz,e] at this,yh i g off len⟩
theorem oe (i g off len cap:Nat):bj id (.slx i g off len cap)↔i≠id:=⟨fun h e=>by
 have:=h g (fun _ _=>.undef)
 simp[fz,e] at this,fun h _ _=>by simp[fz,h]⟩
theorem qJ (i:Nat):bj id (.it i)↔i≠id:=⟨fun h e=>by
 have:=h 0 (fun _ _=>.undef)
 simp[fz,e] at this,fun h _ _=>by simp[fz,h]⟩
theorem oc (i:Nat):bj id (.yld i)↔i≠id:=⟨fun h e=>by
 have:=h 0 (fun _ _=>.undef)
 simp[fz,e] at this,fun h _ _=>by simp[fz,h]⟩
theorem qH (i:Nat):bj id (.mp i)↔i≠id:=⟨fun h e=>by
 have:=h 0 (fun _ _=>.undef)
 simp[fz,e] at this,fun h _ _=>by simp[fz,h]⟩
end
def jE (id:Nat) (o:Ob):Prop:=∀N r,dW id N r o=o
theorem jk{id t k:Nat}{xs:List DV}:jE id (.arr t k xs)↔∀x∈xs,bj id x:=by
 unfold jE
 rw[←fa]
 simp[dW,ei]
theorem mK{id:Nat}{t:OT}{ds:List DV}:jE id (.oth t ds)↔∀x∈ds,bj id x:=by
 unfold jE
 rw[←fa]
 simp[dW,ei]
theorem qD{id:Nat}:jE id .dead↔True:=⟨fun _=>trivial,fun _ _ _=>rfl⟩
def c8 (id:Nat):List Ob→Prop
 | []=>True
 |o::r=>jE id o∧c8 id r
theorem o9{id:Nat}{σ:List Ob} (hs:∀N r,σ.map (dW id N r)=σ):∀{own:List Ob},c8 id own→∀N r,(σ++own).map (dW id N r)=σ++own:=by
 intro own h N r
 rw[B8,hs]
 congr 1
 induction own with
 |nil=>rfl
 |cons o l ih=>rw[Bf,h.1,ih h.2]
def iI (id:Nat):List (Nat×DV)→Prop
 | []=>True
 |p::r=>bj id p.2∧iI id r
theorem jt{id:Nat}:∀{l:List (Nat×DV)},iI id l→∀N r,fzE id N r l=l
 | [],_,_,_=>rfl
 |p::l,h,N,r=>by
  simp only[fzE,Bf]
  rw[h.1]
  exact congrArg _ (jt h.2 N r)
def bP (C:Ctx) (n:Nat) (I:Nat→St→Prop) (K:XE→St→Prop):XE→St→Prop
 |.normal,st=>∃m st',m<n∧ai C st st'∧I m st'
 |e,st=>K e st
section
variable{C:Ctx}{K:XE→St→Prop}{st:St}
theorem SW.post{c:Code}{K':XE→St→Prop} (h:SW C c st K) (hk:∀e st a w,K e st→Rel C st a w→∃st',K' e st'∧Rel C st' a w) (hp:∀d st,K (.panic d) st→K' (.panic d) st):SW C c st K':=by
 intro a w hr
 refine wpIn_mono (h a w hr) fun e a w q=>?_
 cases e with
 |normal=>obtain⟨st,k,r⟩:=q;exact hk _ _ _ _ k r
 |exit i=>obtain⟨st,k,r⟩:=q;exact hk _ _ _ _ k r
 |goto l=>exact q
 |ret=>obtain⟨st,k,r⟩:=q;exact hk _ _ _ _ k r
 |panic ch=>obtain⟨st,d,v,F,μ,k,r⟩:=q;exact⟨st,d,v,F,μ,hp _ _ k,r⟩
 |outgrown=>exact q
theorem SW.lpg{c:Code}{X:Type} (S:X→St) (m:X→Nat) (P:X→Prop) (x:X) (h0:P x) (hw:ai C st (S x))
  (h:∀x,P x→SW C c (S x) (bP C (m x) (Lp S m P) K)):SW C (.loop c) st K:=by
 refine SW.ghost hw (SW.lpx S m P x h0 (Weak.refl _) fun x hx=>SW.post (h x hx) (fun e st a w k r=>?_) (fun _ _ k=>k))
 cases e with
 |normal=>
  obtain⟨n,st',hn,hg,hi⟩:=k
  exact⟨st',⟨n,st',hn,Weak.refl _,hi⟩,hg a w r⟩
 |exit i=>exact⟨st,k,r⟩
 |ret=>exact⟨st,k,r⟩
 |panic d=>exact⟨st,k,r⟩
theorem Lp.nextg{X:Type}{S:X→St}{m:X→Nat}{P:X→Prop}{n:Nat}{st:St} (x:X) (hp:P x) (hm:m x<n) (hw:ai C st (S x)):
 ∃k st',k<n∧ai C st st'∧Lp S m P k st':=⟨_,_,hm,hw,x,hp,rfl,rfl⟩
end
theorem ai.of{C:Ctx}{env l:List (Nat×DV)}{ob ob':List Ob} (ho:ob'=ob) (h:aC env l):ai C ⟨env,ob⟩ ⟨l,ob'⟩:=ai.weak (Weak.of_agree ho h)
theorem ag.pop{C:Ctx}{d d':DV}{σ own:List Ob}{t k:Nat}{xs:List DV} (c:Nat) (hn:0<C.n) (hσ:C.σ0=σ) (hf:gF σ) (hd:fz (σ++own).length xs.length (ff c k xs) d=d')
  (hx:∀x∈xs,bj (σ++own).length x) (ho:c8 (σ++own).length own) (hdd:C.dd=[]:=by assumption):ag C d (σ++own++[.arr t k xs]) d' (σ++own):=by
 refine ag.of hn ((ai.pop c (by rw[hσ];simp) hx (by rw[hdd];trivial)).trans ?_)
 rw[show fzE (σ++own).length xs.length (ff c k xs) [(0,d)]=[(0,d')] by simp only[fzE,Bf,BQ,hd],o9 (fun N r=>hf _ (by simp) N r) ho]
 exact ai.refl _ _
theorem ag.pop1{C:Ctx}{d d':DV}{σ:List Ob}{t k:Nat}{xs:List DV} (c:Nat) (hn:0<C.n) (hσ:C.σ0=σ) (hf:gF σ) (hd:fz σ.length xs.length (ff c k xs) d=d')
  (hx:∀x∈xs,bj σ.length x) (hdd:C.dd=[]:=by assumption):ag C d (σ++[.arr t k xs]) d' σ:=by
 have:=ag.pop (C:=C) (σ:=σ) (own:=[]) (t:=t) (k:=k) (d:=d) (d':=d') c hn hσ hf (by simpa using hd) (by simpa using hx) trivial
 simpa using this
theorem yN{id:Nat}{d:DV} (h:bj id d) (N:Nat) (r:Nat→Nat→DV):fz id N r d=d:=h N r
end
section
theorem ak{α:Type} (σ l:List α) (k:Nat):(σ++l)[σ.length+k]?=l[k]?:=by rw[AT (by omega),Cn]
theorem aL{α:Type} (σ l:List α):(σ++l)[σ.length]?=l[0]?:=ak σ l 0
theorem ay{α:Type} (σ l:List α) (k:Nat) (a:α):(σ++l).set (σ.length+k) a=σ++l.set k a:=by rw[Cg _ _ (by omega),Cn]
theorem gV{α:Type} (σ l:List α) (a:α):(σ++l).set σ.length a=σ++l.set 0 a:=ay σ l 0 a
def Low (n:Nat) (d:DV):Prop:=∀id,n≤id→bj id d
section
variable{n:Nat}
theorem ax (k:IntKind) (m:Int):Low n (.int k m)↔True:=iff_of_true (fun _ _=>(mN _ _).2 trivial) trivial
theorem j8 (b:Bool):Low n (.bool b)↔True:=iff_of_true (fun _ _=>(uS _).2 trivial) trivial
theorem fQ:Low n .nils↔True:=iff_of_true (fun _ _=>uQ.2 trivial) trivial
theorem wE:Low n .nilp↔True:=iff_of_true (fun _ _=>uR.2 trivial) trivial
theorem g6{xs:List DV}:(∀id,n≤id→∀x∈xs,bj id x)↔∀x∈xs,Low n x:=⟨fun h x hx id hi=>h id hi x hx,fun h id hi x hx=>h x hx id hi⟩
theorem iD (c k:Nat) (xs:List DV):Low n (.vec c k xs)↔∀x∈xs,Low n x:=by
 rw[←g6];exact⟨fun h id hi=>(qE _ _ _).1 (h id hi),fun h id hi=>(qE _ _ _).2 (h id hi)⟩
theorem aH (xs:List DV):Low n (.agg xs)↔∀x∈xs,Low n x:=by
 rw[←g6];exact⟨fun h id hi=>(eY _).1 (h id hi),fun h id hi=>(eY _).2 (h id hi)⟩
theorem eh (xs:List DV):Low n (.tup xs)↔∀x∈xs,Low n x:=by
 rw[←g6];exact⟨fun h id hi=>(qF _).1 (h id hi),fun h id hi=>(qF _).2 (h id hi)⟩
theorem pj (f:FuncId) (xs:List DV):Low n (.fn f xs)↔∀x∈xs,Low n x:=by
 rw[←g6];exact⟨fun h id hi=>(tM _ _).1 (h id hi),fun h id hi=>(tM _ _).2 (h id hi)⟩
theorem mR (c:Nat) (xs:List DV):Low n (.vptr c xs)↔∀x∈xs,Low n x:=by
 rw[←g6];exact⟨fun h id hi=>(od _ _).1 (h id hi),fun h id hi=>(od _ _).2 (h id hi)⟩
theorem dz (t:Nat) (x:DV):Low n (.iface t x)↔Low n x:=⟨fun h id hi=>(mO _ _).1 (h id hi),fun h id hi=>(mO _ _).2 (h id hi)⟩
theorem kG{i:Nat}:(∀id,n≤id→i≠id)↔i<n:=⟨fun h=>Nat.lt_of_not_le fun hi=>h i hi rfl,fun h id hi e=>by omega⟩
theorem fm (i g j o:Nat):Low n (.ptr i g j o)↔i<n:=by
 rw[←kG];exact⟨fun h id hi=>(kD _ _ _ _).1 (h id hi),fun h id hi=>(kD _ _ _ _).2 (h id hi)⟩
theorem da (i g off len:Nat):Low n (.sl i g off len)↔i<n:=by
 rw[←kG];exact⟨fun h id hi=>(qG _ _ _ _).1 (h id hi),fun h id hi=>(qG _ _ _ _).2 (h id hi)⟩
theorem pf (i g off len cap:Nat):Low n (.slx i g off len cap)↔i<n:=by
 rw[←kG];exact⟨fun h id hi=>(oe _ _ _ _ _).1 (h id hi),fun h id hi=>(oe _ _ _ _ _).2 (h id hi)⟩
theorem sQ (i:Nat):Low n (.it i)↔i<n:=by
 rw[←kG];exact⟨fun h id hi=>(qJ _).1 (h id hi),fun h id hi=>(qJ _).2 (h id hi)⟩
theorem pe (i:Nat):Low n (.yld i)↔i<n:=by
 rw[←kG];exact⟨fun h id hi=>(oc _).1 (h id hi),fun h id hi=>(oc _).2 (h id hi)⟩
theorem pi (i:Nat):Low n (.mp i)↔i<n:=by
 rw[←kG];exact⟨fun h id hi=>(qH _).1 (h id hi),fun h id hi=>(qH _).2 (h id hi)⟩
end
def cl (n:Nat):Ob→Prop
 |.arr _ _ xs=>∀x∈xs,Low n x
 |.oth _ ds=>∀x∈ds,Low n x
 |.dead=>True
def ig:Ob→Prop
 |.arr ..=>True
 |_=>False
def g7 (n:Nat):List Ob→Prop
 | []=>True
 |o::r=>cl n o∧g7 n r
def cb (n:Nat):List Ob→Prop
 | []=>True
 |o::r=>ig o∧cl n o∧cb n r
def eZ (n:Nat):List (Nat×DV)→Prop
 | []=>True
 |p::r=>Low n p.2∧eZ n r
theorem mT{n id:Nat}{o:Ob} (h:cl n o) (hi:n≤id):jE id o:=by
 cases o with
 |arr t k xs=>exact jk.2 fun x hx=>h x hx id hi
 |oth t ds=>exact mK.2 fun x hx=>h x hx id hi
 |dead=>exact qD.2 trivial
theorem lh{n id:Nat} (hi:n≤id):∀{l:List Ob},g7 n l→c8 id l
 | [],_=>trivial
 |_::_,h=>⟨mT h.1 hi,lh hi h.2⟩
theorem lj{n id:Nat} (hi:n≤id):∀{l:List (Nat×DV)},eZ n l→iI id l
 | [],_=>trivial
 |_::_,h=>⟨h.1 id hi,lj hi h.2⟩
theorem fv{n:Nat}:∀{a b:List Ob},cb n (a++b)→cb n a∧cb n b
 | [],_,h=>⟨trivial,h⟩
 |_::_,_,h=>⟨⟨h.1,h.2.1,(fv h.2.2).1⟩,(fv h.2.2).2⟩
theorem gY{id:Nat}:∀{a b:List Ob},c8 id a→c8 id b→c8 id (a++b)
 | [],_,_,h=>h
 |_::_,_,h,k=>⟨h.1,gY h.2 k⟩
theorem kY{n id:Nat} (hi:n≤id):∀{l:List Ob},cb n l→c8 id l
 | [],_=>trivial
 |_::_,h=>⟨mT h.2.1 hi,kY hi h.2.2⟩
theorem ai.clear{C:Ctx}{env:List (Nat×DV)}{σ own tmp:List Ob} (l:List (Nat×DV)) (hσ:C.σ0=σ) (hf:gF σ) (hl:aC env l) (he:eZ (σ++own).length l) (ho:g7 (σ++own).length own) (ht:cb (σ++own).length tmp) (hdd:C.dd=[]:=by assumption):
  ai C ⟨env,σ++(own++tmp)⟩ ⟨l,σ++own⟩:=by
 refine ai.trans (ai.weak (Weak.of_agree rfl hl)) ?_
 have key:∀(n:Nat) (tmp:List Ob),tmp.length=n→cb (σ++own).length tmp→ai C ⟨l,σ++(own++tmp)⟩ ⟨l,σ++own⟩:=by
  intro n
  induction n with
  |zero=>
   intro tmp hn _
   obtain rfl:=BC hn
   rw[AK]
   exact ai.refl _ _
  |succ n ih=>
   intro tmp hn ht
   obtain⟨r,o,rfl⟩:∃r o,tmp=r++[o]:=⟨tmp.dropLast,tmp.getLast (by intro e;simp[e] at hn),(List.dropLast_concat_getLast _).symm⟩
   obtain⟨h1,h2⟩:=fv ht
   cases o with
   |arr t k xs=>
    refine ai.trans ?_ (ih r (by simpa using hn) h1)
    have hN:(σ++own).length≤(σ++(own++r)).length:=by simp
    have:=ai.pop (C:=C) (env:=l) (ob:=σ++(own++r)) (t:=t) (k:=k) (xs:=xs) 0 (by rw[hσ];simp) (fun x hx=>h2.2.1 x hx _ hN) (by rw[hdd];trivial)
    rw[jt (lj hN he),o9 (fun N r=>hf _ (by simp) N r) (gY (lh hN ho) (kY hN h1))] at this
    simpa using this
   |oth t ds=>exact h2.1.elim
   |dead=>exact h2.1.elim
 exact key _ tmp rfl ht
theorem rng1:Bs 1=[0]:=rfl
theorem rng2:Bs 2=[0,1]:=rfl
theorem rng3:Bs 3=[0,1,2]:=rfl
theorem rng4:Bs 4=[0,1,2,3]:=rfl
end
end Go.VL
