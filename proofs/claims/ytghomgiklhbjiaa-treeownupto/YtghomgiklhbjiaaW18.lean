/- Proved: TreeOwn: whatever tree, root and item come in (together of bulk at most 1048576), the call returns true and they read as they did; no other condition. This text is part 18 of 18. -/
import Derived.Test.YtghomgiklhbjiaaW17
import Derived.Carry
import Derived.ChangeSlices
import Derived.Lib.LaidIn
import Derived.Test.YtghomgiklhbjiaaRows
import Derived.Test.YtghomgiklhbjiaaChecked
import Derived.WalkKit
import Derived.ProofKit
import Derived.OpenShut
import Derived.JoinedCond
import Derived.Deep.Slices
set_option linter.unusedSimpArgs false
set_option linter.unusedVariables false
set_option maxRecDepth 100000
open List renaming append_nil → AK,getD_eq_getElem?_getD → AZ,getElem?_eq_getElem → AI,getElem?_eq_some_iff → AH,getElem?_map → AQ,getElem?_of_mem → Cc,getElem?_take → CY,getElem_mem → BS,length_cons → A5,length_map → AN,map_map → DW,mem_append_left → C5,mem_append_right → CG,mem_cons → Bh,mem_map → Ba,mem_of_getElem? → AM
open Nat renaming add_zero → Bt,le_refl → AU,mul_one → Dk,zero_le → BD
open Option renaming getD_some → A8,map_some → AW,some → AX
namespace Go.VL
open Go Go.Proofs
open Nat (reduceAdd reduceEqDiff reduceSub reduceMul reduceLeDiff)
def oB (b:UInt8):DV:=.int .u8 b.toNat
def oldF (W:World):Nat→Nat→Prop:=fun _ b=>b<W.heap.size
def noM:Nat→Option Nat:=fun _=>none
theorem hr_start (W:World):HR W (oldF W) noM [] where
 obj:=fun id o h=>by cases h
 out:=fun _ _=>rfl
 inj:=fun i j b h=>by cases h
 lt:=fun id b h=>by cases h
 col:=fun c b h=>⟨h,fun id e=>by cases e⟩
theorem below_of_fr{w w':World}{μ':Nat→Option Nat} (h:Fr w noM w' μ'):RowKit.Below w.heap.size w w':=
 ⟨h.os,h.tape,h.output,h.size,fun k hk=>h.keep k hk (fun id e=>by cases e)⟩
theorem u8_of{z:Int} (h:(Lit.int .u8 z).wf=true):(((UInt8.ofNat z.toNat).toNat:Nat):Int)=z:=by
 have h':0≤z∧z<256:=by
  simp[Lit.wf,IntKind.min,IntKind.max,IntKind.signed,IntKind.bits] at h
  omega
 simp only[UInt8.toNat_ofNat']
 omega
theorem rep_bytes2{H:Type}{enc:TypeId×Value→H}{P:Program}{t e:TypeId} (ht:P.underlying t=some (.slice e)) (he:P.underlying e=some (.int .u8)) (hc:P.cellsOf e=1){W:World}{a0:Option Addr}{len cap:Nat}{d0:DataW H}{p:List MemPlace}
  (h0:DataW.Trod enc P W 0 (fun _=>true) true t (.slice a0 len cap) d0 p) (hlt:∀x∈p,x.block<W.heap.size):
  ∃bs:List UInt8,Rep W (oldF W) noM [] (.vec 0 1 (bs.map oB)) (.slice a0 len cap)∧(bs=[]∨∃es sp,d0=.slice es sp∧bs.length≤es.length):=by
 obtain⟨fuel,hf⟩:=h0
 rcases ChangeShapes.open_ints ht he hc hf with⟨hcs,hx⟩|⟨a,len',cap',zs,hcs,_,hl,hm,hz,hx,hcell,hwz⟩
 ·simp[Value.cells] at hcs
  obtain⟨rfl,rfl,rfl⟩:=hcs
  refine⟨[],?_,.inl rfl⟩
  exact Rep.vec (xs:=[]) (fun _ _=>Go.undef) (AU _) (BD _) (fun h=>absurd h (Nat.lt_irrefl 0)) (fun x h=>by cases h) (fun j i x d h=>by cases h)
 ·simp[Value.cells] at hcs
  obtain⟨rfl,rfl,rfl⟩:=hcs
  simp only[Prod.mk.injEq] at hx
  obtain⟨rfl,rfl⟩:=hx
  simp only[if_true] at hz
  refine⟨(zs.take len).map fun z=>UInt8.ofNat z.toNat,?_,.inr ⟨_,_,rfl,by simp[ChangeShapes.lits]⟩⟩
  have hlen:(((zs.take len).map fun z=>UInt8.ofNat z.toNat).map oB).length=len:=by simp;omega
  have hget:∀(j:Nat) (x:DV),(((zs.take len).map fun z=>UInt8.ofNat z.toNat).map oB)[j]?=some x→x=.int .u8 (zs.getD j 0):=by
   intro j x hx
   have hj:j<len:=by
    rw[←hlen]
    exact(AH.1 hx).1
   have hjz:j<zs.length:=by omega
   rw[DW,AQ,CY,if_pos hj,AI hjz] at hx
   simp only[AW,AX.injEq,Function.comp_apply] at hx
   rw[←hx,AZ,AI hjz,A8]
   unfold oB
   rw[u8_of (hwz _ (BS hjz))]
  have key:=Rep.vec (w:=W) (F:=oldF W) (μ:=noM) (σ:=[]) (c:=0) (k:=1) (xs:=((zs.take len).map fun z=>UInt8.ofNat z.toNat).map oB) (A:=some a) (cap:=cap) (fun j _=>.int .u8 (zs.getD j 0))
   (by rw[hlen];exact hl) hm
   (fun h=>⟨a,rfl,hlt (.cell a.block a.off) (MemPlace.mem_row.2 ⟨0,by omega,rfl⟩),fun j i hj hi=>by
    obtain rfl:i=0:=by omega
    rw[Dk,Bt]
    exact hcell j (by omega)⟩)
   (fun x hx=>by
    obtain⟨j,hj⟩:=Cc hx
    rw[hget j x hj];rfl)
   (fun j i x d hx hd=>by
    rw[hget j x hx] at hd
    have:i=0∧d=.int .u8 (zs.getD j 0):=by
     cases i with
     |zero=>exact⟨rfl,by simpa[DV.cells] using hd.symm⟩
     |succ i=>simp[DV.cells] at hd
    rw[this.2]
    exact Rep.int)
  rw[hlen] at key
  exact key
theorem rep_slice{H:Type}{enc:TypeId×Value→H}{P:Program}{α:Type} (e:α→DV) (k:Nat) (hk:∀a,(e a).cells.length=k) (B:DataW H→α→Prop){t el:TypeId} (ht:P.underlying t=some (.slice el)) (hc:P.cellsOf el=k){W:World}
  (hel:∀(n:Nat) (cs:List Value) (y:DataW H×List MemPlace),cs.length=k→DataW.trod enc P W 0 (fun _=>true) true n el cs=some y→(∀x∈y.2,x.block<W.heap.size)→
   ∃a:α,(∀(i:Nat) (d:DV),(e a).cells[i]?=some d→∃v,cs[i]?=some v∧Rep W (oldF W) noM [] d v)∧B y.1 a)
  {a0:Option Addr}{ln cp:Nat}{d:DataW H}{p:List MemPlace} (h0:DataW.Trod enc P W 0 (fun _=>true) true t (.slice a0 ln cp) d p) (hlt:∀x∈p,x.block<W.heap.size) (hk0:0<k):
  ∃l:List α,(Rep W (oldF W) noM [] (.vec 0 k (l.map e)) (.slice a0 ln cp))∧(l=[]∨∃es sp,d=.slice es sp∧l.length=es.length∧∀(i:Nat) (a:α),l[i]?=some a→∃y,es[i]?=some y∧B y a):=by
 obtain⟨fuel,hf⟩:=h0
 have hv:∀(A:Option Addr) (n m:Nat),(Value.slice a0 ln cp).cells.toList=[.slice A n m]→Value.slice a0 ln cp=.slice A n m:=by
  intro A n m h
  simpa[Value.cells] using h
 rcases DataW.trod_slice ht hf with⟨hcs,hx⟩|⟨a,len,cap,elems,rest,n,_,hcs,hx,_,hl,hm,hlen,hE,_,_⟩
 ·rw[hv _ _ _ hcs]
  refine⟨[],?_,.inl rfl⟩
  exact Rep.vec (xs:=[]) (fun _ _=>Go.undef) (AU _) (BD _) (fun h=>absurd h (Nat.lt_irrefl 0)) (fun x h=>by cases h) (fun j i x d h=>by cases h)
 ·simp only[Prod.mk.injEq] at hx
  obtain⟨rfl,rfl⟩:=hx
  rw[hv _ _ _ hcs]
  have each:∀i:_root_.Fin len,∃x:α,(∀(j:Nat) (d:DV),(e x).cells[j]?=some d→∃v,W.cell? (a.add (i.val*k+j))=some v∧Rep W (oldF W) noM [] d v)∧∃y,elems[i.val]?=some y∧B y.1 x:=by
   intro i
   have h1:=hE i.val i.isLt
   have hy:elems[i.val]?=some (elems[i.val]'(by omega)):=AI _
   rw[hy,Option.bind_eq_some_iff] at h1
   obtain⟨cs,hcs',ht'⟩:=h1
   obtain⟨_,hcl,hat⟩:=World.cells?_some hcs'
   obtain⟨x,hx1,hx2⟩:=hel n cs _ (by rw[hcl,hc]) ht' (fun z hz=>hlt z (CG _ (List.mem_flatMap.2 ⟨_,C5 _ (AM hy),hz⟩)))
   refine⟨x,fun j d hd=>?_,_,hy,hx2⟩
   obtain⟨v,hv1,hv2⟩:=hx1 j d hd
   have hj:j<k:=by have:=(AH.1 hd).1;rw[hk] at this;exact this
   refine⟨v,?_,hv2⟩
   have:=hat j (by rw[hc];exact hj)
   rw[Go.Deep.add_add,hc] at this
   rw[this,hv1]
  obtain⟨f,hf⟩:∃f:_root_.Fin len→α,∀i,(∀(j:Nat) (d:DV),(e (f i)).cells[j]?=some d→∃v,W.cell? (a.add (i.val*k+j))=some v∧Rep W (oldF W) noM [] d v)∧∃y,elems[i.val]?=some y∧B y.1 (f i):=
   ⟨fun i=>Classical.choose (each i),fun i=>Classical.choose_spec (each i)⟩
  have hL:(List.ofFn f).length=len:=List.length_ofFn
  have hLm:((List.ofFn f).map e).length=len:=by rw[AN,hL]
  refine⟨List.ofFn f,?_,.inr ⟨_,_,rfl,by rw[hL,AN,hlen],fun i x hi=>?_⟩⟩
  ·have:=Rep.vec (w:=W) (F:=oldF W) (μ:=noM) (σ:=[]) (c:=0) (k:=k) (xs:=(List.ofFn f).map e) (A:=some a) (cap:=cap) (fun j i=>(W.cell? (a.add (j*k+i))).getD Go.undef) (by rw[hLm];exact hl) hm
    (fun h=>by
     rw[hLm] at h
     refine⟨a,rfl,hlt (.cell a.block a.off) (C5 _ (MemPlace.mem_row.2 ⟨0,?_,by rw[Bt]⟩)),fun j i hj hi=>?_⟩
     ·rw[hc,hlen]
      exact Nat.mul_pos (by omega) hk0
     ·rw[hLm] at hj
      have hcj:(e (f ⟨j,hj⟩)).cells[i]?=some ((e (f ⟨j,hj⟩)).cells[i]'(by rw[hk];exact hi)):=AI _
      obtain⟨v,hv1,_⟩:=(hf ⟨j,hj⟩).1 i _ hcj
      simp only at hv1
      rw[hv1]
      rfl)
    (fun x hx=>by
     obtain⟨y,_,rfl⟩:=Ba.1 hx
     exact hk y)
    (fun j i x d hx hd=>by
     rw[AQ] at hx
     obtain⟨y,hy,rfl⟩:=Option.map_eq_some_iff.1 hx
     have hj:j<len:=by have:=(AH.1 hy).1;rwa [hL] at this
     rw[List.getElem?_ofFn,dif_pos hj] at hy
     cases hy
     obtain⟨v,hv1,hv2⟩:=(hf ⟨j,hj⟩).1 i d hd
     simp only at hv1
     rw[hv1]
     exact hv2)
   rw[hLm] at this
   exact this
  ·have hj:i<len:=by have:=(AH.1 hi).1;rwa [hL] at this
   rw[List.getElem?_ofFn,dif_pos hj] at hi
   cases hi
   obtain⟨_,y,hy,hB⟩:=hf ⟨i,hj⟩
   exact⟨y.1,by rw[AQ,hy];rfl,hB⟩
theorem rep_pages{H:Type}{enc:TypeId×Value→H}{W:World}{a0:Option Addr}{ln cp:Nat}{d:DataW H}{p:List MemPlace} (h0:DataW.Trod enc Try.prog W 0 (fun _=>true) true 22 (.slice a0 ln cp) d p) (hlt:∀x∈p,x.block<W.heap.size):
  ∃l:List (List UInt8),(Rep W (oldF W) noM [] (.vec 0 1 (l.map fun b=>ePg (0,b))) (.slice a0 ln cp))∧(l=[]∨∃es sp,d=.slice es sp∧l.length=es.length∧∀(i:Nat) (a:List UInt8),l[i]?=some a→∃y,es[i]?=some y∧(a=[]∨∃fs sp,y=.slice fs sp∧a.length≤fs.length)):=by
 refine rep_slice (α:=List UInt8) (fun b=>ePg (0,b)) 1 (fun _=>rfl) (fun y a=>a=[]∨∃fs sp,y=.slice fs sp∧a.length≤fs.length) Try.underlying22 (by kernel_rfl) (fun n cs y hcl hy hlty=>?_) h0 hlt (by decide)
 have key:∀(A:Option Addr) (u v:Nat),cs=[.slice A u v]→∃a:List UInt8,(∀(i:Nat) (d:DV),(ePg (0,a)).cells[i]?=some d→∃v,cs[i]?=some v∧Rep W (oldF W) noM [] d v)∧(a=[]∨∃fs sp,y.1=.slice fs sp∧a.length≤fs.length):=by
  intro A u v hcs
  subst hcs
  obtain⟨bs,hb1,hb2⟩:=rep_bytes2 (t:=67) (e:=5) Try.underlying67 Try.underlying5 (by kernel_rfl) (d0:=y.1) (p:=y.2) ⟨n,by rw[show(Value.slice A u v).cells.toList=[.slice A u v] from rfl,hy]⟩ hlty
  refine⟨bs,fun i d hd=>?_,hb2⟩
  match i,hd with
  |0,hd=>cases hd;exact⟨_,rfl,hb1⟩
  |i+1,hd=>simp[ePg,DV.cells] at hd
 rcases DataW.trod_slice Try.underlying67 hy with⟨hcs,_⟩|⟨a,len,cap,_,_,_,_,hcs,_⟩
 ·exact key _ _ _ hcs
 ·exact key _ _ _ hcs
theorem rep_state{H:Type}{enc:TypeId×Value→H}{W:World}{base:Nat}{v:Value}{d:DataW H}{p:List MemPlace} (hv:Value.okWide Try.prog W .any base 24 v) (h0:DataW.Trod enc Try.prog W 0 (fun _=>true) true 24 v d p) (hlt:∀x∈p,x.block<W.heap.size):
  ∃(l:List (List UInt8)) (e:DataW H),(Rep W (oldF W) noM [] (.agg [.vec 0 1 (l.map fun b=>ePg (0,b))]) v)∧d=.agg [e]∧(l=[]∨∃es sp,e=.slice es sp∧l.length=es.length∧∀(i:Nat) (a:List UInt8),l[i]?=some a→∃y,es[i]?=some y∧(a=[]∨∃fs sp,y=.slice fs sp∧a.length≤fs.length)):=by
 obtain⟨cs,rfl,hsz⟩:=WideShapes.okWide_struct Try.underlying24 hv
 rw[show Try.prog.cellsOf 24=1 by kernel_rfl] at hsz
 obtain⟨fuel,hf⟩:=h0
 obtain⟨y0,n,hx,_,hy⟩:=ChangeShapes.trod_struct1 Try.underlying24 hf
 obtain⟨⟨u,rfl⟩⟩:Nonempty {u:Value//cs= #[u]}:=by
  obtain⟨l⟩:=cs
  match l,hsz with
  | [u],_=>exact⟨u,rfl⟩
 change DataW.trod enc Try.prog W 0 (fun _=>true) true n 22 (List.take (Try.prog.cellsOf 22) (List.drop 0 [u]))=some y0 at hy
 rw[show Try.prog.cellsOf 22=1 by kernel_rfl] at hy
 simp only[Prod.mk.injEq] at hx
 obtain⟨rfl,rfl⟩:=hx
 have key:∀(A:Option Addr) (a b:Nat),u=.slice A a b→∃(l:List (List UInt8)) (e:DataW H),(Rep W (oldF W) noM [] (.agg [.vec 0 1 (l.map fun b=>ePg (0,b))]) (.agg #[u]))∧DataW.agg [y0.1]=.agg [e]∧(l=[]∨∃es sp,e=.slice es sp∧l.length=es.length∧∀(i:Nat) (a:List UInt8),l[i]?=some a→∃y,es[i]?=some y∧(a=[]∨∃fs sp,y=.slice fs sp∧a.length≤fs.length)):=by
  intro A a b hu
  subst hu
  obtain⟨l,h1,h2⟩:=rep_pages (a0:=A) (ln:=a) (cp:=b) (d:=y0.1) (p:=y0.2) ⟨n,hy⟩ hlt
  refine⟨l,y0.1,Rep.agg rfl (fun i d v hd hv=>?_),rfl,h2⟩
  match i,hd,hv with
  |0,hd,hv=>cases hd;cases hv;exact h1
  |i+1,hd,_=>simp at hd
 rcases DataW.trod_slice Try.underlying22 hy with⟨hcs,_⟩|⟨a,len,cap,_,_,_,_,hcs,_⟩
 ·exact key _ _ _ (by simpa using hcs)
 ·exact key _ _ _ (by simpa using hcs)
theorem rep_item{H:Type}{enc:TypeId×Value→H}{W:World}{base:Nat}{v:Value}{d:DataW H}{p:List MemPlace} (hv:Value.okWide Try.prog W .any base 27 v) (h0:DataW.Trod enc Try.prog W 0 (fun _=>true) true 27 v d p):
  ∃x:It,Rep W (oldF W) noM [] (eT x) v:=by
 obtain⟨cs,rfl,hsz⟩:=WideShapes.okWide_struct Try.underlying27 hv
 rw[show Try.prog.cellsOf 27=2 by kernel_rfl] at hsz
 obtain⟨fuel,hf⟩:=h0
 obtain⟨xs,m,_,hx,_,hxl,hg⟩:=DataW.trod_struct Try.underlying27 hf
 have c25:Try.prog.cellsOf 25=1:=by kernel_rfl
 obtain⟨⟨⟨u,w⟩,rfl⟩⟩:Nonempty {u:Value×Value//cs= #[u.1,u.2]}:=by
  obtain⟨l⟩:=cs
  match l,hsz with
  | [u,w],_=>exact⟨⟨(u,w),rfl⟩⟩
 have g0:=hg 0 _ rfl
 have g1:=hg 1 _ rfl
 change DataW.trod enc Try.prog W 0 (fun _=>true) true m 25 (List.take (Try.prog.cellsOf 25) (List.drop 0 [u,w]))=xs[0]? at g0
 change DataW.trod enc Try.prog W 0 (fun _=>true) true m 25 (List.take (Try.prog.cellsOf 25) (List.drop 1 [u,w]))=xs[1]? at g1
 rw[c25] at g0 g1
 have x0:xs[0]?=some (xs[0]'(by rw[hxl];decide)):=AI _
 have x1:xs[1]?=some (xs[1]'(by rw[hxl];decide)):=AI _
 obtain⟨a,ha,_,_⟩:=DataW.trod_int Try.underlying25 (g0.trans x0)
 obtain⟨b,hb,_,_⟩:=DataW.trod_int Try.underlying25 (g1.trans x1)
 cases ha
 cases hb
 refine⟨(a,b),Rep.agg rfl (fun i d v hd hv=>?_)⟩
 match i,hd,hv with
 |0,hd,hv=>cases hd;cases hv;exact .int
 |1,hd,hv=>cases hd;cases hv;exact .int
 |i+2,hd,_=>simp at hd
end Go.VL
namespace Go.Proofs.Ytghomgiklhbjiaa
open Go.ChangeShapes Go.WideShapes Go.ChangeAt Go.RowKit
theorem one_le{H:Type} (d:DataW H):1≤Rows.uptoBulk d:=by
 cases d with
 |lit l=>cases l<;>simp[Rows.uptoBulk]
 |nil=>simp[Rows.uptoBulk]
 |ptr d=>simp[Rows.uptoBulk]
 |slice elems spare=>simp[Rows.uptoBulk]
 |agg parts=>simp[Rows.uptoBulk]
 |iface t d=>simp[Rows.uptoBulk]
 |map entries=>simp[Rows.uptoBulk]
 |held h=>simp[Rows.uptoBulk]
theorem part_le{H:Type}{d:DataW H}{l:List (DataW H)} (h:d∈l):Rows.uptoBulk d≤Rows.uptoBulkAll l:=by
 induction l with
 |nil=>cases h
 |cons x r ih=>
  simp only[Rows.uptoBulkAll]
  cases Bh.1 h with
  |inl e=>subst e;omega
  |inr e=>have:=ih e;omega
theorem length_le{H:Type} (l:List (DataW H)):l.length≤Rows.uptoBulkAll l:=by
 induction l with
 |nil=>exact BD _
 |cons x r ih=>
  have:=one_le x
  simp only[Rows.uptoBulkAll,A5]
  omega
theorem slice_elems{H:Type} (elems spare:List (DataW H)):Rows.uptoBulkAll elems+1≤Rows.uptoBulk (.slice elems spare):=by
 simp only[Rows.uptoBulk]
 omega
theorem own:ownKnob Try.prog.godebug=none:=by kernel_rfl
theorem laidOut:laidOutB Try.prog=true:=by kernel_rfl
theorem contract (H:Type) (enc:TypeId×Value→H) (W:World) (base:Nat) (args:Array Value) (ds gs:List (DataW H)) (before:List MemPlace) (F:Stop.Interp)
  (hval:∀(j:Nat) t v,Try.f3.params[j]?=some t→args[j]?=some v→Value.okWide Try.prog W .any base t v)
  (hW:DataW.Whole enc Try.prog Try.f3.params.toList Rows.treeOwnSpec.vars false W args.toList ds gs before) (hk:Rows.uptoSmall H (ds++gs)=true):
  Calls Try.prog 3 args W fun e W'=>∃v,e=.returned v∧((Rows.OpenSpec.upto Rows.treeOwnSpec).at F).post enc Try.prog Try.f3 false true false false W args v W':=by
 have hW':=hW
 obtain⟨p,q,hA0,hV,rfl,_,_⟩:=hW
 have hA:DataW.TrodAll enc Try.prog W 0 (fun _=>true) true Try.f3.params.toList args.toList ds p:=hA0
 rw[Try.params3] at hA hval
 obtain⟨v0,vs0,d0,ds0,p0,q0,e0,rfl,rfl,h0,hA⟩:=trodAll_cons hA
 obtain⟨v1,vs1,d1,ds1,p1,q1,rfl,rfl,rfl,h1,hA⟩:=trodAll_cons hA
 obtain⟨v2,vs2,d2,ds2,p2,q2,rfl,rfl,rfl,h2,hA⟩:=trodAll_cons hA
 obtain⟨rfl,rfl,rfl⟩:=trodAll_nil hA
 obtain rfl:args= #[v0,v1,v2]:=by cases args;simp_all
 obtain⟨rfl,rfl⟩:=trodVars_none hV
 obtain⟨z1,rfl⟩:=okWide_int Try.underlying3 (hval 1 3 v1 rfl rfl)
 clear hA0
 simp only[AK] at hW' hk
 have hlt:∀x∈p0++(p1++p2),x.block<W.heap.size:=fun x hx=>by simpa using hW'.lt x (by simpa using hx)
 have hlt0:∀x∈p0,x.block<W.heap.size:=fun x hx=>hlt x (C5 _ hx)
 have hlt1:∀x∈p1,x.block<W.heap.size:=fun x hx=>hlt x (CG _ (C5 _ hx))
 have hlt2:∀x∈p2,x.block<W.heap.size:=fun x hx=>hlt x (CG _ (CG _ hx))
 obtain⟨it,hit⟩:=VL.rep_item (hval 2 27 v2 rfl rfl) h2
 have hbulk:Rows.uptoBulk d0≤1048576:=by
  have h:=of_decide_eq_true hk
  simp only[Rows.uptoBulkAll] at h
  omega
 obtain⟨l,e,hr0,rfl,hb0⟩:=VL.rep_state (hval 0 24 v0 rfl rfl) h0 hlt0
 have hbulk':Rows.uptoBulk e≤1048576:=by
  simp only[Rows.uptoBulk,Rows.uptoBulkAll] at hbulk
  omega
 have hl:l.length≤1048576:=by
  rcases hb0 with rfl|⟨es,sp,rfl,e1,_⟩
  ·exact BD _
  ·have:=slice_elems es sp
   have:=length_le es
   omega
 have hl2:∀x∈l,x.length≤134217728:=by
  intro x hx
  rcases hb0 with rfl|⟨es,sp,rfl,e1,e2⟩
  ·cases hx
  ·obtain⟨i,hi⟩:=Cc hx
   obtain⟨y,hy,hc⟩:=e2 i x hi
   have h3:=part_le (AM hy)
   have h4:=slice_elems es sp
   rcases hc with rfl|⟨fs,sp2,rfl,hle⟩
   ·exact BD _
   ·have:=slice_elems fs sp2
    have:=length_le fs
    omega
 have ho:=VL.treeOwn_ok 0 (l.map fun b=>((0:Nat),b)) z1 it (by simpa using hl) (fun p hp=>by obtain⟨b,hb,rfl⟩:=Ba.1 hp;exact hl2 b hb) []
 rw[show VL.pgsD 0 (l.map fun b=>((0:Nat),b))=.vec 0 1 (l.map fun b=>VL.ePg (0,b)) by unfold VL.pgsD;rw[DW];rfl] at ho
 refine(ho.calls W (VL.oldF W) VL.noM [v0,.int .i64 z1,v2] (VL.hr_start W) ⟨rfl,fun i d v hd hv=>?_⟩).mono ?_
 ·match i,hd,hv with
  |0,hd,hv=>cases hd;cases hv;exact hr0
  |1,hd,hv=>cases hd;cases hv;exact .int
  |2,hd,hv=>cases hd;cases hv;exact hit
  |i+3,hd,_=>simp at hd
 ·rintro e W' ⟨F',μ',v,haf,rfl,hv⟩
  have hb:=VL.below_of_fr haf.fr
  cases hv
  exact⟨_,rfl,_,_,_,[],p0++(p1++p2),[],hW',trodAll_mk1 (shut_bool Try.underlying4 _),
   trodAll_mk3 (Below.trod laidOut (by kernel_rfl) (of_decide_eq_true (by kernel_rfl)) h0 hb hlt0) (Below.trod laidOut (by kernel_rfl) (of_decide_eq_true (by kernel_rfl)) h1 hb hlt1) (Below.trod laidOut (by kernel_rfl) (of_decide_eq_true (by kernel_rfl)) h2 hb hlt2),rfl,hb.frame _,fun h=>by cases h⟩
set_option maxHeartbeats 2000000 in
theorem lifted (os:Os) (started:os.Started) (H:Type) (enc:TypeId×Value→H) (F:Stop.Interp):
  ReturnsInHanded {} Try.checked os 3 .any ((Rows.OpenSpec.upto Rows.treeOwnSpec).pre6 enc Try.prog Try.f3 Rows.treeOwnUptoRow.domain false) (((Rows.OpenSpec.upto Rows.treeOwnSpec).at F).post enc Try.prog Try.f3 false true false false):=by
 refine returnsInHanded_of_cond (C:=Try.checked) (s:=Rows.OpenSpec.upto Rows.treeOwnSpec) (k:=Rows.uptoSmall) rfl own started (by kernel_rfl) Try.func3
  (OpenSpec.witness (enc:=enc) (C:=Try.checked) (s:=Rows.OpenSpec.upto Rows.treeOwnSpec) (k:=Rows.uptoSmall) rfl false ⟨#[], #[.agg #[.slice none 0 0],.int .i64 0,.agg #[.int .u64 0,.int .u64 0]],[]⟩ 8 (by kernel_rfl) (by kernel_rfl) (by kernel_rfl)
   (x:=([.agg [.nil],.lit (.int .i64 0),.agg [.lit (.int .u64 0),.lit (.int .u64 0)]],[],[])) (by kernel_rfl) rfl (by kernel_rfl)) ?_
 intro W base args ds gs before hval hW _ hk _
 exact contract H enc W base args ds gs before F hval hW hk
theorem jInPlace:(Rows.treeOwnUptoRow.inPlace==Try.prog.inPlace 3)=true:=by kernel_rfl
theorem jUnfollowed:(Rows.treeOwnUptoRow.unfollowed==Try.prog.unfollowed 3)=true:=by kernel_rfl
theorem jRecurses:(Rows.treeOwnUptoRow.recurses==Try.prog.recurses 3)=true:=by kernel_rfl
theorem jNamed:(Rows.treeOwnUptoRow.named==Try.prog.varsNamed 3)=true:=by kernel_rfl
theorem closed:joinedFacts Try.prog 3 Try.f3 (Rows.OpenSpec.upto Rows.treeOwnSpec).bare Rows.treeOwnUptoRow=true:=by
 unfold joinedFacts
 rw[jInPlace,jUnfollowed,jRecurses,jNamed]
 kernel_rfl
theorem treeOwn_holds:Rows.TreeOwnUptoSaid:=
 OpenClaim.holds_of_cond 3 Try.f3 rfl rfl rfl rfl rfl rfl rfl ⟨rfl,rfl,rfl,rfl,rfl⟩ rfl rfl rfl rfl rfl (by kernel_rfl) Try.func3 closed
  (of_decide_eq_true (by kernel_rfl)) (by unfold Func.isWrapper;first|(rw[if_pos (by decide+kernel)];kernel_rfl)|(rw[if_neg (by decide+kernel)];exact⟨rfl,rfl⟩))
  (fun os started H enc _ F=>lifted os started H enc F)
#print axioms treeOwn_holds
end Go.Proofs.Ytghomgiklhbjiaa
namespace Go.VL
end Go.VL
