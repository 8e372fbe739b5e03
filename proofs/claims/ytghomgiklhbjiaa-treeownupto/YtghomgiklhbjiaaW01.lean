/- Proved: TreeOwn: whatever tree, root and item come in (together of bulk at most 1048576), the call returns true and they read as they did; no other condition. This text is part 1 of 18. -/
import Derived.WalkKit
import Derived.RangeFuncFrom
import Derived.IntWalk
set_option linter.unusedSimpArgs false
set_option linter.unusedVariables false
open List renaming all_eq_true → AS,append_assoc → AR,append_nil → AK,drop_append → Cm,drop_of_length_le → Cp,eq_nil_of_length_eq_zero → BC,ext_getElem? → BV,flatMap_cons → Cx,getElem?_append_left → AJ,getElem?_append_right → AT,getElem?_cons_succ → BH,getElem?_cons_zero → AY,getElem?_drop → Bk,getElem?_eq_getElem → AI,getElem?_eq_none → BA,getElem?_eq_some_iff → AH,getElem?_map → AQ,getElem?_replicate → Ck,getElem?_set → B2,getElem?_take_of_lt → BM,getElem?_toArray → Bn,getElem_mem → BS,headD_cons → Cd,length → Cr,length_append → AP,length_cons → A5,length_drop → BP,length_map → AN,length_nil → Bj,length_replicate → Br,length_singleton → Ca,length_take → Bi,map_cons → Bf,mem_append → BT,mem_map → Ba,mem_of_getElem? → AM,mem_of_mem_drop → By,mem_of_mem_take → Bz,mem_or_eq_of_mem_set → C9,mem_range → Cw,mem_replicate → BK,mem_singleton → BX,nil_append → Be,range → Bs,range' → Dz,range'_succ → DP,range_eq_range' → DA,replicate → AO,take_left → Dn
open Nat renaming add_assoc → C0,add_mul → Bx,add_zero → Bt,eq_zero_or_pos → B4,le_mul_of_pos_right → CJ,le_of_eq → DF,le_refl → AU,le_succ → DN,le_trans → Bl,lt_of_lt_of_le → DJ,lt_or_ge → Bp,lt_trichotomy → Dl,min_eq_left → BE,mod_eq_of_lt → CK,mul_comm → C7,mul_le_mul_right → A7,not_lt → Du,strongRecOn → Dh,succ_mul → BY,zero_add → Bc,zero_le → BD,zero_mul → CT
open Option renaming bind_some → C6,map_some → AW,some → AX
open Int renaming eq_ofNat_of_zero_le → Cj,toNat_natCast → Bg
open Array renaming empty_append → B3,ext' → BJ,ext_getElem? → CQ,getD_eq_getD_getElem? → A0,getElem?_append_left → BO,getElem?_append_right → DE,getElem?_eq_getElem → BG,getElem?_eq_some_iff → Bm,getElem?_map → DK,getElem?_modify → C1,getElem?_push → Da,getElem?_setIfInBounds → Bu,length_toList → B9,size_append → C2,size_map → Dm,size_range → Dt
open Bool renaming false_eq_true → Bb,not_false → C3
namespace Go.VL
open Go
section
def _root_.Go.Obj.isCells':Obj→Bool
 |.cells ..=>true
 |_=>false
inductive DV where
 |int (k:IntKind) (n:Int)
 |bool (b:Bool)
 |str (s:ByteArray)
 |vec (c k:Nat) (xs:List DV)
 |agg (cs:List DV)
 |tup (xs:List DV)
 |ptr (id g j o:Nat)
 |vptr (c:Nat) (cs:List DV)
 |sl (id g off len:Nat)
 |slx (id g off len cap:Nat)
 |nils
 |nilp
 |fn (f:FuncId) (caps:List DV)
 |nilf
 |iface (t:TypeId) (x:DV)
 |nili
 |mp (id:Nat)
 |it (id:Nat)
 |yld (id:Nat)
 |emp
 |undef
 |skip
 deriving Inhabited
@[reducible] def DV.cells:DV→List DV
 |.agg cs=>cs
 |x=> [x]
inductive OT where
 |map (borns:List Nat) (clock:Nat)
 |iter (mid:Option Nat) (since:Nat) (seen:List Nat) (stepped:Nat)
 |loop (state:LoopState) (pending:Option Code) (fn:FuncId) (ps:List Tmp) (assign body:Code) (did:Nat)
 |defd
def OT.kind:OT→Nat
 |.map ..=>0
 |.iter ..=>1
 |.loop ..=>2
 |.defd=>3
def OT.refs:OT→List Nat
 |.iter (some m) ..=> [m]
 |.loop _ _ _ _ _ _ d=> [d]
 |_=> []
inductive Ob where
 |arr (t k:Nat) (xs:List DV)
 |oth (t:OT) (ds:List DV)
 |dead
instance:Inhabited Ob:=⟨.dead⟩
def bY (m:List MapEntry):List Value:=m.flatMap fun e=> [e.key,e.val]
def oE (h:Nat→Option Obj) (μ:Nat→Option Nat) (id:Nat):OT→List Value→Prop
 |.map bs clock,vs=>∃r m,μ id=some r∧h r=some (.map m clock)∧m.toList.map (·.born)=bs∧vs=bY m.toList
 |.iter mid since seen stepped,vs=>vs=[]∧∃r mo,μ id=some r∧h r=some (.mapIter mo since seen.toArray stepped)∧match mid with
  |none=>mo=none
  |some m=>mo=μ m∧mo.isSome=true
 |.loop state pending _ ps assign body did,vs=>∃r d fn,μ id=some r∧μ did=some d∧h r=some (.loop {state,pending,fn,tmps:=⟨vs⟩,params:=⟨ps⟩,assign,body,defers:=d})
 |.defd,vs=>∃r x,μ id=some r∧h r=some (.deferred x)∧(vs=[]→x=some [])
theorem oE.block{h:Nat→Option Obj}{μ:Nat→Option Nat}{id:Nat}{t:OT}{vs:List Value} (k:oE h μ id t vs):∃b o,μ id=some b∧h b=some o∧o.isCells'=false:=by
 cases t with
 |map bs c=>obtain⟨r,m,h1,h2,_⟩:=k;exact⟨r,_,h1,h2,rfl⟩
 |iter m s e p=>obtain⟨_,r,mo,h1,h2,_⟩:=k;exact⟨r,_,h1,h2,rfl⟩
 |loop _ _ _ _ _ _ d=>obtain⟨r,d,fn,h1,_,h2⟩:=k;exact⟨r,_,h1,h2,rfl⟩
 |defd=>obtain⟨r,x,h1,h2,_⟩:=k;exact⟨r,_,h1,h2,rfl⟩
theorem oE.keep{h h':Nat→Option Obj}{μ μ':Nat→Option Nat}{id:Nat}{t:OT}{vs:List Value} (k:oE h μ id t vs) (hh:∀b,μ id=some b→h' b=h b) (hm:μ' id=μ id) (hr:∀i∈t.refs,μ' i=μ i):
  oE h' μ' id t vs:=by
 cases t with
 |map bs c=>obtain⟨r,m,h1,h2,h3⟩:=k;exact⟨r,m,hm.trans h1,(hh r h1).trans h2,h3⟩
 |iter m s e p=>
  obtain⟨h0,r,mo,h1,h2,h3⟩:=k
  refine⟨h0,r,mo,hm.trans h1,(hh r h1).trans h2,?_⟩
  cases m with
  |none=>exact h3
  |some m=>exact⟨h3.1.trans (hr m (by simp[OT.refs])).symm,h3.2⟩
 |loop _ _ _ _ _ _ d=>
  obtain⟨r,d',fn,h1,h2,h3⟩:=k
  exact⟨r,d',fn,hm.trans h1,(hr d (by simp[OT.refs])).trans h2,(hh r h1).trans h3⟩
 |defd=>obtain⟨r,x,h1,h2,h3⟩:=k;exact⟨r,x,hm.trans h1,(hh r h1).trans h2,h3⟩
def kr (fr:Nat×Nat) (n k:Nat):Prop:=fr=(0,0)∨(n≤fr.1∧k=1)
theorem kr.zero (n:Nat){k:Nat}:kr (0,0) n k:=.inl rfl
theorem kr.get{fr:Nat×Nat}{n k:Nat} (h:kr fr n k) (q:Nat) (hq:q<n):(decide (fr.1≤q)&&decide (q<fr.2))=false:=by
 rcases h with rfl|⟨h,_⟩
 ·simp
 ·simp;omega
section
variable (w:World) (F:Nat→Nat→Prop) (μ:Nat→Option Nat) (σ:List Ob)
def zl (id g j o:Nat) (a:Addr):Prop:=
 ∃t k xs,σ[id]?=some (.arr t k xs)∧g≤xs.length∧(g=xs.length→∃b,μ id=some b∧a=⟨b,j*k+o,none⟩)
def dX (id g off len:Nat) (A:Option Addr) (cap:Nat):Prop:=
 ∃t k xs,σ[id]?=some (.arr t k xs)∧off+len≤g∧g≤xs.length∧len≤cap∧cap≤maxLen∧
  (g=xs.length→(g=0∧A=none∧cap=0∧μ id=none)∨
   ∃b cur fr,μ id=some b∧w.heap[b]?=some (.cells cur t fr)∧(off+cap)*k≤cur.size∧A.isSome=true∧(0<len∨off=0→A=some ⟨b,off*k,none⟩))
inductive Rep:DV→Value→Prop
 |int {k n}:Rep (.int k n) (.int k n)
 |bool {b}:Rep (.bool b) (.bool b)
 |str {s}:Rep (.str s) (.string s)
 |vec {c k}{xs:List DV} {A cap} (u:Nat→Nat→Value) (hc:xs.length≤cap) (hm:cap≤maxLen)
  (ha:0<xs.length→∃a,A=some a∧F c a.block∧∀j i,j<xs.length→i<k→w.cell? (a.add (j*k+i))=some (u j i))
  (hk:∀x∈xs,x.cells.length=k)
  (hr:∀(j i:Nat) (x d:DV),xs[j]?=some x→x.cells[i]?=some d→Rep d (u j i)):Rep (.vec c k xs) (.slice A xs.length cap)
 |agg{cs:List DV}{vs:List Value} (hl:cs.length=vs.length) (h:∀(i:Nat) (d:DV) (v:Value),cs[i]?=some d→vs[i]?=some v→Rep d v):Rep (.agg cs) (.agg ⟨vs⟩)
 |tup{cs:List DV}{vs:List Value} (hl:cs.length=vs.length) (h:∀(i:Nat) (d:DV) (v:Value),cs[i]?=some d→vs[i]?=some v→Rep d v):Rep (.tup cs) (.tuple ⟨vs⟩)
 |ptr {id g j o a} (h:zl μ σ id g j o a):Rep (.ptr id g j o) (.pointer (some a))
 |vptr {c}{cs:List DV} {a} (u:Nat→Value) (hF:F c a.block) (hu:∀i,i<cs.length→w.cell? (a.add i)=some (u i))
  (hr:∀(i:Nat) (d:DV),cs[i]?=some d→Rep d (u i)):Rep (.vptr c cs) (.pointer (some a))
 |sl {id g off len A cap} (h:dX w μ σ id g off len A cap):Rep (.sl id g off len) (.slice A len cap)
 |slx {id g off len A cap} (h:dX w μ σ id g off len A cap):Rep (.slx id g off len cap) (.slice A len cap)
 |nils:Rep .nils (.slice none 0 0)
 |nilp:Rep .nilp (.pointer none)
 |fn {f}{caps:List DV}{vs:List Value} (hl:caps.length=vs.length) (h:∀(i:Nat) (d:DV) (v:Value),caps[i]?=some d→vs[i]?=some v→Rep d v):Rep (.fn f caps) (.func (.func f) #[] ⟨vs⟩)
 |nilf:Rep .nilf .nilFunc
 |iface {t x v} (h:Rep x v):Rep (.iface t x) (.iface t v)
 |nili:Rep .nili .nilIface
 |mp {id r} (h:μ id=some r) (ho:∃t ds,σ[id]?=some (.oth t ds)∧t.kind=0):Rep (.mp id) (.map (some r))
 |it {id r} (h:μ id=some r) (ho:∃t ds,σ[id]?=some (.oth t ds)∧t.kind=1):Rep (.it id) (.pointer (some ⟨r,0,none⟩))
 |yld {id r} (h:μ id=some r) (ho:∃t ds,σ[id]?=some (.oth t ds)∧t.kind=2):Rep (.yld id) (.func (.yield r) #[] #[])
 |emp {a}:Rep .emp (.slice (some a) 0 0)
 |undef {v}:Rep .undef v
 |skip:Rep .skip _root_.Go.undef
def iu (id:Nat):Ob→Prop
 |.arr t k xs=>(∀x∈xs,x.cells.length=k)∧((xs=[]∧μ id=none)∨∃b cur fr,μ id=some b∧w.heap[b]?=some (.cells cur t fr)∧kr fr cur.size k∧
  ∀(j i:Nat) (x d:DV),xs[j]?=some x→x.cells[i]?=some d→∃v,cur[j*k+i]?=some v∧Rep w F μ σ d v)
 |.oth t ds=>(∀i∈t.refs,∃t' es,σ[i]?=some (.oth t' es))∧∃vs,oE (w.heap[·]?) μ id t vs∧ds.length=vs.length∧
  ∀(i:Nat) (d:DV) (v:Value),ds[i]?=some d→vs[i]?=some v→Rep w F μ σ d v
 |.dead=>μ id=none
structure HR:Prop where
 obj:∀(id:Nat) (o:Ob),σ[id]?=some o→iu w F μ σ id o
 out:∀id,σ.length≤id→μ id=none
 inj:∀i j b,μ i=some b→μ j=some b→i=j
 lt:∀id b,μ id=some b→b<w.heap.size
 col:∀c b,F c b→b<w.heap.size∧∀id,μ id≠some b
end
def Ob.ext:Ob→Ob→Prop
 |.arr t k xs,o=>∃ys,o=.arr t k ys∧xs.length≤ys.length
 |.oth t _,o=>∃t' ds,o=.oth t' ds∧t'.kind=t.kind
 |.dead,o=>o=.dead
theorem Ob.ext_refl (o:Ob):o.ext o:=by
 cases o with
 |arr t k xs=>exact⟨xs,rfl,AU _⟩
 |oth t ds=>exact⟨t,ds,rfl,rfl⟩
 |dead=>rfl
structure Step (w:World) (F:Nat→Nat→Prop) (μ:Nat→Option Nat) (σ:List Ob) (w':World) (F':Nat→Nat→Prop) (μ':Nat→Option Nat) (σ':List Ob):Prop where
 imm:∀c b,F c b→w'.heap[b]?=w.heap[b]?
 col:∀c b,F c b→F' c b
 ext:∀(id:Nat) (o:Ob),σ[id]?=some o→∃o':Ob,σ'[id]?=some o'∧Ob.ext o o'
 same:∀(id t k:Nat) (xs ys:List DV),σ[id]?=some (.arr t k xs)→σ'[id]?=some (.arr t k ys)→xs.length=ys.length→
  μ' id=μ id∧∀b cur fr,μ id=some b→w.heap[b]?=some (.cells cur t fr)→∃cur' fr',w'.heap[b]?=some (.cells cur' t fr')∧cur'.size=cur.size
 othsame:∀(id:Nat) (t:OT) (ds:List DV),σ[id]?=some (.oth t ds)→μ' id=μ id
theorem iZ{w w':World}{a:Addr} (h:w'.heap[a.block]?=w.heap[a.block]?):w'.cell? a=w.cell? a:=by
 unfold World.cell?;rw[h]
theorem dC (a:Addr) (n:Nat):(a.add n).block=a.block:=by unfold Addr.add;split<;>rfl
theorem dX.step{w w':World}{F F':Nat→Nat→Prop}{μ μ':Nat→Option Nat}{σ σ':List Ob} (s:Step w F μ σ w' F' μ' σ'){id g off len:Nat}{A:Option Addr}{cap:Nat} (h:dX w μ σ id g off len A cap):dX w' μ' σ' id g off len A cap:=by
 obtain⟨t,k,xs,ho,h1,h2,h3,h4,hb⟩:=h
 obtain⟨o',ho',ys,rfl,hl⟩:=s.ext _ _ ho
 refine⟨t,k,ys,ho',h1,by omega,h3,h4,fun he=>?_⟩
 have hs:=s.same _ _ _ _ _ ho ho' (by omega)
 rcases hb (by omega) with⟨g0,ha,hc0,hmu⟩|⟨b,cur,fr,hmu,hh,hsz,hA⟩
 ·exact .inl ⟨g0,ha,hc0,by rw[hs.1];exact hmu⟩
 ·obtain⟨cur',fr',hh',hsz'⟩:=hs.2 b cur fr hmu hh
  exact .inr ⟨b,cur',fr',by rw[hs.1];exact hmu,hh',by rw[hsz'];exact hsz,hA⟩
theorem Rep.step{w w':World}{F F':Nat→Nat→Prop}{μ μ':Nat→Option Nat}{σ σ':List Ob} (s:Step w F μ σ w' F' μ' σ')
  {d:DV}{v:Value} (h:Rep w F μ σ d v):Rep w' F' μ' σ' d v:=by
 induction h with
 |int=>exact .int
 |bool=>exact .bool
 |str=>exact .str
 |vec u hc hm ha hk hr ih=>
  refine .vec u hc hm (fun h0=>?_) hk ih
  obtain⟨a,rfl,hF,hcell⟩:=ha h0
  refine⟨a,rfl,s.col _ _ hF,fun j i hj hi=>?_⟩
  exact(iZ (by rw[dC];exact s.imm _ _ hF)).trans (hcell j i hj hi)
 |agg hl h ih=>exact .agg hl ih
 |tup hl h ih=>exact .tup hl ih
 |ptr h=>
  refine .ptr ?_
  obtain⟨t,k,xs,ho,hg,hb⟩:=h
  obtain⟨o',ho',ys,rfl,hl⟩:=s.ext _ _ ho
  refine⟨t,k,ys,ho',by omega,fun he=>?_⟩
  obtain⟨b,hb1,hb2⟩:=hb (by omega)
  exact⟨b,by rw[(s.same _ _ _ _ _ ho ho' (by omega)).1];exact hb1,hb2⟩
 |vptr u hF hu hr ih=>
  refine .vptr u (s.col _ _ hF) (fun i hi=>?_) ih
  exact(iZ (by rw[dC];exact s.imm _ _ hF)).trans (hu i hi)
 |sl h=>exact .sl (h.step s)
 |slx h=>exact .slx (h.step s)
 |nils=>exact .nils
 |nilp=>exact .nilp
 |fn hl h ih=>exact .fn hl ih
 |nilf=>exact .nilf
 |iface h ih=>exact .iface ih
 |nili=>exact .nili
 |mp h ho=>
  obtain⟨t,ds,ho,hk⟩:=ho
  obtain⟨o',ho',t',ds',rfl,hk'⟩:=s.ext _ _ ho
  exact .mp (by rw[s.othsame _ _ _ ho];exact h) ⟨t',ds',ho',hk'.trans hk⟩
 |it h ho=>
  obtain⟨t,ds,ho,hk⟩:=ho
  obtain⟨o',ho',t',ds',rfl,hk'⟩:=s.ext _ _ ho
  exact .it (by rw[s.othsame _ _ _ ho];exact h) ⟨t',ds',ho',hk'.trans hk⟩
 |yld h ho=>
  obtain⟨t,ds,ho,hk⟩:=ho
  obtain⟨o',ho',t',ds',rfl,hk'⟩:=s.ext _ _ ho
  exact .yld (by rw[s.othsame _ _ _ ho];exact h) ⟨t',ds',ho',hk'.trans hk⟩
 |emp=>exact .emp
 |undef=>exact .undef
 |skip=>exact .skip
theorem Step.refl (w:World) (F:Nat→Nat→Prop) (μ:Nat→Option Nat) (σ:List Ob):Step w F μ σ w F μ σ:=
 ⟨fun _ _ _=>rfl,fun _ _ h=>h,fun _ o h=>⟨o,h,Ob.ext_refl o⟩,fun _ _ _ _ _ _ _ _=>⟨rfl,fun _ cur fr _ h=>⟨cur,fr,h,rfl⟩⟩,fun _ _ _ _=>rfl⟩
theorem iu.keep{w w':World}{F F':Nat→Nat→Prop}{μ μ':Nat→Option Nat}{σ σ':List Ob}{id:Nat}{t:OT}{ds:List DV} (h:iu w F μ σ id (.oth t ds)) (s:Step w F μ σ w' F' μ' σ') (hid:σ[id]?=some (.oth t ds))
  (hh:∀b,μ id=some b→w'.heap[b]?=w.heap[b]?):iu w' F' μ' σ' id (.oth t ds):=by
 obtain⟨h1,vs,h2,h3,h4⟩:=h
 refine⟨fun i hi=>?_,vs,h2.keep hh (s.othsame _ _ _ hid) (fun i hi=>?_),h3,fun i d v hd hv=>(h4 i d v hd hv).step s⟩
 ·obtain⟨t',es,g⟩:=h1 i hi
  obtain⟨o',ho',t2,ds2,rfl,_⟩:=s.ext _ _ g
  exact⟨t2,ds2,ho'⟩
 ·obtain⟨t',es,g⟩:=h1 i hi
  exact s.othsame _ _ _ g
theorem HR.notCells{w:World}{F:Nat→Nat→Prop}{μ:Nat→Option Nat}{σ:List Ob} (hr:HR w F μ σ){id:Nat}{t:OT}{ds:List DV} (hid:σ[id]?=some (.oth t ds)){b:Nat} (hb:μ id=some b){cur:Array Value}{e:TypeId}{fr:Nat×Nat}
  (hh:w.heap[b]?=some (.cells cur e fr)):False:=by
 obtain⟨_,vs,h2,_⟩:=hr.obj _ _ hid
 obtain⟨b',o,h3,h4,h5⟩:=h2.block
 rw[hb] at h3
 cases h3
 rw[hh] at h4
 cases h4
 cases h5
theorem Ob.ext_trans{a b c:Ob} (h:a.ext b) (k:b.ext c):a.ext c:=by
 cases a with
 |arr t k xs=>
  obtain⟨ys,rfl,hl⟩:=h
  obtain⟨zs,rfl,hl'⟩:=k
  exact⟨zs,rfl,Bl hl hl'⟩
 |oth t ds=>obtain⟨t',ds',rfl,hk⟩:=h;obtain⟨t2,ds2,rfl,hk2⟩:=k;exact⟨t2,ds2,rfl,hk2.trans hk⟩
 |dead=>cases h;exact k
theorem Step.trans{w w' w'':World}{F F' F'':Nat→Nat→Prop}{μ μ' μ'':Nat→Option Nat}{σ σ' σ'':List Ob}
  (s:Step w F μ σ w' F' μ' σ') (t:Step w' F' μ' σ' w'' F'' μ'' σ''):Step w F μ σ w'' F'' μ'' σ'' where
 imm:=fun c b h=>(t.imm c b (s.col c b h)).trans (s.imm c b h)
 col:=fun c b h=>t.col c b (s.col c b h)
 ext:=fun id o h=>by
  obtain⟨o',h',e⟩:=s.ext id o h
  obtain⟨o'',h'',e'⟩:=t.ext id o' h'
  exact⟨o'',h'',Ob.ext_trans e e'⟩
 same:=fun id ty k xs ys h h'' hl=>by
  obtain⟨o',h',zs,rfl,hle⟩:=s.ext id _ h
  obtain⟨o3,h3,e3⟩:=t.ext id _ h'
  rw[h''] at h3
  cases h3
  obtain⟨ys',he,hle'⟩:=e3
  cases he
  have h1:=s.same id ty k xs zs h h' (by omega)
  have h2:=t.same id ty k zs ys h' h'' (by omega)
  refine⟨h2.1.trans h1.1,fun b cur fr hm hh=>?_⟩
  obtain⟨cur',fr',hh',hs'⟩:=h1.2 b cur fr hm hh
  obtain⟨cur'',fr'',hh'',hs''⟩:=h2.2 b cur' fr' (by rw[h1.1];exact hm) hh'
  exact⟨cur'',fr'',hh'',hs''.trans hs'⟩
 othsame:=fun id x ds h=>by
  obtain⟨o',h',x',ds',rfl,_⟩:=s.ext id _ h
  exact(t.othsame id x' ds' h').trans (s.othsame id x ds h)
end
section
def lk:List (Nat×DV)→Nat→DV
 | [],_=>.undef
 |(s,d)::r,t=>if s=t then d else lk r t
def up:List (Nat×DV)→Nat→DV→List (Nat×DV)
 | [],t,d=> [(t,d)]
 |(s,x)::r,t,d=>if s=t then(t,d)::r else(s,x)::up r t d
theorem iT (e:List (Nat×DV)) (t:Nat) (d:DV) (s:Nat):lk (up e t d) s=if t=s then d else lk e s:=by
 induction e with
 |nil=>simp only[up,lk]
 |cons p r ih=>
  obtain⟨q,x⟩:=p
  simp only[up]
  by_cases h:q=t
  ·rw[if_pos h]
   subst h
   simp only[lk]
   by_cases hs:q=s<;>simp[hs]
  ·rw[if_neg h]
   simp only[lk]
   rw[ih]
   by_cases hq:q=s
   ·subst hq;simp[show ¬ t=q from fun e=>h e.symm]
   ·simp[hq]
def upo (e:List (Nat×DV)):Option Nat→DV→List (Nat×DV)
 |none,_=>e
 |some t,d=>up e t d
structure St where
 env:List (Nat×DV)
 ob:List Ob
structure Fr (w:World) (μ:Nat→Option Nat) (w':World) (μ':Nat→Option Nat):Prop where
 os:w'.os=w.os
 tape:w'.tape=w.tape
 output:w'.output=w.output
 size:w.heap.size≤w'.heap.size
 keep:∀b,b<w.heap.size→(∀id,μ id≠some b)→w'.heap[b]?=w.heap[b]?
 new:∀id b,μ' id=some b→μ id=some b∨w.heap.size≤b
 drawn:w.drawn≤w'.drawn
theorem Fr.refl (w:World) (μ:Nat→Option Nat):Fr w μ w μ:=⟨rfl,rfl,rfl,AU _,fun _ _ _=>rfl,fun _ _ h=>.inl h,AU _⟩
theorem Fr.trans{w w' w'':World}{μ μ' μ'':Nat→Option Nat} (h:Fr w μ w' μ') (k:Fr w' μ' w'' μ''):Fr w μ w'' μ'' where
 os:=k.os.trans h.os
 tape:=k.tape.trans h.tape
 output:=k.output.trans h.output
 size:=Bl h.size k.size
 drawn:=Bl h.drawn k.drawn
 keep:=fun b hb hm=>by
  refine(k.keep b (DJ hb h.size) (fun id e=>?_)).trans (h.keep b hb hm)
  rcases h.new id b e with e'|e'
  ·exact hm id e'
  ·omega
 new:=fun id b e=>by
  rcases k.new id b e with e'|e'
  ·exact h.new id b e'
  ·exact .inr (Bl h.size e')
def bF (w:World) (F:Nat→Nat→Prop) (μ:Nat→Option Nat) (σ:List Ob) (ds:List DV) (vs:List Value):Prop:=
 ds.length=vs.length∧∀(i:Nat) (d:DV) (v:Value),ds[i]?=some d→vs[i]?=some v→Rep w F μ σ d v
theorem bF.step{w w':World}{F F':Nat→Nat→Prop}{μ μ':Nat→Option Nat}{σ σ':List Ob} (s:Step w F μ σ w' F' μ' σ'){ds:List DV}{vs:List Value} (h:bF w F μ σ ds vs):bF w' F' μ' σ' ds vs:=
 ⟨h.1,fun i d v hd hv=>(h.2 i d v hd hv).step s⟩
inductive DD where
 |col (id:Nat)
 |fn (f:FuncId) (caps:List DV)
def zc (w:World) (F:Nat→Nat→Prop) (μ:Nat→Option Nat) (σ:List Ob):DD→Deferred→Prop
 |.col id,d=>∃D ds,μ id=some D∧σ[id]?=some (.oth .defd ds)∧d={target:=.collected D,args:= #[]}
 |.fn f caps,d=>∃vs:List Value,bF w F μ σ caps vs∧d={target:=.fn (.func f) ⟨vs⟩,args:= #[]}
def bS (w:World) (F:Nat→Nat→Prop) (μ:Nat→Option Nat) (σ:List Ob):List DD→List Deferred→Prop
 | [],l=>l=[]
 |x::r,l=>∃d l',l=d::l'∧zc w F μ σ x d∧bS w F μ σ r l'
theorem OT.kind_defd{t:OT} (h:t.kind=OT.defd.kind):t=.defd:=by cases t<;>first|rfl|(simp[OT.kind] at h)
theorem bS.step{w w':World}{F F':Nat→Nat→Prop}{μ μ':Nat→Option Nat}{σ σ':List Ob} (s:Step w F μ σ w' F' μ' σ'):∀{dd:List DD}{l:List Deferred},bS w F μ σ dd l→bS w' F' μ' σ' dd l
 | [],_,h=>h
 |x::r,_,⟨d,l',h1,h2,h3⟩=>by
  refine⟨d,l',h1,?_,bS.step s h3⟩
  cases x with
  |col id=>
   obtain⟨D,ds,g1,g2,g3⟩:=h2
   obtain⟨o',ho',t',ds',rfl,hk⟩:=s.ext _ _ g2
   obtain rfl:=OT.kind_defd hk
   exact⟨D,ds',(s.othsame _ _ _ g2).trans g1,ho',g3⟩
  |fn f caps=>
   obtain⟨vs,g1,g2⟩:=h2
   exact⟨vs,g1.step s,g2⟩
structure Ctx where
 P:Program
 n:Nat
 rd:Option Nat
 dd:List DD
 w0:World
 F0:Nat→Nat→Prop
 μ0:Nat→Option Nat
 σ0:List Ob
 out:∀id,σ0.length≤id→μ0 id=none
structure Rel0 (C:Ctx) (F:Nat→Nat→Prop) (μ:Nat→Option Nat) (st:St) (a:Act) (w:World):Prop where
 hr:HR w F μ st.ob
 env:∀t,Rep w F μ st.ob (lk st.env t) (a.tmps.getD t undef)
 step:Step C.w0 C.F0 C.μ0 C.σ0 w F μ st.ob
 fr:Fr C.w0 C.μ0 w μ
 col:∀c b,F c b→C.F0 c b∨C.w0.heap.size≤b
 size:a.tmps.size=C.n
 defers:bS w F μ st.ob C.dd a.defers
def Rel (C:Ctx) (st:St) (a:Act) (w:World):Prop:=∃F μ,Rel0 C F μ st a w
inductive XE where
 |normal
 |exit (id:Nat)
 |ret
 |panic (d:DV)
def iM (C:Ctx) (K:XE→St→Prop):Exit→Act→World→Prop
 |.normal,a,w=>∃st,K .normal st∧Rel C st a w
 |.exit id,a,w=>∃st,K (.exit id) st∧Rel C st a w
 |.ret,a,w=>∃st,K .ret st∧Rel C st a w
 |.panic ch,a,w=>∃st d v F μ,K (.panic d) st∧ch=[{v,recovered:=false}]∧Rel0 C F μ st a w∧Rep w F μ st.ob d v
 |_,_,_=>False
@[reducible] def Ctx.fe (C:Ctx):Fence:={Fence.wide with round:=C.rd}
def SW (C:Ctx) (c:Code) (st:St) (K:XE→St→Prop):Prop:=∀a w,Rel C st a w→c.wpIn C.fe 0 C.P (iM C K) a w
def ap (C:Ctx) (y:Code) (K:XE→St→Prop):XE→St→Prop
 |.normal,st=>SW C y st K
 |e,st=>K e st
theorem SW.seq{C:Ctx}{x y:Code}{st:St}{K:XE→St→Prop} (h:SW C x st (ap C y K)):SW C (.seq x y) st K:=by
 intro a w hr
 refine wpIn_seq (wpIn_mono (h a w hr) fun e a w q=>?_)
 cases e with
 |normal=>obtain⟨st,hk,hr⟩:=q;exact hk a w hr
 |exit id=>exact q
 |goto l=>exact q
 |ret=>exact q
 |panic ch=>exact q
 |outgrown=>exact q
theorem SW.skip{C:Ctx}{st:St}{K:XE→St→Prop} (h:K .normal st):SW C .skip st K:=fun _ _ hr=>wpIn_skip ⟨st,h,hr⟩
theorem SW.exit{C:Ctx}{id:Nat}{st:St}{K:XE→St→Prop} (h:K (.exit id) st):SW C (.exit id) st K:=fun _ _ hr=>wpIn_exit ⟨st,h,hr⟩
theorem SW.ret{C:Ctx}{st:St}{K:XE→St→Prop} (h:K .ret st):SW C .ret st K:=fun _ _ hr=>wpIn_ret ⟨st,h,hr⟩
def aY (id:Nat) (K:XE→St→Prop):XE→St→Prop
 |.exit i,st=>if i=id then K .normal st else K (.exit i) st
 |e,st=>K e st
theorem SW.block{C:Ctx}{id:Nat}{c:Code}{st:St}{K:XE→St→Prop} (h:SW C c st (aY id K)):SW C (.block id c) st K:=by
 intro a w hr
 refine wpIn_block (wpIn_mono (h a w hr) fun e a w q=>?_)
 cases e with
 |normal=>exact q
 |exit i=>
  obtain⟨st,hk,hr⟩:=q
  simp only[aY] at hk
  simp only[Exit.inBlock]
  split at hk
  ·rename_i hi;rw[if_pos hi];exact⟨st,hk,hr⟩
  ·rename_i hi;rw[if_neg hi];exact⟨st,hk,hr⟩
 |goto l=>exact q
 |ret=>exact q
 |panic ch=>exact q
 |outgrown=>exact q
structure Weak (st st':St):Prop where
 ob:st'.ob=st.ob
 env:∀t,lk st'.env t=.undef∨lk st'.env t=lk st.env t
theorem Weak.refl (st:St):Weak st st:=⟨rfl,fun _=>.inr rfl⟩
theorem Rel0.weak{C:Ctx}{F:Nat→Nat→Prop}{μ:Nat→Option Nat}{st st':St}{a:Act}{w:World} (h:Rel0 C F μ st a w) (k:Weak st st'):Rel0 C F μ st' a w:=by
 obtain⟨ho,he⟩:=k
 refine⟨by rw[ho];exact h.hr,fun t=>?_,by rw[ho];exact h.step,h.fr,h.col,h.size,by rw[ho];exact h.defers⟩
 rw[ho]
 rcases he t with e|e
 ·rw[e];exact .undef
 ·rw[e];exact h.env t
theorem Rel.weak{C:Ctx}{st st':St}{a:Act}{w:World} (h:Rel C st a w) (k:Weak st st'):Rel C st' a w:=by
 obtain⟨F,μ,h⟩:=h;exact⟨F,μ,h.weak k⟩
theorem SW.weak{C:Ctx}{c:Code}{st st':St}{K:XE→St→Prop} (k:Weak st st') (h:SW C c st' K):SW C c st K:=fun a w hr=>h a w (hr.weak k)
def cx (n:Nat) (I:Nat→St→Prop) (K:XE→St→Prop):XE→St→Prop
 |.normal,st=>∃m st',m<n∧Weak st st'∧I m st'
 |e,st=>K e st
theorem SW.loop{C:Ctx}{c:Code}{st:St}{K:XE→St→Prop} (I:Nat→St→Prop) (n:Nat) (h0:I n st)
  (h:∀n st,I n st→SW C c st (cx n I K)):SW C (.loop c) st K:=by
 intro a w hr b k cs hro hb hrm
 have key:∀n st a w,I n st→Rel C st a w→
   ∃e a' w',iM C K e a' w'∧ArrivesIn (Machine.fenced C.P C.fe) C.P (lone (b.atR a (.code c::.inLoop c::k)) cs w) b k cs e a' w':=by
  intro n
  induction n using Dh with
  |_ n ih=>
   intro st a w hI hr
   obtain⟨e,a₁,w₁,hq,harr⟩:=h n st hI a w hr b (.inLoop c::k) cs hro hb hrm
   cases e with
   |normal=>
    obtain⟨st1,⟨m,st2,hlt,hw,hI₁⟩,hr1⟩:=hq
    obtain⟨e₂,a₂,w₂,hq₂,harr₂⟩:=ih m hlt st2 a₁ w₁ hI₁ (hr1.weak hw)
    exact⟨e₂,a₂,w₂,hq₂,.of_steps (StepsIn.trans harr (.one (fenced_calm hb hrm rfl) stepR_inLoop)) harr₂⟩
   |exit id=>exact⟨.exit id,a₁,w₁,(show iM C K (.exit id) a₁ w₁ from hq),.pass (x:=.inLoop c) rfl (fun _ _=>.inl (by simp)) harr⟩
   |goto l=>exact hq.elim
   |ret=>exact⟨.ret,a₁,w₁,(show iM C K .ret a₁ w₁ from hq),.pass (x:=.inLoop c) rfl (fun _ _=>.inl (by simp)) harr⟩
   |panic ch=>exact⟨.panic ch,a₁,w₁,(show iM C K (.panic ch) a₁ w₁ from hq),.pass (x:=.inLoop c) rfl (fun _ _=>.inl (by simp)) harr⟩
   |outgrown=>exact hq.elim
 obtain⟨e,a',w',hq,harr⟩:=key n st a w h0 hr
 exact⟨e,a',w',hq,.of_steps (.one (fenced_calm hb hrm rfl) stepR_loop) harr⟩
def ji:Value→DV
 |.int k n=>.int k n
 |.bool b=>.bool b
 |.string s=>.str s
 |.slice none 0 0=>.nils
 |.pointer none=>.nilp
 |.nilIface=>.nili
 |.nilFunc=>.nilf
 |_=>.undef
def eX:Value→DV
 |.agg cs=>.agg (cs.toList.map ji)
 |v=>ji v
section
variable{w:World}{F:Nat→Nat→Prop}{μ:Nat→Option Nat}{σ:List Ob}
theorem mu (v:Value):Rep w F μ σ (ji v) v:=by
 unfold ji
 split<;>constructor
theorem cn (v:Value):Rep w F μ σ (eX v) v:=by
 unfold eX
 split
 ·rename_i cs
  refine .agg (vs:=cs.toList) (by simp) fun i d v hd hv=>?_
  simp only[AQ,hv,AW,AX.injEq] at hd
  subst hd
  exact mu v
 ·exact mu _
end
def ev (env:List (Nat×DV)):Operand→DV
 |.tmp t=>lk env t
 |.const v=>eX v
 |.global _=>.undef
 |.func f=>.fn f []
theorem bb{C:Ctx}{F:Nat→Nat→Prop}{μ:Nat→Option Nat}{st:St}{a:Act}{w:World} (h:Rel0 C F μ st a w) (x:Operand):
  Rep w F μ st.ob (ev st.env x) (a.eval x):=by
 cases x with
 |tmp t=>exact h.env t
 |const v=>exact cn v
 |global g=>exact .undef
 |func f=>exact .fn (vs:=[]) rfl (fun i d v h=>by simp at h)
theorem SW.cond{C:Ctx}{c:Operand}{x y:Code}{st:St}{K:XE→St→Prop} (b:Bool) (hc:ev st.env c=.bool b)
  (ht:b=true→SW C x st K) (hf:b=false→SW C y st K):SW C (.cond c x y) st K:=by
 intro a w hr
 obtain⟨F,μ,h⟩:=hr
 have hv:=bb h c
 rw[hc] at hv
 have hv':a.eval c=.bool b:=by
  generalize a.eval c=v at hv
  cases hv;rfl
 exact wpIn_cond_split hv' (fun e=>ht e a w ⟨F,μ,h⟩) (fun e=>hf e a w ⟨F,μ,h⟩)
theorem gq{P:Program}{ρ:Operand→Value}{o:Oper}{c:Call} (ho:o.op=.defer c){r:Next}{w w':World} (h:(execOp ρ o).run P w=.ok r w'):∃d,r=.defer d:=by
 simp only[execOp,ho,Sem.run_bind] at h
 cases hq:(resolve ρ c o.type).run P w with
 |halt x y=>rw[hq] at h;cases h
 |ok d y=>rw[hq] at h;cases h;exact⟨d,rfl⟩
theorem bR{P:Program}{ro:Option Nat}{o:Oper}{a:Act}{w:World}{K:Act→World→Prop}{Q:Exit→Act→World→Prop} (hd:ro=none∨∀c,o.op≠ .defer c) (h:o.wp P a w K Q):o.wpIn {Fence.wide with round:=ro} 0 P a w K Q:=by
 refine⟨fun _ _=>trivial,?_⟩
 have hs:o.semAt ro a.eval=execOp a.eval o:=by
  rcases hd with hd|hd
  ·rw[hd];rfl
  ·exact Oper.semAt_eq _ _ _ hd
 show o.uponIn {Fence.wide with round:=ro} 0 P a K Q ((o.semAt ro a.eval).run P w)
 rw[hs]
 unfold Oper.wp at h
 generalize (execOp a.eval o).run P w=r at h
 cases r with
 |ok n w'=>
  cases n with
  |value v=>exact h
  |skip=>exact h
  |defer d=>exact h
  |enter f args=>exact⟨fun e=>(by cases e),(callsIn_wide (n:=0)).2 h⟩
  |row row args=>exact⟨fun e=>(by cases e),fun c cs _=>let⟨v,w'',r1,s1⟩:=h c cs;⟨v,w'',r1,stepsIn_wide.2 s1⟩⟩
  |_=>exact h.elim
 |halt x w'=>cases x<;>first|exact h|exact h.elim
def aa (C:Ctx) (ops:Array Oper) (rest:List Oper) (st:St) (K:XE→St→Prop):Prop:=∀a w,Rel C st a w→wpListIn C.fe 0 C.P ops (iM C K) rest a w
theorem SW.region{C:Ctx}{id:Nat}{ops:Array Oper}{st:St}{K:XE→St→Prop} (h:aa C ops ops.toList st K):SW C (.region id ops false) st K:=
 fun a w hr=>wpIn_region_list (h a w hr)
theorem aa.nil{C:Ctx}{ops:Array Oper}{st:St}{K:XE→St→Prop} (h:K .normal st):aa C ops [] st K:=fun _ _ hr=>⟨st,h,hr⟩
theorem aa.weak{C:Ctx}{ops:Array Oper}{rest:List Oper}{st st':St}{K:XE→St→Prop} (k:Weak st st') (h:aa C ops rest st' K):aa C ops rest st K:=
 fun a w hr=>h a w (hr.weak k)
def gd (ops:Array Oper) (env:List (Nat×DV)) (o:Oper):Option Bool:=
 match o.guard with
 |none=>some true
 |some (j,want)=>match(ops[j]?).bind (·.dst) with
  |some t=>match lk env t with
   |.bool b=>some (b==want)
   |.skip=>some false
   |_=>none
  |none=>none
theorem aK{C:Ctx}{F:Nat→Nat→Prop}{μ:Nat→Option Nat}{st:St}{a:Act}{w:World} (h:Rel0 C F μ st a w){ops:Array Oper}{o:Oper}{b:Bool}
  (hg:gd ops st.env o=some b):Region.wanted o (yielded ops a.tmps)=b:=by
 unfold gd at hg
 unfold Region.wanted
 split at hg
 ·rename_i hn;rw[hn];exact AX.inj hg
 ·rename_i j want hn
  rw[hn]
  dsimp only
  split at hg
  ·rename_i t ht
   split at hg
   ·rename_i b' hb
    have he:=h.env t
    rw[hb] at he
    unfold yielded
    rw[ht]
    have hv:a.tmps[t]?=some (.bool b'):=by
     rw[A0] at he
     generalize a.tmps[t]?=q at he
     cases q with
     |none=>simp[undef] at he;cases he
     |some v=>simp at he;cases he;rfl
    simp only[C6,hv]
    rw[←AX.inj hg]
    cases b'<;>cases want<;>rfl
   ·rename_i hb
    have he:=h.env t
    rw[hb] at he
    unfold yielded
    rw[ht]
    rw[←AX.inj hg]
    have hv:a.tmps[t]?=none∨a.tmps[t]?=some undef:=by
     rw[A0] at he
     generalize a.tmps[t]?=q at he
     cases q with
     |none=>exact .inl rfl
     |some v=>simp at he;cases he;exact .inr rfl
    simp only[C6]
    rcases hv with hv|hv<;>rw[hv]<;>rfl
   ·cases hg
  ·cases hg
def ar (P:Program) (o:Oper) (st:St) (d:DV) (ob':List Ob):Prop:=
 ∀(a:Act) (w:World) (F:Nat→Nat→Prop) (μ:Nat→Option Nat),HR w F μ st.ob→(∀x,Rep w F μ st.ob (ev st.env x) (a.eval x))→
  ∃r w' μ' v,(execOp a.eval o).run P w=.ok r w'∧(r=.value v∨(r=.skip∧v=undef))∧HR w' F μ' ob'∧Step w F μ st.ob w' F μ' ob'∧Fr w μ w' μ'∧Rep w' F μ' ob' d v
theorem mB (a:Act) (dst:Option Tmp) (v:Value) (t:Nat):(a.put dst v).tmps.getD t undef=match dst with
  |some d=>if d=t∧t<a.tmps.size then v else a.tmps.getD t undef
  |none=>a.tmps.getD t undef:=by
 cases dst with
 |none=>rfl
 |some d=>
  simp only[Act.put,A0,Bu]
  by_cases h:d=t
  ·subst h
   by_cases hs:d<a.tmps.size<;>simp[hs]
  ·simp[h]
theorem bG (a:Act) (dst:Option Tmp) (v:Value):(a.put dst v).tmps.size=a.tmps.size:=by cases dst<;>simp[Act.put]
theorem a8 (a:Act) (dst:Option Tmp) (v:Value):(a.put dst v).defers=a.defers:=by cases dst<;>rfl
theorem cg{C:Ctx}{st:St}{a:Act}{w:World}{F:Nat→Nat→Prop}{μ:Nat→Option Nat}{ob:List Ob} (hs:a.tmps.size=C.n)
  (he:∀t,Rep w F μ ob (lk st.env t) (a.tmps.getD t undef)) (dst:Option Tmp) (hd:∀t,dst=some t→t<C.n){d:DV}{v:Value} (hv:Rep w F μ ob d v):
  ∀t,Rep w F μ ob (lk (upo st.env dst d) t) ((a.put dst v).tmps.getD t undef):=by
 intro t
 rw[mB]
 cases dst with
 |none=>exact he t
 |some q=>
  simp only[upo]
  rw[iT]
  by_cases h:q=t
  ·subst h
   rw[if_pos rfl,if_pos ⟨rfl,by rw[hs];exact hd q rfl⟩]
   exact hv
  ·rw[if_neg h,if_neg (fun e=>h e.1)]
   exact he t
theorem aa.op{C:Ctx}{ops:Array Oper}{rest:List Oper}{o:Oper}{st:St}{K:XE→St→Prop}{d:DV}{ob':List Ob}
  (hg:gd ops st.env o=some true) (hd:∀t,o.dst=some t→t<C.n) (hop:ar C.P o st d ob') (h:aa C ops rest ⟨upo st.env o.dst d,ob'⟩ K):aa C ops (o::rest) st K:=by
 rintro a w ⟨F,μ,hr⟩
 refine wpListIn_step fun K' hK=>?_
 rw[if_pos (aK hr hg)]
 obtain⟨r,w',μ',v,hrun,hv,hh,hst,hfr,hrep⟩:=hop a w F μ hr.hr (bb hr)
 have goal:K' (a.put o.dst v) w':=by
  refine hK _ _ (h _ _ ⟨F,μ',hh,?_,hr.step.trans hst,hr.fr.trans hfr,hr.col,by rw[bG];exact hr.size,by rw[a8];exact hr.defers.step hst⟩)
  exact cg (C:=C) (st:=st) hr.size (fun t=>(hr.env t).step hst) o.dst hd hrep
 refine bR (.inr fun c hc=>?_) ?_
 ·obtain⟨d',rfl⟩:=gq hc hrun
  rcases hv with e|⟨e,_⟩<;>cases e
 unfold Oper.wp
 rw[hrun]
 rcases hv with rfl|⟨rfl,rfl⟩
 ·exact goal
 ·exact goal
theorem aa.pass{C:Ctx}{ops:Array Oper}{rest:List Oper}{o:Oper}{st:St}{K:XE→St→Prop}
  (hg:gd ops st.env o=some false) (hd:∀t,o.dst=some t→t<C.n) (h:aa C ops rest ⟨upo st.env o.dst .skip,st.ob⟩ K):aa C ops (o::rest) st K:=by
 rintro a w ⟨F,μ,hr⟩
 refine wpListIn_step fun K' hK=>?_
 rw[if_neg (by rw[aK hr hg];simp)]
 refine⟨fun _ _=>trivial,?_⟩
 refine hK _ _ (h _ _ ⟨F,μ,hr.hr,?_,hr.step,hr.fr,hr.col,by rw[bG];exact hr.size,by rw[a8];exact hr.defers⟩)
 exact cg (C:=C) (st:=st) hr.size hr.env o.dst hd .skip
inductive Out where
 |ret (d:DV)
 |pan (d:DV)
structure After (w:World) (F:Nat→Nat→Prop) (μ:Nat→Option Nat) (σ:List Ob) (w':World) (F':Nat→Nat→Prop) (μ':Nat→Option Nat) (σ':List Ob):Prop where
 hr:HR w' F' μ' σ'
 step:Step w F μ σ w' F' μ' σ'
 fr:Fr w μ w' μ'
 col:∀c b,F' c b→F c b∨w.heap.size≤b
def di (o:Out) (σ':List Ob) (w:World) (F:Nat→Nat→Prop) (μ:Nat→Option Nat) (σ:List Ob) (e:Ending) (w':World):Prop:=
 ∃F' μ' v,After w F μ σ w' F' μ' σ'∧match o with
  |.ret d=>e=.returned v∧Rep w' F' μ' σ' d v
  |.pan d=>e=.panicked [{v,recovered:=false}]∧Rep w' F' μ' σ' d v
structure Ok (P:Program) (f:FuncId) (args:List DV) (σ:List Ob) (o:Out) (σ':List Ob):Prop where
 enters:∀(vs:Array Value) (w:World),(callFunc f vs).run P w=.ok (.enter f vs) w
 calls:∀(w:World) (F:Nat→Nat→Prop) (μ:Nat→Option Nat) (vs:List Value),HR w F μ σ→bF w F μ σ args vs→Calls P f ⟨vs⟩ w (di o σ' w F μ σ)
theorem qo{C:Ctx}{F:Nat→Nat→Prop}{μ:Nat→Option Nat}{st:St}{a:Act}{w:World} (h:Rel0 C F μ st a w) (xs:List Operand):
  bF w F μ st.ob (xs.map (ev st.env)) (xs.map a.eval):=by
 refine⟨by simp,fun i d v hd hv=>?_⟩
 rw[AQ] at hd hv
 cases hx:xs[i]? with
 |none=>simp[hx] at hd
 |some x=>
  simp only[hx,AW,AX.injEq] at hd hv
  subst hd;subst hv
  exact bb h x
theorem bF.append{w:World}{F:Nat→Nat→Prop}{μ:Nat→Option Nat}{σ:List Ob}{ds es:List DV}{vs us:List Value} (h:bF w F μ σ ds vs) (k:bF w F μ σ es us):
  bF w F μ σ (ds++es) (vs++us):=by
 refine⟨by simp[h.1,k.1],fun i d v hd hv=>?_⟩
 rcases Bp i ds.length with hi|hi
 ·rw[AJ hi] at hd
  rw[AJ (by rw[←h.1];exact hi)] at hv
  exact h.2 i d v hd hv
 ·rw[AT hi] at hd
  rw[AT (by rw[←h.1];exact hi),←h.1] at hv
  exact k.2 _ d v hd hv
def outK (C:Ctx) (ops:Array Oper) (rest:List Oper) (dst:Option Tmp) (env:List (Nat×DV)) (σ':List Ob) (K:XE→St→Prop):Out→Prop
 |.ret d=>aa C ops rest ⟨upo env dst d,σ'⟩ K
 |.pan d=>K (.panic d) ⟨env,σ'⟩
theorem aa.call{C:Ctx}{ops:Array Oper}{rest:List Oper}{o:Oper}{st:St}{K:XE→St→Prop}{g:Operand}{xs:Array Operand}{ts:Array TypeId}{f:FuncId}{caps:List DV}{out:Out}{σ':List Ob}
  (hg:gd ops st.env o=some true) (hd:∀t,o.dst=some t→t<C.n) (ho:o.op=.call {callee:=.value g,args:=xs,argTypes:=ts}) (hf:ev st.env g=.fn f caps)
  (hok:Ok C.P f (xs.toList.map (ev st.env)++caps) st.ob out σ') (h:outK C ops rest o.dst st.env σ' K out):aa C ops (o::rest) st K:=by
 rintro a w ⟨F,μ,hr⟩
 refine wpListIn_step fun K' hK=>?_
 rw[if_pos (aK hr hg)]
 have hv:=bb hr g
 rw[hf] at hv
 have hcap:∃vs:List Value,a.eval g=.func (.func f) #[] ⟨vs⟩∧bF w F μ st.ob caps vs:=by
  generalize a.eval g=v at hv
  cases hv with
  |fn hl hh=>exact⟨_,rfl,hl,hh⟩
 obtain⟨cvs,hge,hcr⟩:=hcap
 have hrun:(execOp a.eval o).run C.P w=.ok (.enter f ⟨xs.toList.map a.eval++cvs⟩) w:=by
  unfold execOp
  rw[ho]
  dsimp only[resolve]
  rw[hge]
  have harr:(xs.map a.eval++(⟨cvs⟩:Array Value))=⟨xs.toList.map a.eval++cvs⟩:=by
   apply BJ
   simp
  simp only[Deferred.ofValue,Sem.run_bind,Sem.run_pure,Result.andThen_ok,invoke,B3,harr]
  exact hok.enters _ w
 refine bR (.inr fun c hc=>by rw[ho] at hc;cases hc) ?_
 unfold Oper.wp
 rw[hrun,Oper.upon_enter]
 refine(hok.calls w F μ _ hr.hr ((qo hr xs.toList).append hcr)).mono fun e w' he=>?_
 obtain⟨F',μ',v,haf,hout⟩:=he
 have hrel:∀d,Rep w' F' μ' σ' d v→Rel0 C F' μ' ⟨upo st.env o.dst d,σ'⟩ (a.put o.dst v) w':=fun d hd'=>
  ⟨haf.hr,cg (C:=C) (st:=st) hr.size (fun t=>(hr.env t).step haf.step) o.dst hd hd',hr.step.trans haf.step,hr.fr.trans haf.fr,
   fun c b hb=>(haf.col c b hb).elim (hr.col c b) (fun q=>.inr (Bl hr.fr.size q)),by rw[bG];exact hr.size,by rw[a8];exact hr.defers.step haf.step⟩
 cases out with
 |ret d=>
  obtain⟨rfl,hrep⟩:=hout
  exact hK _ _ (h _ _ ⟨F',μ',hrel d hrep⟩)
 |pan d=>
  obtain⟨rfl,hrep⟩:=hout
  exact⟨_,d,v,F',μ',h,rfl,⟨haf.hr,fun t=>(hr.env t).step haf.step,hr.step.trans haf.step,hr.fr.trans haf.fr,
   fun c b hb=>(haf.col c b hb).elim (hr.col c b) (fun q=>.inr (Bl hr.fr.size q)),hr.size,hr.defers.step haf.step⟩,hrep⟩
end
section
inductive TD where
 |int (k:IntKind)
 |bool
 |str
 |slice (e:Nat)
 |struct (fs:List (Nat×Nat))
 |array (n e:Nat)
 |pointer (e:Nat)
 |map (k v:Nat)
 |other
 deriving Inhabited
def TD.isAgg:TD→Bool
 |.struct _|.array _ _=>true
 |_=>false
structure TI where
 eq:Bool
 k:Nat
 bytes:Nat
 d:TD
 zero:DV
 deriving Inhabited
def kV:TD→TypeDesc→Prop
 |.int k,d=>d=.int k
 |.bool,d=>d=.bool
 |.str,d=>d=.string
 |.slice e,d=>d=.slice e
 |.struct fs,d=>∃fields,d=.struct fields∧fields.toList.map (fun f=>(f.offset,f.type))=fs
 |.array n e,d=>d=.array n e
 |.pointer e,d=>d=.pointer e
 |.map k v,d=>d=.map k v
 |.other,d=>(match d with|.struct _|.array _ _|.interface _|.int _=>false|_=>true)=true
structure TOk (P:Program) (t:Nat) (i:TI):Prop where
 info:∃ti z,P.info? t=some ti∧ti.size=i.k∧ti.bytes=i.bytes∧ti.zero=some z∧z.cells.size=i.k∧eX z=i.zero
 und:∃d,P.underlying t=some d∧kV i.d d
 eqs:i.eq=true→P.stoodInHeld t=false∧P.eqGuardType P.depth t=false∧∀fs,P.underlying t=some (.struct fs)→∀f∈fs.toList,f.name≠ "_"
theorem TOk.of_info{P:Program}{t:Nat}{i:TI}{k by_:Nat}{z:Value} (h:(P.info? t).map (fun i=>(i.size,i.bytes,i.zero))=some (k,by_,some z)) (hz:z.cells.size=k∧k=i.k∧by_=i.bytes) (ho:eX z=i.zero)
  (hu:∃d,P.underlying t=some d∧kV i.d d)
  (he:i.eq=true→P.stoodInHeld t=false∧P.eqGuardType P.depth t=false∧∀fs,P.underlying t=some (.struct fs)→∀f∈fs.toList,f.name≠ "_" :=by intro h;cases h):TOk P t i:=by
 cases hi:P.info? t with
 |none=>rw[hi] at h;cases h
 |some ti=>
  rw[hi] at h
  simp only[AW,AX.injEq,Prod.mk.injEq] at h
  obtain⟨h1,h2,h3⟩:=h
  exact⟨⟨ti,z,hi,h1.trans hz.2.1,h2.trans hz.2.2,h3,hz.1.trans hz.2.1,ho⟩,hu,he⟩
theorem wZ{P:Program}{t:Nat} (h1:P.stoodInHeld t=false) (h2:P.eqGuardType P.depth t=false) (h3:((P.underlying t).map fun d=>match d with|.struct fs=>fs.toList.all (fun f=>f.name != "_")|_=>false)=some true):
  P.stoodInHeld t=false∧P.eqGuardType P.depth t=false∧∀fs,P.underlying t=some (.struct fs)→∀f∈fs.toList,f.name≠ "_" :=by
 refine⟨h1,h2,fun fs hu f hf=>?_⟩
 rw[hu] at h3
 simp only[AW,AX.injEq,AS] at h3
 simpa using h3 f hf
abbrev Lay:=Nat→Option TI
def af (P:Program) (L:Lay):Prop:=∀t i,L t=some i→TOk P t i
section
variable{P:Program}{t:Nat}{i:TI}
theorem TOk.size (h:TOk P t i) (w:World):(sizeOf t).run P w=.ok i.k w:=by
 obtain⟨ti,z,h1,h2,_⟩:=h.info
 simp[sizeOf,typeInfo,h1,h2,program,Sem.run]
theorem TOk.isAgg (h:TOk P t i) (w:World):(Go.isAgg t).run P w=.ok i.d.isAgg w:=by
 obtain⟨d,h1,h2⟩:=h.und
 have hu:=run_underlying h1 w
 simp only[Go.isAgg,Sem.run_bind,hu,Result.andThen_ok]
 cases hd:i.d<;>rw[hd] at h2<;>simp only[kV] at h2<;>try(subst h2;rfl)
 ·obtain⟨f,rfl,_⟩:=h2;rfl
 ·cases d<;>first|rfl|(simp at h2)
theorem TOk.zero (h:TOk P t i) (w:World):∃z,(zeroValue t).run P w=.ok z w∧z.cells.size=i.k∧eX z=i.zero:=by
 obtain⟨ti,z,h1,h2,h3,h4,h5,h6⟩:=h.info
 exact⟨z,by simp[zeroValue,typeInfo,h1,h4,program,Sem.run],h5,h6⟩
end
theorem ar.pure{P:Program}{o:Oper}{st:St}{d:DV}
  (h:∀(a:Act) (w:World) (F:Nat→Nat→Prop) (μ:Nat→Option Nat),HR w F μ st.ob→(∀x,Rep w F μ st.ob (ev st.env x) (a.eval x))→
   ∃v,(execOp a.eval o).run P w=.ok (.value v) w∧Rep w F μ st.ob d v):ar P o st d st.ob:=by
 intro a w F μ hr he
 obtain⟨v,h1,h2⟩:=h a w F μ hr he
 exact⟨_,w,μ,v,h1,.inl rfl,hr,Step.refl ..,Fr.refl ..,h2⟩
def bits (k:IntKind) (op:BinOp) (a b:Int):Int:=
 match op with
 |.and=>k.wrap (BitVec.ofInt k.bits a&&&BitVec.ofInt k.bits b).toNat
 |.or=>k.wrap (BitVec.ofInt k.bits a|||BitVec.ofInt k.bits b).toNat
 |.xor=>k.wrap (BitVec.ofInt k.bits a^^^BitVec.ofInt k.bits b).toNat
 |_=>k.wrap (BitVec.ofInt k.bits a&&&~~~ BitVec.ofInt k.bits b).toNat
def ci (op:BinOp) (k:IntKind) (a b:Int):Option DV:=
 match op with
 |.add=>some (.int k (k.wrap (a+b)))
 |.sub=>some (.int k (k.wrap (a-b)))
 |.mul=>some (.int k (k.wrap (a*b)))
 |.quo=>if b=0 then none else some (.int k (k.wrap (a.tdiv b)))
 |.rem=>if b=0 then none else some (.int k (a.tmod b))
 |.and=>some (.int k (bits k .and a b))
 |.or=>some (.int k (bits k .or a b))
 |.xor=>some (.int k (bits k .xor a b))
 |.andNot=>some (.int k (bits k .andNot a b))
 |.eql=>some (.bool (a==b))
 |.neq=>some (.bool (a !=b))
 |.lss=>some (.bool (decide (a<b)))
 |.leq=>some (.bool (decide (a≤b)))
 |.gtr=>some (.bool (decide (a>b)))
 |.geq=>some (.bool (decide (a≥b)))
 |_=>none
def bA (op:BinOp) (k:IntKind) (a b:Int):Option DV:=
 if b<0 then none else
 match op with
 |.shl=>some (.int k (k.wrap (a*2^(min b.toNat k.bits))))
 |.shr=>some (.int k (a.fdiv (2^(min b.toNat k.bits))))
 |_=>none
def fF:DV→Value
 |.int k n=>.int k n
 |.bool b=>.bool b
 |.str s=>.string s
 |_=>undef
def DV.scal:DV→Bool
 |.int _ _|.bool _|.str _=>true
 |_=>false
theorem eA{w:World}{F:Nat→Nat→Prop}{μ:Nat→Option Nat}{σ:List Ob}{d:DV} (h:d.scal=true):Rep w F μ σ d (fF d):=by
 cases d<;>first|(cases h;done)|constructor
set_option linter.unusedSimpArgs false in
theorem si{P:Program}{op:BinOp}{k:IntKind}{a b:Int}{d:DV} (h:ci op k a b=some d) (t:TypeId) (w:World):
  (binOp op t (.int k a) (.int k b)).run P w=.ok (fF d) w∧d.scal=true:=by
 cases op<;>simp only[ci] at h
 case quo=>
  by_cases hb:b=0
  ·rw[if_pos hb] at h;cases h
  ·rw[if_neg hb] at h;cases h;exact⟨by simp[binOp,Op.intDiv,hb,fF],rfl⟩
 case rem=>
  by_cases hb:b=0
  ·rw[if_pos hb] at h;cases h
  ·rw[if_neg hb] at h;cases h;exact⟨by simp[binOp,Op.intDiv,hb,fF],rfl⟩
 all_goals first
  |(cases h;done)
  |(cases h;exact⟨by simp[binOp,Op.intArith,Op.intCmp,Op.intBits,fF,bits],rfl⟩)
theorem jR{P:Program}{op:BinOp}{k k':IntKind}{a b:Int}{d:DV} (h:bA op k a b=some d) (t:TypeId) (w:World):
  (binOp op t (.int k a) (.int k' b)).run P w=.ok (fF d) w∧d.scal=true:=by
 unfold bA at h
 by_cases hb:b<0
 ·rw[if_pos hb] at h;cases h
 ·rw[if_neg hb] at h
  cases op<;>simp only at h<;>first|(cases h;done)|(cases h;exact⟨by simp[binOp,Op.shift,hb,fF],rfl⟩)
def jz (op:BinOp) (a b:ByteArray):Option DV:=
 match op with
 |.add=>if((a.size+b.size:Nat):Int)>IntKind.i64.max then none else some (.str (a++b))
 |.eql=>some (.bool (a.toList==b.toList))
 |.neq=>some (.bool (!(a.toList==b.toList)))
 |.lss=>some (.bool (Op.bytesLess a.toList b.toList))
 |_=>none
theorem sh{P:Program}{op:BinOp}{a b:ByteArray}{d:DV} (h:jz op a b=some d) (t:TypeId) (w:World):
  (binOp op t (.string a) (.string b)).run P w=.ok (fF d) w∧d.scal=true:=by
 cases op<;>simp only[jz] at h
 case add=>
  by_cases hb:((a.size+b.size:Nat):Int)>IntKind.i64.max
  ·rw[if_pos hb] at h;cases h
  ·rw[if_neg hb] at h;cases h
   refine⟨?_,rfl⟩
   simp only[binOp,Op.stringOp,fF]
   rw[if_neg hb];rfl
 all_goals first
  |(cases h;done)
  |(cases h;exact⟨by simp[binOp,Op.stringOp,fF],rfl⟩)
def un (op:UnOp):DV→Option DV
 |.int k n=>match op with
  |.neg=>some (.int k (k.wrap (0-n)))
  |.xor=>some (.int k (bits k .xor (if k.signed then -1 else k.max) n))
  |_=>none
 |.bool b=>match op with
  |.not=>some (.bool (!b))
  |_=>none
 |_=>none
theorem vZ{P:Program}{op:UnOp}{x d:DV}{v:Value} (h:un op x=some d) (hv:v=fF x) (hs:x.scal=true) (w:World):
  (Op.unary op v).run P w=.ok (fF d) w∧d.scal=true:=by
 subst hv
 cases x<;>first|(cases hs;done)|skip
 all_goals cases op<;>simp only[un] at h<;>first|(cases h;done)|(cases h;exact⟨by simp[Op.unary,Op.intArith,Op.intBits,fF,bits],rfl⟩)
end
section
theorem vu (a:Addr):a.add 0=a:=by simp[Addr.add]
theorem iq (a:Addr) (m n:Nat):(a.add m).add n=a.add (m+n):=by
 unfold Addr.add
 by_cases hm:m=0<;>by_cases hn:n=0<;>simp[hm,hn,C0]
theorem cj (b o n:Nat):(⟨b,o,none⟩:Addr).add n=⟨b,o+n,none⟩:=by
 unfold Addr.add
 by_cases hn:n=0<;>simp[hn]
def DV.full:DV→Bool
 |.undef|.tup _|.skip=>false
 |_=>true
def DV.one:DV→Bool
 |.undef|.tup _|.agg _|.skip=>false
 |_=>true
section
variable{w:World}{F:Nat→Nat→Prop}{μ:Nat→Option Nat}{σ:List Ob}
theorem tE{d:DV}{v:Value} (h:Rep w F μ σ d v) (hd:d.one=true):v.cells= #[v]∧v.oneCell'=true:=by
 cases h<;>first|exact⟨rfl,rfl⟩|(cases hd)
theorem eC{d:DV}{v:Value} (h:Rep w F μ σ d v) (hd:d.full=true):
  v.cells.size=d.cells.length∧∀(i:Nat) (e:DV) (u:Value),d.cells[i]?=some e→v.cells[i]?=some u→Rep w F μ σ e u:=by
 cases h with
 |agg hl hh=>exact⟨by simp[Value.cells,DV.cells,hl],fun i e u he hu=>hh i e u he (by simpa[Value.cells] using hu)⟩
 |undef=>cases hd
 |skip=>cases hd
 |tup=>cases hd
 |_=>
  refine⟨rfl,fun i e u he hu=>?_⟩
  cases i with
  |zero=>
   simp only[DV.cells,AY,AX.injEq] at he
   simp[Value.cells] at hu
   subst he;subst hu
   constructor<;>assumption
  |succ i=>simp[DV.cells] at he
end
def dQ (L:Lay) (t f:Nat) (d:DV):Option DV:=
 match L t with
 |some {d:=.struct fs,..}=>match fs[f]? with
  |some (off,ft)=>match L ft with
   |some ti=>if ti.k=0 then none else match d with
    |.ptr id g j o=>some (.ptr id g j (o+off))
    |.vptr c cs=>some (.vptr c (cs.drop off))
    |_=>none
   |none=>none
  |none=>none
 |_=>none
theorem nB{P:Program}{L:Lay} (hL:af P L){w:World}{F:Nat→Nat→Prop}{μ:Nat→Option Nat}{σ:List Ob}{t f:Nat}{d d':DV}{v:Value}
  (h:dQ L t f d=some d') (hv:Rep w F μ σ d v):∃v',(Instr.fieldAt t v f).run P w=.ok v' w∧Rep w F μ σ d' v':=by
 unfold dQ at h
 split at h<;>try cases h
 rename_i k by_ fs z ht
 split at h<;>try cases h
 rename_i off ft hf
 split at h<;>try cases h
 rename_i ti hft
 split at h<;>try cases h
 rename_i hk
 obtain⟨desc,hu,fields,rfl,hfs⟩:=(hL _ _ ht).und
 have hfield:∃fd,fields[f]?=some fd∧fd.offset=off∧fd.type=ft:=by
  have:(fields.toList.map (fun f=>(f.offset,f.type)))[f]?=some (off,ft):=by rw[hfs];exact hf
  rw[AQ] at this
  cases hq:fields.toList[f]? with
  |none=>simp[hq] at this
  |some fd=>
   simp[hq] at this
   exact⟨fd,by simpa using hq,this.1,this.2⟩
 obtain⟨fd,hfd,rfl,rfl⟩:=hfield
 have hrun:∀a,v=.pointer (some a)→(Instr.fieldAt t v f).run P w=.ok (.pointer (some (a.add fd.offset))) w:=by
  rintro a rfl
  simp only[Instr.fieldAt,Sem.run_bind,run_underlying hu,Result.andThen_ok,hfd,Instr.sureAddr,Sem.run_pure,fieldPlace,(hL _ _ hft).size]
  rw[if_neg hk]
  rfl
 split at h<;>try cases h
 ·cases hv with
  |ptr hp=>
   refine⟨_,hrun _ rfl,.ptr ?_⟩
   obtain⟨t',k',xs,h1,h2,h3⟩:=hp
   refine⟨t',k',xs,h1,h2,fun he=>?_⟩
   obtain⟨b,hb,rfl⟩:=h3 he
   exact⟨b,hb,by rw[cj];congr 1;omega⟩
 ·cases hv with
  |vptr u hF hu' hr=>
   refine⟨_,hrun _ rfl,.vptr (fun i=>u (fd.offset+i)) (by rw[dC];exact hF) (fun i hi=>?_) (fun i e he=>?_)⟩
   ·rw[iq]
    exact hu' _ (by rw[BP] at hi;omega)
   ·exact hr _ _ (by rw[Bk] at he;exact he)
def bg (L:Lay) (σ:List Ob) (t:Nat) (d i:DV):Option DV:=
 match i with
 |.int _ n=>match L t with
  |some {d:=.slice e,..}=>match L e with
   |some ti=>match d with
    |.vec c k xs=>if ti.k=k then(if 0≤n∧n<(xs.length:Int) then some (.vptr c (xs[n.toNat]?.getD .undef).cells) else none) else none
    |.sl id g off len=>match σ[id]? with
     |some (.arr _ k xs)=>if ti.k=k then(if g=xs.length then(if 0≤n∧n<(len:Int) then some (.ptr id g (off+n.toNat) 0) else none) else none) else none
     |_=>none
    |_=>none
   |none=>none
  |some {d:=.array m e,..}=>match L e with
   |some ti=>if 0≤n∧n<(m:Int) then match d with
     |.ptr id g j o=>some (.ptr id g j (o+n.toNat*ti.k))
     |.vptr c cs=>some (.vptr c (cs.drop (n.toNat*ti.k)))
     |_=>none
    else none
   |none=>none
  |_=>none
 |_=>none
theorem nA{P:Program}{L:Lay} (hL:af P L){w:World}{F:Nat→Nat→Prop}{μ:Nat→Option Nat}{σ:List Ob}{t:Nat}{d i d':DV}{v vi:Value}
  (h:bg L σ t d i=some d') (hv:Rep w F μ σ d v) (hi:Rep w F μ σ i vi):∃v',(Instr.indexAt t v vi).run P w=.ok v' w∧Rep w F μ σ d' v':=by
 unfold bg at h
 split at h<;>try cases h
 rename_i kk n
 cases hi
 split at h<;>try cases h
 ·rename_i k0 by0 e z ht
  obtain⟨desc,hu,rfl⟩:=(hL _ _ ht).und
  split at h<;>try cases h
  rename_i ti hte
  have hsz:=(hL _ _ hte).size w
  split at h<;>try cases h
  ·rename_i c k xs
   by_cases hk:ti.k=k
   ·rw[if_pos hk] at h
    by_cases hn:0≤n∧n<(xs.length:Int)
    ·rw[if_pos hn] at h
     cases h
     cases hv with
     |vec u hc hm ha hk' hr=>
      have hlt:n.toNat<xs.length:=by omega
      obtain⟨a,rfl,hF,hcell⟩:=ha (by omega)
      refine⟨.pointer (some (a.add (n.toNat*ti.k))),?_,?_⟩
      ·simp only[Instr.indexAt,Sem.run_bind,asIntOf,Sem.run_pure,Result.andThen_ok,run_underlying hu]
       rw[if_pos hn]
       simp[hsz]
      ·have hx:xs[n.toNat]?=some xs[n.toNat]:=AI hlt
       rw[hx]
       have hlen:=hk' _ (BS hlt)
       refine .vptr (fun i=>u n.toNat i) (by rw[dC];exact hF) (fun i hi=>?_) (fun i e he=>hr n.toNat i _ e hx he)
       rw[iq,hk]
       exact hcell _ _ hlt (by rw[←hlen];exact hi)
    ·rw[if_neg hn] at h;cases h
   ·rw[if_neg hk] at h;cases h
  ·rename_i id g off len
   split at h<;>try cases h
   rename_i t' k xs ho
   by_cases hk:ti.k=k
   ·rw[if_pos hk] at h
    by_cases hg:g=xs.length
    ·rw[if_pos hg] at h
     by_cases hn:0≤n∧n<(len:Int)
     ·rw[if_pos hn] at h
      cases h
      cases hv with
      |sl hs=>
       obtain⟨t2,k2,xs2,ho2,h1,h2,h3,h4,h5⟩:=hs
       rw[ho] at ho2
       cases ho2
       rcases h5 hg with⟨g0,_⟩|⟨b,cur,fr,hmu,hh,hsize,hAs,hA⟩
       ·omega
       ·have hA':=hA (by omega)
        subst hA'
        refine⟨.pointer (some ((⟨b,off*k,none⟩:Addr).add (n.toNat*ti.k))),?_,.ptr ⟨t',k,xs,ho,h2,fun _=>⟨b,hmu,?_⟩⟩⟩
        ·simp only[Instr.indexAt,Sem.run_bind,asIntOf,Sem.run_pure,Result.andThen_ok,run_underlying hu]
         rw[if_pos hn]
         simp[hsz]
        ·rw[cj,hk,Bx];rfl
     ·rw[if_neg hn] at h;cases h
    ·rw[if_neg hg] at h;cases h
   ·rw[if_neg hk] at h;cases h
 ·rename_i k0 by0 m e z ht
  obtain⟨desc,hu,rfl⟩:=(hL _ _ ht).und
  split at h<;>try cases h
  rename_i ti hte
  have hsz:=(hL _ _ hte).size w
  by_cases hn:0≤n∧n<(m:Int)
  ·rw[if_pos hn] at h
   have hrun:∀a,v=.pointer (some a)→(Instr.indexAt t v (.int kk n)).run P w=.ok (.pointer (some (a.add (n.toNat*ti.k)))) w:=by
    rintro a rfl
    simp only[Instr.indexAt,Sem.run_bind,asIntOf,Sem.run_pure,Result.andThen_ok,run_underlying hu,Instr.sureAddr]
    rw[if_pos hn]
    simp[hsz]
   split at h<;>try cases h
   ·cases hv with
    |ptr hp=>
     refine⟨_,hrun _ rfl,.ptr ?_⟩
     obtain⟨t',k',xs,h1,h2,h3⟩:=hp
     refine⟨t',k',xs,h1,h2,fun he=>?_⟩
     obtain⟨b,hb,rfl⟩:=h3 he
     exact⟨b,hb,by rw[cj];congr 1;omega⟩
   ·cases hv with
    |vptr u hF hu' hr=>
     refine⟨_,hrun _ rfl,.vptr (fun i=>u (n.toNat*ti.k+i)) (by rw[dC];exact hF) (fun i hi=>?_) (fun i e he=>?_)⟩
     ·rw[iq]
      exact hu' _ (by rw[BP] at hi;omega)
     ·exact hr _ _ (by rw[Bk] at he;exact he)
  ·rw[if_neg hn] at h;cases h
theorem c7{P:Program}{w:World}{a:Addr}{u:Nat→Value}:∀(n i:Nat) (acc:Array Value),(∀q,q<n→w.cell? (a.add (i+q))=some (u q))→
  (loadCellsFrom a i n acc).run P w=.ok (acc++((Bs n).map u).toArray) w:=by
 intro n
 induction n generalizing u with
 |zero=>intro i acc _;simp[loadCellsFrom]
 |succ n ih=>
  intro i acc h
  have h0:=h 0 (by omega)
  simp only[Bt] at h0
  simp only[loadCellsFrom,Sem.run_bind,load,Sem.run,h0,Result.andThen_ok]
  rw[ih (u:=fun q=>u (q+1)) (i+1) (acc.push (u 0)) (fun q hq=>by have:=h (q+1) (by omega);rw[show i+1+q=i+(q+1) by omega];exact this)]
  congr 1
  rw[List.range_succ_eq_map]
  apply BJ
  simp[Function.comp_def]
theorem qh{P:Program}{L:Lay} (hL:af P L){w:World}{F:Nat→Nat→Prop}{μ:Nat→Option Nat}{σ:List Ob}{t:Nat}{ti:TI} (ht:L t=some ti){a:Addr}{cs:List DV}{u:Nat→Value}
  (hu:∀i,i<cs.length→w.cell? (a.add i)=some (u i)) (hr:∀(i:Nat) (e:DV),cs[i]?=some e→Rep w F μ σ e (u i)):
  (ti.d.isAgg=true→ti.k≤cs.length→∃v,(loadVar t a).run P w=.ok v w∧Rep w F μ σ (.agg (cs.take ti.k)) v)∧
  (ti.d.isAgg=false→∀e,cs[0]?=some e→∃v,(loadVar t a).run P w=.ok v w∧Rep w F μ σ e v):=by
 have hag:=(hL _ _ ht).isAgg w
 have hsz:=(hL _ _ ht).size w
 constructor
 ·intro h1 hk
  refine⟨.agg ⟨(Bs ti.k).map u⟩,?_,.agg (by simp;omega) fun i e v he hv=>?_⟩
  ·simp only[loadVar,Sem.run_bind,hag,h1,Result.andThen_ok,if_true,hsz,loadCells,Sem.run_pure]
   rw[c7 (u:=u) ti.k 0 #[] (fun q hq=>by rw[Bc];exact hu q (by omega))]
   simp
  ·have hi:i<ti.k:=by
    have:=(AH.1 hv).1
    simpa using this
   rw[BM hi] at he
   simp[hi] at hv
   subst hv
   exact hr i e he
 ·intro h1 e he
  have h0:=hu 0 (by rcases cs with _|_<;>simp at he⊢)
  rw[vu] at h0
  refine⟨u 0,?_,hr 0 e he⟩
  simp only[loadVar,Sem.run_bind,hag,h1,Result.andThen_ok]
  simp[load,Sem.run,h0]
def en (σ:List Ob):DV→Option (List DV)
 |.ptr id g j o=>match σ[id]? with
  |some (.arr _t0 _k0 xs)=>if g=xs.length then(match xs[j]? with
   |some x=>some (x.cells.drop o)
   |none=>none) else none
  |_=>none
 |.vptr _ cs=>some cs
 |_=>none
theorem lg{w:World}{F:Nat→Nat→Prop}{μ:Nat→Option Nat}{σ:List Ob} (hr:HR w F μ σ){d:DV}{v:Value}{cs:List DV} (h:en σ d=some cs) (hv:Rep w F μ σ d v):
  ∃(a:Addr) (u:Nat→Value),v=.pointer (some a)∧(∀i,i<cs.length→w.cell? (a.add i)=some (u i))∧∀(i:Nat) (e:DV),cs[i]?=some e→Rep w F μ σ e (u i):=by
 unfold en at h
 split at h<;>try cases h
 ·rename_i id g j o
  split at h<;>try cases h
  rename_i t k xs ho
  by_cases hg:g=xs.length
  ·rw[if_pos hg] at h
   split at h<;>try cases h
   rename_i x hx
   cases hv with
   | @ptr _ _ _ _ a hp=>
    obtain⟨t2,k2,xs2,ho2,h2,h3⟩:=hp
    rw[ho] at ho2
    cases ho2
    obtain⟨b,hb,rfl⟩:=h3 hg
    obtain⟨hk,hor⟩:=hr.obj _ _ ho
    rcases hor with⟨he,_⟩|⟨b',cur,fr',hb',hh,hfr',hcells⟩
    ·subst he;simp at hx
    ·rw[hb] at hb'
     cases hb'
     refine⟨_,fun i=>(cur[j*k+(o+i)]?).getD undef,rfl,fun i hi=>?_,fun i e he=>?_⟩
     ·rw[BP] at hi
      obtain⟨vv,hvv,_⟩:=hcells j (o+i) x _ hx (AI (by omega))
      rw[cj,C0]
      simp only[World.cell?,hh]
      simp[hvv]
     ·rw[Bk] at he
      obtain⟨vv,hvv,hrep⟩:=hcells j (o+i) x e hx he
      show Rep w F μ σ e ((cur[j*k+(o+i)]?).getD undef)
      rw[hvv]
      exact hrep
  ·rw[if_neg hg] at h;cases h
 ·cases hv with
  |vptr u hF hu hr'=>exact⟨_,u,rfl,hu,hr'⟩
def e9 (L:Lay) (σ:List Ob) (t:Nat) (d:DV):Option DV:=
 match L t with
 |some ti=>match en σ d with
  |some cs=>if ti.d.isAgg then(if ti.k≤cs.length then some (.agg (cs.take ti.k)) else none) else cs[0]?
  |none=>none
 |none=>none
theorem qi{P:Program}{L:Lay} (hL:af P L){w:World}{F:Nat→Nat→Prop}{μ:Nat→Option Nat}{σ:List Ob} (hr:HR w F μ σ){t:Nat}{d d':DV}{v:Value}
  (h:e9 L σ t d=some d') (hv:Rep w F μ σ d v):∃v',(Instr.loadAt t v).run P w=.ok v' w∧Rep w F μ σ d' v':=by
 unfold e9 at h
 split at h<;>try cases h
 rename_i ti ht
 split at h<;>try cases h
 rename_i cs hcs
 obtain⟨a,u,rfl,hu,hrr⟩:=lg hr hcs hv
 have key:=qh hL ht hu hrr
 have hat:∀v',(loadVar t a).run P w=.ok v' w→(Instr.loadAt t (.pointer (some a))).run P w=.ok v' w:=by
  intro v' h'
  simp only[Instr.loadAt,Instr.sureAddr,Sem.run_bind,Sem.run_pure,Result.andThen_ok,h']
 cases hag:ti.d.isAgg with
 |true=>
  rw[hag] at h
  simp only[if_true] at h
  by_cases hk:ti.k≤cs.length
  ·rw[if_pos hk] at h
   cases h
   obtain⟨v',h1,h2⟩:=key.1 hag hk
   exact⟨v',hat v' h1,h2⟩
  ·rw[if_neg hk] at h;cases h
 |false=>
  rw[hag] at h
  simp only[Bb,if_false] at h
  obtain⟨v',h1,h2⟩:=key.2 hag d' h
  exact⟨v',hat v' h1,h2⟩
end
section
def cN (w:World) (b:Nat) (o:Obj):World:={w with heap:=w.heap.setIfInBounds b o}
theorem ku{w:World}{b:Nat}{o:Obj} (h:w.heap[b]?=some o):cN w b o=w:=by
 have:w.heap.setIfInBounds b o=w.heap:=by
  apply CQ
  intro i
  rw[Bu]
  by_cases hi:b=i
  ·subst hi
   obtain⟨h1,h2⟩:=Bm.1 h
   simp[h1,h2]
  ·simp[hi]
 unfold cN
 rw[this]
theorem bz{w:World}{b:Nat}{o:Obj} (h:b<w.heap.size) (i:Nat):(cN w b o).heap[i]?=if b=i then some o else w.heap[i]?:=by
 unfold cN
 rw[Bu]
 by_cases hi:b=i
 ·subst hi;simp[h]
 ·simp[hi]
theorem eu (w:World) (b:Nat) (o:Obj):(cN w b o).heap.size=w.heap.size:=by simp[cN]
theorem uh (w:World) (b:Nat) (o o':Obj):cN (cN w b o) b o'=cN w b o':=by
 unfold cN
 have:(w.heap.setIfInBounds b o).setIfInBounds b o'=w.heap.setIfInBounds b o':=by
  apply CQ
  intro i
  simp only[Bu,Array.size_setIfInBounds]
  by_cases hi:b=i<;>simp[hi]
 simp only[this]
theorem oR{w:World}{b q:Nat}{cur:Array Value}{t:TypeId}{fr:Nat×Nat} (h:w.heap[b]?=some (.cells cur t fr)) (v:Value):
  w.setCell ⟨b,q,none⟩ v=cN w b (.cells (cur.setIfInBounds q v) t fr):=by
 unfold World.setCell cN
 congr 1
 apply CQ
 intro i
 rw[C1,Bu]
 by_cases hi:b=i
 ·subst hi
  obtain⟨h1,h2⟩:=Bm.1 h
  simp[h1,h2]
 ·simp[hi]
def gH:Array Value→Nat→List Value→Array Value
 |cur,_,[]=>cur
 |cur,p,v::vs=>gH (cur.setIfInBounds p v) (p+1) vs
theorem cH (vs:List Value):∀(cur:Array Value) (p:Nat),(gH cur p vs).size=cur.size:=by
 induction vs with
 |nil=>intro _ _;rfl
 |cons v vs ih=>intro cur p;simp[gH,ih]
theorem gR (vs:List Value):∀(cur:Array Value) (p i:Nat),p+vs.length≤cur.size→(gH cur p vs)[i]?=if p≤i∧i<p+vs.length then vs[i-p]? else cur[i]?:=by
 induction vs with
 |nil=>intro cur p i _;simp only[gH,Bj];rw[if_neg (by omega)]
 |cons v vs ih=>
  intro cur p i h
  simp only[A5] at h⊢
  simp only[gH]
  rw[ih _ _ _ (by simp;omega),Bu]
  by_cases h1:p+1≤i∧i<p+1+vs.length
  ·rw[if_pos h1,if_pos (by omega),show i-p=(i-(p+1))+1 by omega]
   simp
  ·rw[if_neg h1]
   by_cases h2:p=i
   ·subst h2
    rw[if_pos rfl,if_pos (by omega),if_pos (by omega)]
    simp
   ·rw[if_neg h2,if_neg (by omega)]
theorem r6{P:Program}{w:World}{a:Addr}{u v:Value} (h1:v.oneCell'=true) (hc:w.cell? a=some u) (hf:w.frozen? a=false):(store a v).run P w=.ok () (w.setCell a v):=by
 cases v<;>first|(cases h1;done)|simp[store,Sem.run,hc,hf]
theorem c0{P:Program}{b p k:Nat}{t:TypeId}{fr:Nat×Nat}:∀(vs:List Value) (i:Nat) (w:World) (cur:Array Value),w.heap[b]?=some (.cells cur t fr)→kr fr cur.size k→p+i+vs.length≤cur.size→(∀v∈vs,v.oneCell'=true)→
  (storeCells ⟨b,p,none⟩ vs i).run P w=.ok () (cN w b (.cells (gH cur (p+i) vs) t fr)):=by
 intro vs
 induction vs with
 |nil=>intro i w cur h _ _ _;simp only[storeCells,gH,Sem.run_pure];rw[ku h]
 |cons v vs ih=>
  intro i w cur h hfo hl h1
  simp only[A5] at hl
  have hlt:=(Bm.1 h).1
  have hc:w.cell? ((⟨b,p,none⟩:Addr).add i)=some (cur[p+i]'(by omega)):=by
   rw[cj];simp[World.cell?,h]
  have hf:w.frozen? ((⟨b,p,none⟩:Addr).add i)=false:=by
   rw[cj];simp only[World.frozen?,h];exact hfo.get (p+i) (by omega)
  simp only[storeCells,Sem.run_bind,r6 (h1 v (by simp)) hc hf,Result.andThen_ok]
  rw[cj,oR h]
  rw[ih (i+1) _ (cur.setIfInBounds (p+i) v) (by rw[bz hlt];simp) (by simpa using hfo) (by simp;omega) (fun x hx=>h1 x (by simp[hx]))]
  rw[uh]
  rfl
section
variable{w:World}{F:Nat→Nat→Prop}{μ:Nat→Option Nat}{σ:List Ob}
theorem aU{α:Type}{l:List α}{i:Nat}{a:α} (h:i<l.length) (j:Nat):(l.set i a)[j]?=if i=j then some a else l[j]?:=by
 rw[B2]
 by_cases hi:i=j
 ·subst hi;simp[h]
 ·simp[hi]
theorem HR.write (hr:HR w F μ σ){id t k b:Nat}{xs ys:List DV}{cur cur':Array Value}{fr fr2:Nat×Nat} (ho:σ[id]?=some (.arr t k xs)) (hb:μ id=some b) (hh:w.heap[b]?=some (.cells cur t fr)) (hfo2:kr fr2 cur.size k)
  (hsz:cur'.size=cur.size) (hl:xs.length≤ys.length) (hk:∀y∈ys,y.cells.length=k)
  (hc:∀(j i:Nat) (y d:DV),ys[j]?=some y→y.cells[i]?=some d→∃v,cur'[j*k+i]?=some v∧Rep w F μ σ d v):
  HR (cN w b (.cells cur' t fr2)) F μ (σ.set id (.arr t k ys))∧Step w F μ σ (cN w b (.cells cur' t fr2)) F μ (σ.set id (.arr t k ys))∧Fr w μ (cN w b (.cells cur' t fr2)) μ:=by
 have hlt:=(Bm.1 hh).1
 have hidl:=(AH.1 ho).1
 have hst:Step w F μ σ (cN w b (.cells cur' t fr2)) F μ (σ.set id (.arr t k ys)):=by
  refine⟨fun c q hF=>?_,fun _ _ h=>h,fun i o h=>?_,fun i t' k' zs us h h' he=>⟨rfl,fun q cu fr hm hq=>?_⟩,fun _ _ _ _=>rfl⟩
  ·rw[bz hlt,if_neg]
   rintro rfl
   exact(hr.col c _ hF).2 id hb
  ·rw[aU hidl]
   by_cases hi:id=i
   ·subst hi
    rw[ho] at h;cases h
    exact⟨_,by rw[if_pos rfl],ys,rfl,by omega⟩
   ·exact⟨o,by rw[if_neg hi];exact h,Ob.ext_refl o⟩
  ·rw[bz hlt]
   by_cases hq':b=q
   ·subst hq'
    rw[hh] at hq
    cases hq
    exact⟨cur',fr2,by rw[if_pos rfl],hsz⟩
   ·exact⟨cu,fr,by rw[if_neg hq'];exact hq,rfl⟩
 refine⟨⟨fun i o h=>?_,fun i hi=>hr.out i (by simpa using hi),hr.inj,fun i q h=>by rw[eu];exact hr.lt i q h,fun c q h=>by rw[eu];exact hr.col c q h⟩,hst,?_⟩
 ·rw[aU hidl] at h
  by_cases hi:id=i
  ·subst hi
   rw[if_pos rfl] at h
   cases h
   refine⟨hk,.inr ⟨b,cur',fr2,hb,by rw[bz hlt,if_pos rfl],by rw[hsz];exact hfo2,fun j i y d hy hd=>?_⟩⟩
   obtain⟨v,h1,h2⟩:=hc j i y d hy hd
   exact⟨v,h1,h2.step hst⟩
  ·rw[if_neg hi] at h
   have:=hr.obj i o h
   cases o with
   |arr t' k' zs=>
    refine⟨this.1,?_⟩
    rcases this.2 with⟨e1,e2⟩|⟨b',cu,fr',hb',hh',hfr',hcc⟩
    ·exact .inl ⟨e1,e2⟩
    ·refine .inr ⟨b',cu,fr',hb',?_,hfr',fun j q x d hx hd=>?_⟩
     ·rw[bz hlt,if_neg];exact hh'
      rintro rfl;exact hi (hr.inj _ _ _ hb hb')
     ·obtain⟨v,h1,h2⟩:=hcc j q x d hx hd
      exact⟨v,h1,h2.step hst⟩
   |oth t' ds=>
    refine this.keep hst h fun q hq=>?_
    rw[bz hlt,if_neg]
    rintro rfl;exact hi (hr.inj _ _ _ hb hq)
   |dead=>exact this
 ·refine⟨rfl,rfl,rfl,by rw[eu];exact AU _,fun q hq hm=>?_,fun i q h=>.inl h,AU _⟩
  rw[bz hlt,if_neg]
  rintro rfl;exact hm id hb
end
theorem fG (w:World) (n:Nat) (F:Nat→Nat→Prop) (μ:Nat→Option Nat) (σ:List Ob):Step w F μ σ {w with drawn:=n} F μ σ:=
 ⟨fun _ _ _=>rfl,fun _ _ h=>h,fun _ o h=>⟨o,h,Ob.ext_refl o⟩,fun _ _ _ _ _ _ _ _=>⟨rfl,fun _ cur fr _ h=>⟨cur,fr,h,rfl⟩⟩,fun _ _ _ _=>rfl⟩
theorem HR.drew{w:World}{F:Nat→Nat→Prop}{μ:Nat→Option Nat}{σ:List Ob} (h:HR w F μ σ) (n:Nat):HR {w with drawn:=n} F μ σ:=by
 refine⟨fun id o ho=>?_,h.out,h.inj,h.lt,h.col⟩
 have s:=fG w n F μ σ
 have:=h.obj id o ho
 cases o with
 |arr t k xs=>
  obtain⟨hk,hr⟩:=this
  refine⟨hk,hr.imp (fun h=>h) fun⟨b,cur,fr,h1,h2,hf,h3⟩=>⟨b,cur,fr,h1,h2,hf,fun j i x d hx hd=>?_⟩⟩
  obtain⟨v,hv,hrv⟩:=h3 j i x d hx hd
  exact⟨v,hv,hrv.step s⟩
 |oth t ds=>exact this.keep s ho fun _ _=>rfl
 |dead=>exact this
section
variable{w:World}{F:Nat→Nat→Prop}{μ:Nat→Option Nat}{σ:List Ob}
def bd (μ:Nat→Option Nat) (n b:Nat):Nat→Option Nat:=fun i=>if i=n then some b else μ i
theorem cG (w:World) (o:Obj):(w.alloc o).heap.size=w.heap.size+1:=by
 show(w.heap.push o).size=_
 simp
theorem aS (w:World) (o:Obj) (i:Nat):(w.alloc o).heap[i]?=if i=w.heap.size then some o else w.heap[i]?:=by
 unfold World.alloc
 rw[Da]
theorem aD{α:Type} (l:List α) (a:α) (i:Nat):(l++[a])[i]?=if i=l.length then some a else l[i]?:=by
 rcases Dl i l.length with h|h|h
 ·rw[AJ h,if_neg (by omega)]
 ·subst h;simp
 ·rw[AT (by omega),if_neg (by omega),BA (show l.length≤i by omega),BA (by simp;omega)]
theorem HR.pushAny (hr:HR w F μ σ) (O:Obj) (x:Ob) (hx:Step w F μ σ (w.alloc O) F (bd μ σ.length w.heap.size) (σ++[x])→bd μ σ.length w.heap.size σ.length=some w.heap.size→(w.alloc O).heap[w.heap.size]?=some O→
   iu (w.alloc O) F (bd μ σ.length w.heap.size) (σ++[x]) σ.length x):
  HR (w.alloc O) F (bd μ σ.length w.heap.size) (σ++[x])∧Step w F μ σ (w.alloc O) F (bd μ σ.length w.heap.size) (σ++[x])∧
   Fr w μ (w.alloc O) (bd μ σ.length w.heap.size):=by
 have hst:Step w F μ σ (w.alloc O) F (bd μ σ.length w.heap.size) (σ++[x]):=by
  refine⟨fun c q hF=>?_,fun _ _ h=>h,fun i o h=>⟨o,?_,Ob.ext_refl o⟩,fun i t' k' zs us h h' he=>?_,fun i tt es h=>?_⟩
  ·rw[aS,if_neg]
   have:=(hr.col c q hF).1
   omega
  ·have:=(AH.1 h).1
   rw[aD,if_neg (by omega)];exact h
  ·have hi:=(AH.1 h).1
   refine⟨by simp only[bd];rw[if_neg (by omega)],fun q cu fr hm hq=>⟨cu,fr,?_,rfl⟩⟩
   have:=hr.lt i q hm
   rw[aS,if_neg (by omega)];exact hq
  ·have hi:=(AH.1 h).1
   simp only[bd];rw[if_neg (by omega)]
 have hmu:∀i q,bd μ σ.length w.heap.size i=some q→(i=σ.length∧q=w.heap.size)∨(i≠σ.length∧μ i=some q):=by
  intro i q h
  simp only[bd] at h
  by_cases hi:i=σ.length
  ·rw[if_pos hi] at h;cases h;exact .inl ⟨hi,rfl⟩
  ·rw[if_neg hi] at h;exact .inr ⟨hi,h⟩
 refine⟨⟨fun i o h=>?_,fun i hi=>?_,fun i j q h1 h2=>?_,fun i q h=>?_,fun c q h=>⟨?_,fun i hi=>?_⟩⟩,hst,⟨rfl,rfl,rfl,by rw[cG];omega,fun q hq hm=>?_,fun i q h=>?_,AU _⟩⟩
 ·rw[aD] at h
  by_cases hi:i=σ.length
  ·rw[if_pos hi] at h
   cases h
   subst hi
   exact hx hst (by simp[bd]) (by rw[aS,if_pos rfl])
  ·rw[if_neg hi] at h
   have:=hr.obj i o h
   have hg:bd μ σ.length w.heap.size i=μ i:=by simp only[bd];rw[if_neg hi]
   cases o with
   |arr t' k' zs=>
    refine⟨this.1,?_⟩
    rcases this.2 with⟨e1,e2⟩|⟨b',cu,fr',hb',hh',hfr',hcc⟩
    ·exact .inl ⟨e1,by rw[hg];exact e2⟩
    ·refine .inr ⟨b',cu,fr',by rw[hg];exact hb',?_,hfr',fun j q x d hx hd=>?_⟩
     ·have:=hr.lt _ _ hb'
      rw[aS,if_neg (by omega)];exact hh'
     ·obtain⟨v,h1,h2⟩:=hcc j q x d hx hd
      exact⟨v,h1,h2.step hst⟩
   |oth t' ds=>
    refine this.keep hst h fun q hq=>?_
    have:=hr.lt _ _ hq
    rw[aS,if_neg (by omega)]
   |dead=>exact hg.trans this
 ·simp at hi
  simp only[bd]
  rw[if_neg (by omega)]
  exact hr.out i (by omega)
 ·rcases hmu i q h1 with⟨rfl,rfl⟩|⟨hi,h1'⟩
  ·rcases hmu j _ h2 with⟨rfl,_⟩|⟨hj,h2'⟩
   ·rfl
   ·have:=hr.lt _ _ h2';omega
  ·rcases hmu j _ h2 with⟨rfl,rfl⟩|⟨hj,h2'⟩
   ·have:=hr.lt _ _ h1';omega
   ·exact hr.inj _ _ _ h1' h2'
 ·rcases hmu i q h with⟨rfl,rfl⟩|⟨hi,h1'⟩
  ·rw[cG];omega
  ·have:=hr.lt _ _ h1'
   rw[cG];omega
 ·have:=(hr.col c q h).1
  rw[cG];omega
 ·rcases hmu i q hi with⟨rfl,rfl⟩|⟨_,h1'⟩
  ·have:=(hr.col c _ h).1;omega
  ·exact(hr.col c q h).2 i h1'
 ·rw[aS,if_neg (by omega)]
 ·rcases hmu i q h with⟨rfl,rfl⟩|⟨_,h1'⟩
  ·exact .inr (AU _)
  ·exact .inl h1'
theorem HR.push (hr:HR w F μ σ){t k:Nat}{xs:List DV}{cur:Array Value}{fr:Nat×Nat} (hfo:kr fr cur.size k) (hk:∀y∈xs,y.cells.length=k)
  (hc:∀(j i:Nat) (y d:DV),xs[j]?=some y→y.cells[i]?=some d→∃v,cur[j*k+i]?=some v∧Rep w F μ σ d v):
  HR (w.alloc (.cells cur t fr)) F (bd μ σ.length w.heap.size) (σ++[.arr t k xs])∧Step w F μ σ (w.alloc (.cells cur t fr)) F (bd μ σ.length w.heap.size) (σ++[.arr t k xs])∧
   Fr w μ (w.alloc (.cells cur t fr)) (bd μ σ.length w.heap.size):=
 hr.pushAny _ _ fun hst h1 h2=>⟨hk,.inr ⟨w.heap.size,cur,fr,h1,h2,hfo,fun j i y d hy hd=>by
  obtain⟨v,h1,h2⟩:=hc j i y d hy hd
  exact⟨v,h1,h2.step hst⟩⟩⟩
theorem HR.turn (hr:HR w F μ σ){id b:Nat}{t t':OT}{ds ds':List DV} (O:Obj) (ho:σ[id]?=some (.oth t ds)) (hb:μ id=some b) (hk:t'.kind=t.kind)
  (hx:Step w F μ σ (cN w b O) F μ (σ.set id (.oth t' ds'))→(cN w b O).heap[b]?=some O→iu (cN w b O) F μ (σ.set id (.oth t' ds')) id (.oth t' ds')):
  HR (cN w b O) F μ (σ.set id (.oth t' ds'))∧Step w F μ σ (cN w b O) F μ (σ.set id (.oth t' ds'))∧Fr w μ (cN w b O) μ:=by
 have hlt:=hr.lt _ _ hb
 have hidl:=(AH.1 ho).1
 have hst:Step w F μ σ (cN w b O) F μ (σ.set id (.oth t' ds')):=by
  refine⟨fun c q hF=>?_,fun _ _ h=>h,fun i o h=>?_,fun i t' k' zs us h h' he=>⟨rfl,fun q cu fr hm hq=>⟨cu,fr,?_,rfl⟩⟩,fun _ _ _ _=>rfl⟩
  ·rw[bz hlt,if_neg]
   rintro rfl
   exact(hr.col c _ hF).2 id hb
  ·rw[aU hidl]
   by_cases hi:id=i
   ·subst hi
    rw[ho] at h;cases h
    exact⟨_,by rw[if_pos rfl],_,_,rfl,hk⟩
   ·exact⟨o,by rw[if_neg hi];exact h,Ob.ext_refl o⟩
  ·rw[bz hlt,if_neg]
   ·exact hq
   ·rintro rfl
    exact hr.notCells ho hb hq
 refine⟨⟨fun i o h=>?_,fun i hi=>hr.out i (by simpa using hi),hr.inj,fun i q h=>by rw[eu];exact hr.lt i q h,fun c q h=>by rw[eu];exact hr.col c q h⟩,hst,?_⟩
 ·rw[aU hidl] at h
  by_cases hi:id=i
  ·subst hi
   rw[if_pos rfl] at h
   cases h
   exact hx hst (by rw[bz hlt,if_pos rfl])
  ·rw[if_neg hi] at h
   have:=hr.obj i o h
   cases o with
   |arr t' k' zs=>
    refine⟨this.1,?_⟩
    rcases this.2 with⟨e1,e2⟩|⟨b',cu,fr',hb',hh',hfr',hcc⟩
    ·exact .inl ⟨e1,e2⟩
    ·refine .inr ⟨b',cu,fr',hb',?_,hfr',fun j q x d hx hd=>?_⟩
     ·rw[bz hlt,if_neg];exact hh'
      rintro rfl;exact hi (hr.inj _ _ _ hb hb')
     ·obtain⟨v,h1,h2⟩:=hcc j q x d hx hd
      exact⟨v,h1,h2.step hst⟩
   |oth t2 ds2=>
    refine this.keep hst h fun q hq=>?_
    rw[bz hlt,if_neg]
    rintro rfl;exact hi (hr.inj _ _ _ hb hq)
   |dead=>exact this
 ·refine⟨rfl,rfl,rfl,by rw[eu];exact AU _,fun q hq hm=>?_,fun i q h=>.inl h,AU _⟩
  rw[bz hlt,if_neg]
  rintro rfl;exact hm id hb
end
def ck (y:DV) (o:Nat) (new:List DV):DV:=
 match y with
 |.agg cs=>.agg (cs.take o++new++cs.drop (o+new.length))
 |_=>new.headD .undef
theorem gP{y:DV}{o:Nat}{new:List DV} (h1:∀d∈new,d.one=true) (hl:o+new.length≤y.cells.length) (h0:0<new.length):
  (ck y o new).cells=y.cells.take o++new++y.cells.drop (o+new.length):=by
 have key:y.cells=[y]→ck y o new=new.headD .undef→(ck y o new).cells=y.cells.take o++new++y.cells.drop (o+new.length):=by
  intro hy1 hy2
  rw[hy2]
  rw[hy1] at hl⊢
  simp only[Ca] at hl
  rcases new with _|⟨d,_|⟨e,r⟩⟩
  ·simp at h0
  ·simp only[Ca] at hl
   obtain rfl:o=0:=by omega
   have:=h1 d (by simp)
   simp only[Cd]
   have hd:d.cells=[d]:=by
    cases d<;>first|rfl|(cases this)
   rw[hd]
   simp
  ·simp at hl;omega
 cases y<;>first|rfl|exact key rfl rfl
def dD (L:Lay) (σ:List Ob) (t:Nat) (p x:DV):Option (List Ob):=
 match L t with
 |some ti=>if x.cells.length=ti.k∧0<ti.k∧x.cells.all DV.one=true then match p with
   |.ptr id g j o=>match σ[id]? with
    |some (.arr t0 k xs)=>if g=xs.length then match xs[j]? with
      |some y=>if o+ti.k≤y.cells.length then some (σ.set id (.arr t0 k (xs.set j (ck y o x.cells)))) else none
      |none=>none
     else none
    |_=>none
   |_=>none
  else none
 |none=>none
theorem qb{P:Program}{L:Lay} (hL:af P L){w:World}{F:Nat→Nat→Prop}{μ:Nat→Option Nat}{σ σ':List Ob} (hr:HR w F μ σ){t:Nat}{p x:DV}{v u:Value}
  (h:dD L σ t p x=some σ') (hv:Rep w F μ σ p v) (hu:Rep w F μ σ x u):
  ∃w',(Instr.storeAt t v u).run P w=.ok () w'∧HR w' F μ σ'∧Step w F μ σ w' F μ σ'∧Fr w μ w' μ:=by
 unfold dD at h
 split at h<;>try cases h
 rename_i ti ht
 split at h<;>try cases h
 rename_i hx
 obtain⟨hxl,hx0,hx1⟩:=hx
 split at h<;>try cases h
 rename_i id g j o
 split at h<;>try cases h
 rename_i t0 k xs ho
 split at h<;>try cases h
 rename_i hg
 split at h<;>try cases h
 rename_i y hy
 split at h<;>try cases h
 rename_i hfit
 have hjl:=(AH.1 hy).1
 have hfull:x.full=true:=by
  cases x<;>first|rfl|(simp[DV.cells,DV.one] at hx1)
 obtain⟨hus,huc⟩:=eC hu hfull
 have hu1:∀q∈u.cells.toList,q.oneCell'=true:=by
  intro q hq
  obtain⟨i,hi,rfl⟩:=List.getElem_of_mem hq
  have hi':i<x.cells.length:=by rw[←hus];simpa using hi
  have h2:=AS.1 hx1 x.cells[i] (BS hi')
  exact(tE (huc i _ _ (AI hi') (by simp)) h2).2
 cases hv with
 | @ptr _ _ _ _ a hp=>
  obtain⟨t2,k2,xs2,ho2,h2,h3⟩:=hp
  rw[ho] at ho2
  cases ho2
  obtain⟨b,hb,rfl⟩:=h3 hg
  obtain⟨hk,hor⟩:=hr.obj _ _ ho
  rcases hor with⟨he,_⟩|⟨b',cur,fr',hb',hh,hfr',hcells⟩
  ·subst he;simp at hy
  ·rw[hb] at hb'
   cases hb'
   have hyk:y.cells.length=k:=hk y (AM hy)
   have hspan:∀i,i<k→j*k+i<cur.size:=by
    intro i hi
    obtain⟨vv,hvv,_⟩:=hcells j i y _ hy (AI (by omega))
    exact(Bm.1 hvv).1
   have hin:j*k+o+0+u.cells.toList.length≤cur.size:=by
    have:=hspan (o+ti.k-1) (by omega)
    simp[hus,hxl];omega
   have hrun:(Instr.storeAt t (.pointer (some ⟨b,j*k+o,none⟩)) u).run P w=.ok () (cN w b (.cells (gH cur (j*k+o+0) u.cells.toList) t0 fr')):=by
    simp only[Instr.storeAt,Instr.sureAddr,Sem.run_bind,Sem.run_pure,Result.andThen_ok,storeVar,(hL _ _ ht).size]
    rw[if_neg (by rw[hus,hxl];simp)]
    exact c0 _ _ _ _ hh hfr' hin hu1
   have hnew:∀d∈x.cells,d.one=true:=fun d hd=>AS.1 hx1 d hd
   have hsc:=gP (y:=y) (o:=o) hnew (by omega) (by omega)
   refine⟨_,hrun,hr.write ho hb hh hfr' (by rw[cH]) (by simp) (fun z hz=>?_) (fun j' i z d hz hd=>?_)⟩
   ·rcases C9 hz with hz|rfl
    ·exact hk z hz
    ·rw[hsc]
     simp
     omega
   ·rw[gR _ _ _ _ (by simpa using hin)]
    simp only[Bt,B9,hus,hxl]
    rw[aU hjl] at hz
    by_cases hj:j=j'
    ·subst hj
     rw[if_pos rfl] at hz
     cases hz
     rw[hsc] at hd
     by_cases hi:o≤i∧i<o+ti.k
     ·rw[if_pos (by omega)]
      have hq:i-o<u.cells.toList.length:=by simp[hus,hxl];omega
      have hd':x.cells[i-o]?=some d:=by
       rw[AR,AT (by simp;omega)] at hd
       rw[Bi,BE (by omega),AJ (by omega)] at hd
       exact hd
      rw[show j*k+i-(j*k+o)=i-o by omega]
      refine⟨u.cells.toList[i-o],AI hq,huc (i-o) _ _ hd' (by simp)⟩
     ·rw[if_neg (by omega)]
      refine hcells j i y d hy ?_
      rcases Bp i o with hlo|hhi
      ·rw[AR,AJ (by simp;omega),BM hlo] at hd
       exact hd
      ·rw[AT (by simp;omega),Bk] at hd
       simp only[AP,Bi,BE (show o≤y.cells.length by omega),hxl] at hd
       rw[show o+ti.k+(i-(o+ti.k))=i by omega] at hd
       exact hd
    ·rw[if_neg hj] at hz
     have hzk:=hk z (AM hz)
     have hi:i<k:=by rw[←hzk];exact(AH.1 hd).1
     rw[if_neg]
     ·exact hcells j' i z d hz hd
     ·rintro⟨h1,h2⟩
      rcases Nat.lt_or_gt_of_ne hj with hlt|hgt
      ·have:j*k+k≤j'*k:=by rw[←BY];exact A7 _ hlt
       omega
      ·have:j'*k+k≤j*k:=by rw[←BY];exact A7 _ hgt
       omega
end
section
section
variable{w:World}{F:Nat→Nat→Prop}{μ:Nat→Option Nat}{σ:List Ob}
theorem dw{d:DV}{v:Value} (h:Rep w F μ σ d v) (hs:v.cells.size=d.cells.length) (i:Nat) (e:DV) (he:d.cells[i]?=some e):∃u,v.cells[i]?=some u∧Rep w F μ σ e u:=by
 have hi:=(AH.1 he).1
 refine⟨v.cells[i]'(by omega),BG (by omega),?_⟩
 by_cases hf:d.full=true
 ·exact(eC h hf).2 i e _ he (BG (by omega))
 ·cases d<;>first|exact absurd rfl hf|skip
  ·simp only[DV.cells,Ca] at hi hs
   obtain rfl:i=0:=by omega
   simp only[DV.cells,AY,AX.injEq] at he
   subst he
   cases h with
   |tup hl hh=>exact .tup hl hh
  ·simp only[DV.cells,Ca] at hi
   obtain rfl:i=0:=by omega
   simp only[DV.cells,AY,AX.injEq] at he
   subst he
   exact .undef
  ·simp only[DV.cells,Ca] at hi
   obtain rfl:i=0:=by omega
   simp only[DV.cells,AY,AX.injEq] at he
   subst he
   cases h
   exact .skip
end
theorem jg{P:Program} (t:TypeId) (v:Value) (w:World):(newVar t v).run P w=.ok ⟨w.heap.size,0,none⟩ (w.alloc (.cells v.cells t)):=rfl
theorem tN{μ:Nat→Option Nat}{σ:List Ob}{w:World}{t k:Nat}{xs:List DV} (h:xs.length=1):
  zl (bd μ σ.length w.heap.size) (σ++[.arr t k xs]) σ.length 1 0 0 ⟨w.heap.size,0,none⟩:=
 ⟨t,k,xs,by simp,by omega,fun _=>⟨w.heap.size,by simp[bd],by simp⟩⟩
theorem ar.alloc{P:Program}{L:Lay} (hL:af P L){o:Oper}{st:St}{t:TypeId}{ti:TI} (ho:o.op=.alloc t) (ht:L t=some ti) (hk:ti.zero.cells.length=ti.k):
  ar P o st (.ptr st.ob.length 1 0 0) (st.ob++[.arr t ti.k [ti.zero]]):=by
 intro a w F μ hr he
 obtain⟨z,hz,hzs,hzo⟩:=(hL _ _ ht).zero w
 have hrep:Rep w F μ st.ob ti.zero z:=by rw[←hzo];exact cn z
 obtain⟨h1,h2,h3⟩:=hr.push (t:=t) (k:=ti.k) (xs:=[ti.zero]) (cur:=z.cells) (.zero _) (by simpa using hk) (fun j i y d hy hd=>by
  cases j with
  |zero=>
   simp only[AY,AX.injEq] at hy
   subst hy
   simp only[CT,Bc]
   exact dw hrep (by rw[hzs,hk]) i d hd
  |succ j=>simp at hy)
 refine⟨.value (.pointer (some ⟨w.heap.size,0,none⟩)),_,_,_,?_,.inl rfl,h1,h2,h3,.ptr (tN rfl)⟩
 simp only[execOp,ho,Instr.alloc,Sem.run_bind,hz,Result.andThen_ok,jg,Sem.run_pure]
theorem ar.box{P:Program}{o:Oper}{st:St}{t:TypeId}{x:Operand} (ho:o.op=.box t x) (hx:(ev st.env x).full=true):
  ar P o st (.ptr st.ob.length 1 0 0) (st.ob++[.arr t (ev st.env x).cells.length [ev st.env x]]):=by
 intro a w F μ hr he
 have hrep:=he x
 have hs:=(eC hrep hx).1
 obtain⟨h1,h2,h3⟩:=hr.push (t:=t) (k:=(ev st.env x).cells.length) (xs:=[ev st.env x]) (cur:=(a.eval x).cells) (.zero _) (by simp) (fun j i y d hy hd=>by
  cases j with
  |zero=>
   simp only[AY,AX.injEq] at hy
   subst hy
   simp only[CT,Bc]
   exact dw hrep hs i d hd
  |succ j=>simp at hy)
 refine⟨.value (.pointer (some ⟨w.heap.size,0,none⟩)),_,_,_,?_,.inl rfl,h1,h2,h3,.ptr (tN rfl)⟩
 simp only[execOp,ho,Instr.box,Sem.run_bind,Result.andThen_ok,jg,Sem.run_pure]
def gM (cs:List DV) (off:Nat) (new:List DV):List DV:=cs.take off++new++cs.drop (off+new.length)
theorem nw{cs new:List DV}{off:Nat} (h:off+new.length≤cs.length):(gM cs off new).length=cs.length:=by
 unfold gM;simp;omega
theorem rU{cs new:List DV}{off:Nat} (h:off+new.length≤cs.length) (i:Nat):(gM cs off new)[i]?=if off≤i∧i<off+new.length then new[i-off]? else cs[i]?:=by
 unfold gM
 by_cases hi:off≤i∧i<off+new.length
 ·rw[if_pos hi,AR,AT (by simp;omega),Bi,BE (by omega),AJ (by omega)]
 ·rw[if_neg hi]
  rcases Bp i off with hlo|hhi
  ·rw[AR,AJ (by simp;omega),BM hlo]
  ·rw[AT (by simp;omega),Bk]
   simp only[AP,Bi,BE (show off≤cs.length by omega)]
   congr 1;omega
inductive All2{α β:Type} (R:α→β→Prop):List α→List β→Prop
 |nil:All2 R [] []
 |cons {x y xs ys} (h:R x y) (t:All2 R xs ys):All2 R (x::xs) (y::ys)
def fy (place:Nat→Option (Nat×Nat)) (cells:List DV):List (Nat×DV)→Option (List DV)
 | []=>some cells
 |(i,x)::rest=>match place i with
  |none=>none
  |some (off,size)=>if x.full=true∧x.cells.length=size∧off+size≤cells.length then fy place (gM cells off x.cells) rest else none
def RL (w:World) (F:Nat→Nat→Prop) (μ:Nat→Option Nat) (σ:List Ob) (ds:List DV) (vs:Array Value):Prop:=
 ds.length=vs.size∧∀(i:Nat) (d:DV) (v:Value),ds[i]?=some d→vs[i]?=some v→Rep w F μ σ d v
theorem sX (off:Nat):∀(l:List Value) (k:Nat) (cs:Array Value),(l.zipIdx k).foldl (fun cs (x:Value×Nat)=>cs.setIfInBounds (off+x.2) x.1) cs=gH cs (off+k) l:=by
 intro l
 induction l with
 |nil=>intro k cs;rfl
 |cons v l ih=>
  intro k cs
  simp only[List.zipIdx_cons,List.foldl_cons,gH]
  rw[ih (k+1)]
  rfl
theorem oF (off:Nat) (vs cs:Array Value):vs.zipIdx.foldl (fun cs (x:Value×Nat)=>cs.setIfInBounds (off+x.2) x.1) cs=gH cs off vs.toList:=by
 rw[←Array.foldl_toList]
 have:vs.zipIdx.toList=vs.toList.zipIdx 0:=by simp
 rw[this,sX off vs.toList 0 cs]
 rfl
section
variable{w:World}{F:Nat→Nat→Prop}{μ:Nat→Option Nat}{σ:List Ob}
theorem RL.put{ds:List DV}{vs:Array Value} (h:RL w F μ σ ds vs){d:DV}{v:Value} (hv:Rep w F μ σ d v) (hf:d.full=true){off:Nat} (hl:off+d.cells.length≤ds.length):
  RL w F μ σ (gM ds off d.cells) (gH vs off v.cells.toList):=by
 obtain⟨hs,hc⟩:=eC hv hf
 refine⟨by rw[nw hl,cH];exact h.1,fun i e u he hu=>?_⟩
 rw[rU hl] at he
 rw[gR _ _ _ _ (by have:=h.1;simp[hs];omega)] at hu
 simp only[B9,hs] at hu
 by_cases hi:off≤i∧i<off+d.cells.length
 ·rw[if_pos hi] at he hu
  exact hc _ e u he (by simpa using hu)
 ·rw[if_neg hi] at he hu
  exact h.2 i e u he hu
theorem jr{place:Nat→Option (Nat×Nat)}:∀(parts:List (Nat×DV)) (us:List (Nat×Value)) (ds ds':List DV) (vs:Array Value),RL w F μ σ ds vs→fy place ds parts=some ds'→
  All2 (fun p u=>p.1=u.1∧Rep w F μ σ p.2 u.2) parts us→∃vs',Instr.fill place vs us=some vs'∧RL w F μ σ ds' vs':=by
 intro parts
 induction parts with
 |nil=>intro us ds ds' vs h hf hp;cases hp;cases hf;exact⟨vs,rfl,h⟩
 |cons p parts ih=>
  intro us ds ds' vs h hf hp
  cases hp with
  | @cons _ u _ us hpu hps=>
  obtain⟨i,x⟩:=p
  obtain⟨i',v⟩:=u
  obtain⟨rfl,hrep⟩:=hpu
  simp only[fy] at hf
  simp only[Instr.fill]
  cases hpl:place i with
  |none=>rw[hpl] at hf;cases hf
  |some q=>
   obtain⟨off,size⟩:=q
   rw[hpl] at hf
   simp only at hf⊢
   by_cases hc:x.full=true∧x.cells.length=size∧off+size≤ds.length
   ·rw[if_pos hc] at hf
    obtain⟨h1,h2,h3⟩:=hc
    have hs:v.cells.size=x.cells.length:=(eC hrep h1).1
    have h3':off+x.cells.length≤ds.length:=by omega
    have hno:¬((decide (v.cells.size≠size)||decide (off+v.cells.size>vs.size))=true):=by
     have:=h.1
     simp;omega
    rw[if_neg hno,oF]
    exact ih us _ _ _ (h.put hrep h1 h3') hf hps
   ·rw[if_neg hc] at hf;cases hf
end
def jW (L:Lay):List (Nat×Nat)→Option (List (Nat×Nat))
 | []=>some []
 |(off,ft)::r=>match L ft with
  |some ti=>(jW L r).map ((off,ti.k)::·)
  |none=>none
theorem nD{P:Program}{L:Lay} (hL:af P L):∀(fields:List Field) (ps:List (Nat×Nat)),jW L (fields.map fun f=>(f.offset,f.type))=some ps→
  fields.mapM (fun f=>(P.info? f.type).map fun i=>(f.offset,i.size))=some ps:=by
 intro fields
 induction fields with
 |nil=>intro ps h;cases h;rfl
 |cons f fs ih=>
  intro ps h
  simp only[Bf,jW] at h
  cases hf:L f.type with
  |none=>rw[hf] at h;cases h
  |some ti=>
   rw[hf] at h
   simp only at h
   cases hr:jW L (fs.map fun f=>(f.offset,f.type)) with
   |none=>rw[hr] at h;cases h
   |some rest=>
    rw[hr] at h
    cases h
    obtain⟨ii,z,h1,h2,_⟩:=(hL _ _ hf).info
    simp[List.mapM_cons,h1,h2,ih rest hr]
def bf (L:Lay) (t:Nat) (parts:List (Nat×DV)):Option DV:=
 match L t with
 |some ti=>if ti.zero.cells.length=ti.k∧ti.zero.full=true then match ti.d with
   |.struct fs=>match jW L fs with
    |some ps=>(fy (fun i=>ps[i]?) ti.zero.cells parts).map .agg
    |none=>none
   |.array _ e=>match L e with
    |some te=>(fy (fun i=>some (i*te.k,te.k)) ti.zero.cells parts).map .agg
    |none=>none
   |_=>none
  else none
 |none=>none
theorem lu{α β γ:Type}{R:β→γ→Prop}{f:α→β}{g:α→γ}:∀(l:List α),(∀x∈l,R (f x) (g x))→All2 R (l.map f) (l.map g)
 | [],_=>.nil
 |x::l,h=>.cons (h x (by simp)) (lu l fun y hy=>h y (by simp[hy]))
theorem ql{P:Program}{L:Lay} (hL:af P L){w:World}{F:Nat→Nat→Prop}{μ:Nat→Option Nat}{σ:List Ob}{t:Nat}{parts:List (Nat×DV)}{us:Array (Nat×Value)}{d:DV}
  (h:bf L t parts=some d) (hp:All2 (fun p u=>p.1=u.1∧Rep w F μ σ p.2 u.2) parts us.toList):
  ∃v,(Instr.build t us).run P w=.ok v w∧Rep w F μ σ d v:=by
 unfold bf at h
 split at h<;>try cases h
 rename_i ti ht
 split at h<;>try cases h
 rename_i hz
 obtain⟨hzl,hzf⟩:=hz
 obtain⟨it,z,i1,i2,i3,i4,i5,i6⟩:=(hL _ _ ht).info
 obtain⟨desc,hu,hdesc⟩:=(hL _ _ ht).und
 have hrz:Rep w F μ σ ti.zero z:=by rw[←i6];exact cn z
 have hrl:RL w F μ σ ti.zero.cells z.cells:=⟨by rw[hzl,i5],(eC hrz hzf).2⟩
 have fin:∀ds' vs',RL w F μ σ ds' vs'→P.built t us.toList=some vs'→∃v,(Instr.build t us).run P w=.ok v w∧Rep w F μ σ (.agg ds') v:=by
  intro ds' vs' hr hb
  refine⟨_,run_build w t us vs' hb,?_⟩
  have hv:vs'=⟨vs'.toList⟩:=rfl
  rw[hv]
  exact .agg (by simpa using hr.1) (fun i e u he hu=>hr.2 i e u he (by simpa using hu))
 split at h<;>try cases h
 ·rename_i fs hd
  rw[hd] at hdesc
  obtain⟨fields,rfl,hfs⟩:=hdesc
  split at h<;>try cases h
  rename_i ps hps
  cases hfl:fy (fun i=>ps[i]?) ti.zero.cells parts with
  |none=>rw[hfl] at h;cases h
  |some ds'=>
   rw[hfl] at h;cases h
   obtain⟨vs',hv1,hv2⟩:=jr parts us.toList _ _ _ hrl hfl hp
   refine fin ds' vs' hv2 ?_
   unfold Program.built
   simp only[i1,hu,i4]
   rw[nD hL fields.toList ps (by rw[hfs];exact hps)]
   simpa using hv1
 ·rename_i n e hd
  rw[hd] at hdesc
  cases hdesc
  split at h<;>try cases h
  rename_i te hte
  cases hfl:fy (fun i=>some (i*te.k,te.k)) ti.zero.cells parts with
  |none=>rw[hfl] at h;cases h
  |some ds'=>
   rw[hfl] at h;cases h
   obtain⟨vs',hv1,hv2⟩:=jr parts us.toList _ _ _ hrl hfl hp
   refine fin ds' vs' hv2 ?_
   obtain⟨ie,_,j1,j2,_⟩:=(hL _ _ hte).info
   unfold Program.built
   simp only[i1,hu,i4,j1,j2]
   exact hv1
def su (L:Lay) (ft:Nat) (cs:List DV) (off:Nat):Option DV:=
 match L ft with
 |some ti=>if ti.d.isAgg then(if off+ti.k≤cs.length then some (.agg ((cs.drop off).take ti.k)) else none) else cs[off]?
 |none=>none
def lK (L:Lay) (t:Nat) (d:DV) (f:Nat):Option DV:=
 match L t,d with
 |some {d:=.struct fs,..},.agg cs=>match fs[f]? with
  |some (off,ft)=>su L ft cs off
  |none=>none
 |_,_=>none
theorem v9{P:Program}{L:Lay} (hL:af P L){w:World}{F:Nat→Nat→Prop}{μ:Nat→Option Nat}{σ:List Ob}{ft off:Nat}{cs:List DV}{vs:List Value}{d:DV}
  (h:su L ft cs off=some d) (hl:cs.length=vs.length) (hr:∀(i:Nat) (d:DV) (v:Value),cs[i]?=some d→vs[i]?=some v→Rep w F μ σ d v):
  ∃v,(part ft ⟨vs⟩ off).run P w=.ok v w∧Rep w F μ σ d v:=by
 unfold su at h
 split at h<;>try cases h
 rename_i ti ht
 have hag:=(hL _ _ ht).isAgg w
 cases hb:ti.d.isAgg with
 |true=>
  rw[hb] at h
  simp only[if_true] at h
  by_cases hk:off+ti.k≤cs.length
  ·rw[if_pos hk] at h
   cases h
   refine⟨.agg ⟨(vs.drop off).take ti.k⟩,?_,.agg (by simp;omega) fun i e v he hv=>?_⟩
   ·simp only[part,Sem.run_bind,hag,hb,Result.andThen_ok,if_true,(hL _ _ ht).size,Sem.run_pure]
    congr 2
    apply BJ
    simp[List.extract_eq_take_drop]
   ·have hi:i<ti.k:=by
     have:=(AH.1 he).1
     simp at this;omega
    rw[BM hi,Bk] at he hv
    exact hr _ e v he hv
  ·rw[if_neg hk] at h;cases h
 |false=>
  rw[hb] at h
  simp only[Bb,if_false] at h
  have hi:=(AH.1 h).1
  refine⟨vs[off]'(by omega),?_,hr off d _ h (AI (by omega))⟩
  simp only[part,Sem.run_bind,hag,hb,Result.andThen_ok,Bb,if_false]
  have:(⟨vs⟩:Array Value)[off]?=some (vs[off]'(by omega)):=by simp
  rw[this]
  rfl
theorem qk{P:Program}{L:Lay} (hL:af P L){w:World}{F:Nat→Nat→Prop}{μ:Nat→Option Nat}{σ:List Ob}{t f:Nat}{d d':DV}{v:Value}
  (h:lK L t d f=some d') (hv:Rep w F μ σ d v):∃v',(Instr.field t v f).run P w=.ok v' w∧Rep w F μ σ d' v':=by
 unfold lK at h
 split at h<;>try cases h
 rename_i k by_ fs z cs ht
 split at h<;>try cases h
 rename_i off ft hf
 obtain⟨desc,hu,fields,rfl,hfs⟩:=(hL _ _ ht).und
 have hfield:∃fd,fields[f]?=some fd∧fd.offset=off∧fd.type=ft:=by
  have:(fields.toList.map (fun f=>(f.offset,f.type)))[f]?=some (off,ft):=by rw[hfs];exact hf
  rw[AQ] at this
  cases hq:fields.toList[f]? with
  |none=>simp[hq] at this
  |some fd=>
   simp[hq] at this
   exact⟨fd,by simpa using hq,this.1,this.2⟩
 obtain⟨fd,hfd,rfl,rfl⟩:=hfield
 cases hv with
 |agg hl hh=>
  obtain⟨v',h1,h2⟩:=v9 hL h hl hh
  refine⟨v',?_,h2⟩
  simp only[Instr.field,Sem.run_bind,run_underlying hu,Result.andThen_ok,hfd,asAgg,Sem.run_pure,h1]
end
section
section
variable{w:World}{F:Nat→Nat→Prop}{μ:Nat→Option Nat}{σ:List Ob}
def fl (μ:Nat→Option Nat) (id b:Nat):Nat→Option Nat:=fun i=>if i=id then some b else μ i
theorem HR.move (hr:HR w F μ σ){id t k:Nat}{xs ys:List DV}{cur:Array Value} (ho:σ[id]?=some (.arr t k xs)) (hl:xs.length<ys.length) (hk:∀y∈ys,y.cells.length=k)
  (hc:∀(j i:Nat) (y d:DV),ys[j]?=some y→y.cells[i]?=some d→∃v,cur[j*k+i]?=some v∧Rep w F μ σ d v):
  HR (w.drew.alloc (.cells cur t)) F (fl μ id w.heap.size) (σ.set id (.arr t k ys))∧Step w F μ σ (w.drew.alloc (.cells cur t)) F (fl μ id w.heap.size) (σ.set id (.arr t k ys))∧
   Fr w μ (w.drew.alloc (.cells cur t)) (fl μ id w.heap.size):=by
 have hidl:=(AH.1 ho).1
 have hget:∀i,(w.drew.alloc (.cells cur t)).heap[i]?=if i=w.heap.size then some (.cells cur t) else w.heap[i]?:=fun i=>aS w.drew _ i
 have hsize:(w.drew.alloc (.cells cur t)).heap.size=w.heap.size+1:=cG w.drew _
 have hmu:∀i q,fl μ id w.heap.size i=some q→(i=id∧q=w.heap.size)∨(i≠id∧μ i=some q):=by
  intro i q h
  simp only[fl] at h
  by_cases hi:i=id
  ·rw[if_pos hi] at h;cases h;exact .inl ⟨hi,rfl⟩
  ·rw[if_neg hi] at h;exact .inr ⟨hi,h⟩
 have hst:Step w F μ σ (w.drew.alloc (.cells cur t)) F (fl μ id w.heap.size) (σ.set id (.arr t k ys)):=by
  refine⟨fun c q hF=>?_,fun _ _ h=>h,fun i o h=>?_,fun i t' k' zs us h h' he=>?_,fun i tt es h=>?_⟩
  ·rw[hget,if_neg]
   have:=(hr.col c q hF).1
   omega
  ·rw[aU hidl]
   by_cases hi:id=i
   ·subst hi
    rw[ho] at h;cases h
    exact⟨_,by rw[if_pos rfl],ys,rfl,by omega⟩
   ·exact⟨o,by rw[if_neg hi];exact h,Ob.ext_refl o⟩
  ·rw[aU hidl] at h'
   by_cases hi:id=i
   ·subst hi
    rw[if_pos rfl] at h'
    rw[ho] at h
    cases h;cases h'
    omega
   ·refine⟨by simp only[fl];rw[if_neg (fun e=>hi e.symm)],fun q cu fr hm hq=>⟨cu,fr,?_,rfl⟩⟩
    have:=hr.lt i q hm
    rw[hget,if_neg (by omega)];exact hq
  ·simp only[fl]
   rw[if_neg]
   rintro rfl
   rw[ho] at h;cases h
 refine⟨⟨fun i o h=>?_,fun i hi=>?_,fun i j q h1 h2=>?_,fun i q h=>?_,fun c q h=>⟨?_,fun i hi=>?_⟩⟩,hst,⟨rfl,rfl,rfl,by rw[hsize];omega,fun q hq hm=>?_,fun i q h=>?_,DN _⟩⟩
 ·rw[aU hidl] at h
  by_cases hi:id=i
  ·subst hi
   rw[if_pos rfl] at h
   cases h
   refine⟨hk,.inr ⟨w.heap.size,cur,(0,0),by simp[fl],by rw[hget,if_pos rfl],.zero _,fun j i y d hy hd=>?_⟩⟩
   obtain⟨v,h1,h2⟩:=hc j i y d hy hd
   exact⟨v,h1,h2.step hst⟩
  ·rw[if_neg hi] at h
   have:=hr.obj i o h
   have hg:fl μ id w.heap.size i=μ i:=by simp only[fl];rw[if_neg (fun e=>hi e.symm)]
   cases o with
   |arr t' k' zs=>
    refine⟨this.1,?_⟩
    rcases this.2 with⟨e1,e2⟩|⟨b',cu,fr',hb',hh',hfr',hcc⟩
    ·exact .inl ⟨e1,by rw[hg];exact e2⟩
    ·refine .inr ⟨b',cu,fr',by rw[hg];exact hb',?_,hfr',fun j q x d hx hd=>?_⟩
     ·have:=hr.lt _ _ hb'
      rw[hget,if_neg (by omega)];exact hh'
     ·obtain⟨v,h1,h2⟩:=hcc j q x d hx hd
      exact⟨v,h1,h2.step hst⟩
   |oth t' ds=>
    refine this.keep hst h fun q hq=>?_
    have:=hr.lt _ _ hq
    rw[hget,if_neg (by omega)]
   |dead=>exact hg.trans this
 ·simp at hi
  simp only[fl]
  rw[if_neg (by omega)]
  exact hr.out i hi
 ·rcases hmu i q h1 with⟨rfl,rfl⟩|⟨hi,h1'⟩
  ·rcases hmu j _ h2 with⟨rfl,_⟩|⟨hj,h2'⟩
   ·rfl
   ·have:=hr.lt _ _ h2';omega
  ·rcases hmu j _ h2 with⟨rfl,rfl⟩|⟨hj,h2'⟩
   ·have:=hr.lt _ _ h1';omega
   ·exact hr.inj _ _ _ h1' h2'
 ·rcases hmu i q h with⟨rfl,rfl⟩|⟨hi,h1'⟩
  ·rw[hsize];omega
  ·have:=hr.lt _ _ h1'
   rw[hsize];omega
 ·have:=(hr.col c q h).1
  rw[hsize];omega
 ·rcases hmu i q hi with⟨rfl,rfl⟩|⟨_,h1'⟩
  ·have:=(hr.col c _ h).1;omega
  ·exact(hr.col c q h).2 i h1'
 ·rw[hget,if_neg (by omega)]
 ·rcases hmu i q h with⟨rfl,rfl⟩|⟨_,h1'⟩
  ·exact .inr (AU _)
  ·exact .inl h1'
theorem HR.pushNil (hr:HR w F μ σ) (t k:Nat):HR w F μ (σ++[.arr t k []])∧Step w F μ σ w F μ (σ++[.arr t k []]):=by
 have hst:Step w F μ σ w F μ (σ++[.arr t k []]):=by
  refine⟨fun _ _ _=>rfl,fun _ _ h=>h,fun i o h=>⟨o,?_,Ob.ext_refl o⟩,fun _ _ _ _ _ _ _ _=>⟨rfl,fun q cu fr _ hq=>⟨cu,fr,hq,rfl⟩⟩,fun _ _ _ _=>rfl⟩
  have:=(AH.1 h).1
  rw[aD,if_neg (by omega)];exact h
 refine⟨⟨fun i o h=>?_,fun i hi=>hr.out i (by simp at hi;omega),hr.inj,hr.lt,hr.col⟩,hst⟩
 rw[aD] at h
 by_cases hi:i=σ.length
 ·rw[if_pos hi] at h
  cases h
  subst hi
  exact⟨by simp,.inl ⟨rfl,hr.out _ (AU _)⟩⟩
 ·rw[if_neg hi] at h
  have:=hr.obj i o h
  cases o with
  |arr t' k' zs=>
   refine⟨this.1,this.2.imp id ?_⟩
   rintro⟨b',cu,fr',hb',hh',hfr',hcc⟩
   refine⟨b',cu,fr',hb',hh',hfr',fun j q x d hx hd=>?_⟩
   obtain⟨v,h1,h2⟩:=hcc j q x d hx hd
   exact⟨v,h1,h2.step hst⟩
  |oth t' ds=>exact this.keep hst h fun q hq=>rfl
  |dead=>exact this
end
structure News (w:World) (F:Nat→Nat→Prop) (μ:Nat→Option Nat) (σ:List Ob) (k:Nat) (ys:List DV) (news:Array Value):Prop where
 size:news.size=ys.length*k
 len:∀y∈ys,y.cells.length=k
 one:∀u∈news.toList,u.oneCell'=true
 rep:∀(j i:Nat) (y d:DV),ys[j]?=some y→y.cells[i]?=some d→∃v,news[j*k+i]?=some v∧Rep w F μ σ d v
theorem jQ{k:Nat}{xs ys:List DV} (hx:∀y∈xs,y.cells.length=k) (hy:∀y∈ys,y.cells.length=k):∀y∈xs++ys,y.cells.length=k:=by
 intro y h
 rcases BT.1 h with h|h
 ·exact hx y h
 ·exact hy y h
theorem lA{P:Program}{w:World}{F:Nat→Nat→Prop}{μ:Nat→Option Nat}{σ:List Ob} (hr:HR w F μ σ){id e k:Nat}{bytes:Nat}{xs ys:List DV}{A:Option Addr}{cap:Nat}{news:Array Value}{z:Value}
  (ho:σ[id]?=some (.arr e k xs)) (hs:dX w μ σ id xs.length 0 xs.length A cap) (hn:News w F μ σ k ys news) (hy0:0<ys.length) (hb0:0<bytes) (hb:(xs.length+ys.length)*bytes≤140737488355328)
  (hzs:z.cells.size=k) (X:Sem (Array Value)) (hX:∀w':World,w'.heap=w.heap→X.run P w'=.ok news w') (R:Nat→Sem Unit) (hR:∀(n:Nat) (w':World),(R n).run P w'=.ok () w')
  (hold:∀w':World,w'.heap=w.heap→∃old,(Builtin.firstCells k xs.length (.slice A xs.length cap)).run P w'=.ok old w'∧old.size=xs.length*k∧
   ∀(j i:Nat) (y d:DV),xs[j]?=some y→y.cells[i]?=some d→∃v,old[j*k+i]?=some v∧Rep w F μ σ d v):
  ∃A' cap' w' μ',(do
    if xs.length+ys.length≤cap then
     let new←X
     if let some a:=A then storeCells (a.add (xs.length*k)) new.toList
     pure (Value.slice A (xs.length+ys.length) cap)
    else
     let newCap←choose (.appendCap (xs.length+ys.length) cap e)
     R newCap
     let old←Builtin.firstCells k xs.length (.slice A xs.length cap)
     let new←X
     let rest:=Builtin.zeroCells z.cells (newCap-(xs.length+ys.length))
     pure (Value.slice (some (←newRow e (old++new++rest))) (xs.length+ys.length) newCap):Sem Value).run P w=.ok (.slice A' (xs.length+ys.length) cap') w'∧
   HR w' F μ' (σ.set id (.arr e k (xs++ys)))∧Step w F μ σ w' F μ' (σ.set id (.arr e k (xs++ys)))∧Fr w μ w' μ'∧
   dX w' μ' (σ.set id (.arr e k (xs++ys))) id (xs++ys).length 0 (xs++ys).length A' cap':=by
 have hidl:=(AH.1 ho).1
 obtain⟨hxk,hor⟩:=hr.obj _ _ ho
 have hall:=jQ hxk hn.len
 have h47:xs.length+ys.length≤140737488355328:=Bl (CJ _ hb0) hb
 by_cases hcap:xs.length+ys.length≤cap
 ·-- in place
  obtain⟨t1,k1,xs1,ho1,_,_,_,hm,hq⟩:=hs
  rw[ho] at ho1
  cases ho1
  rcases hq rfl with⟨_,_,hc0,_⟩|⟨b,cur,fr,hmu,hh,hsz,hAs,hA⟩
  ·omega
  ·have hA':=hA (.inr rfl)
   subst hA'
   rcases hor with⟨_,hmu'⟩|⟨b',cur',fr',hmu',hh',hfr',hcells⟩
   ·rw[hmu] at hmu';cases hmu'
   rw[hmu] at hmu'
   cases hmu'
   rw[hh] at hh'
   cases hh'
   simp only[Bc,CT] at hsz⊢
   have hfit:0+xs.length*k+0+news.toList.length≤cur.size:=by
    refine Bl ?_ hsz
    simp only[Bc,Bt,B9,hn.size,←Bx]
    exact A7 _ hcap
   have hwrite:=hr.write (ys:=xs++ys) (cur':=gH cur (0+xs.length*k+0) news.toList) ho hmu hh hfr' (cH _ _ _) (by simp) hall (fun j i y d hy hd=>by
    have hyk:=hall y (AM hy)
    have hi:i<k:=by rw[←hyk];exact(AH.1 hd).1
    rw[gR _ _ _ _ hfit]
    simp only[Bc,Bt,B9,hn.size]
    rcases Bp j xs.length with hj|hj
    ·have:j*k+k≤xs.length*k:=by rw[←BY];exact A7 _ hj
     rw[if_neg (by omega)]
     rw[AJ hj] at hy
     exact hcells j i y d hy hd
    ·rw[AT hj] at hy
     have hjl:=(AH.1 hy).1
     have e1:j*k=xs.length*k+(j-xs.length)*k:=by rw[←Bx];congr 1;omega
     have e2:(j-xs.length)*k+k≤ys.length*k:=by rw[←BY];exact A7 _ hjl
     rw[if_pos (by omega)]
     obtain⟨v,h1,h2⟩:=hn.rep (j-xs.length) i y d hy hd
     exact⟨v,by rw[show j*k+i-xs.length*k=(j-xs.length)*k+i by omega];simpa using h1,h2⟩)
   refine⟨some ⟨b,0,none⟩,cap,_,μ,?_,hwrite.1,hwrite.2.1,hwrite.2.2,?_⟩
   ·rw[if_pos hcap]
    simp only[Sem.run_bind,hX w rfl,Result.andThen_ok,cj]
    have:=c0 (P:=P) news.toList 0 w cur (p:=0+xs.length*k) hh hfr' hfit (fun v hv=>hn.one v hv)
    simp only[this,Result.andThen_ok,Sem.run_pure]
   ·refine⟨e,k,xs++ys,by simp[hidl],by omega,AU _,by simpa using hcap,hm,fun _=>.inr ⟨b,_,_,hmu,by rw[bz (Bm.1 hh).1,if_pos rfl],by rw[cH];simpa using hsz,rfl,fun _=>by simp⟩⟩
 ·-- a new row
  have hcap':cap<xs.length+ys.length:=by omega
  obtain⟨old,hold1,hold2,hold3⟩:=hold w.drew rfl
  have hgc:=grownCap_ge w (xs.length+ys.length) cap e
  have hgm:=grownCap_le_maxLen w (xs.length+ys.length) cap e (by simp only[maxLen];omega)
  generalize hN:grownCap w (xs.length+ys.length) cap e=N at hgc hgm
  have hmove:=hr.move (ys:=xs++ys) (cur:=old++news++Builtin.zeroCells z.cells (N-(xs.length+ys.length))) ho (by simp;omega) hall (fun j i y d hy hd=>by
    have hyk:=hall y (AM hy)
    have hi:i<k:=by rw[←hyk];exact(AH.1 hd).1
    rcases Bp j xs.length with hj|hj
    ·have:j*k+k≤xs.length*k:=by rw[←BY];exact A7 _ hj
     rw[Array.append_assoc,BO (by omega)]
     rw[AJ hj] at hy
     exact hold3 j i y d hy hd
    ·rw[AT hj] at hy
     have hjl:=(AH.1 hy).1
     have e1:j*k=xs.length*k+(j-xs.length)*k:=by rw[←Bx];congr 1;omega
     have e2:(j-xs.length)*k+k≤ys.length*k:=by rw[←BY];exact A7 _ hjl
     rw[BO (by simp[hold2,hn.size];omega),DE (by omega)]
     obtain⟨v,h1,h2⟩:=hn.rep (j-xs.length) i y d hy hd
     exact⟨v,by rw[show j*k+i-old.size=(j-xs.length)*k+i by omega];exact h1,h2⟩)
  refine⟨some ⟨w.heap.size,0,none⟩,N,_,_,?_,hmove.1,hmove.2.1,hmove.2.2,?_⟩
  ·rw[if_neg hcap]
   have hch:(choose (.appendCap (xs.length+ys.length) cap e)).run P w=.ok N w.drew:=by
    rw[←hN]
    rfl
   simp only[Sem.run_bind,hch,Result.andThen_ok,hR,hold1,hX w.drew rfl]
   rfl
  ·refine⟨e,k,xs++ys,by simp[hidl],by omega,AU _,by simp;omega,hgm,fun _=>.inr ⟨w.heap.size,_,(0,0),by simp[fl],by rw[aS];exact if_pos rfl,DF ?_,rfl,fun _=>by simp⟩⟩
   simp only[C2,hold2,hn.size,Builtin.zeroCells,Dm,Dt,hzs,Bc]
   rw[←Bx,←Bx]
   congr 1;omega
end
section
def bV (σ:List Ob) (k:Nat) (d:DV):Option (List DV):=
 match d with
 |.nils=>some []
 |.emp=>some []
 |.vec _ k' xs=>if k'=k then some xs else none
 |.sl id g off len=>match σ[id]? with
  |some (.arr _t0 k' xs)=>if k'=k then(if g=xs.length then some ((xs.drop off).take len) else none) else none
  |_=>none
 |_=>none
section
variable{w:World}{F:Nat→Nat→Prop}{μ:Nat→Option Nat}{σ:List Ob}
theorem dp{P:Program} (hr:HR w F μ σ){k:Nat}{d:DV}{v:Value}{ys:List DV} (h:bV σ k d=some ys) (hv:Rep w F μ σ d v) (h1:∀y∈ys,∀c∈y.cells,c.one=true):
  ∃A cap news,v=.slice A ys.length cap∧News w F μ σ k ys news∧∀w':World,w'.heap=w.heap→(Builtin.firstCells k ys.length v).run P w'=.ok news w':=by
 have mk:∀(a:Addr) (cap:Nat) (u:Nat→Nat→Value),(∀y∈ys,y.cells.length=k)→(∀j i,j<ys.length→i<k→w.cell? (a.add (j*k+i))=some (u j i))→
   (∀(j i:Nat) (x d:DV),ys[j]?=some x→x.cells[i]?=some d→Rep w F μ σ d (u j i))→v=.slice (some a) ys.length cap→
   ∃A cap news,v=.slice A ys.length cap∧News w F μ σ k ys news∧∀w':World,w'.heap=w.heap→(Builtin.firstCells k ys.length v).run P w'=.ok news w':=by
  rintro a cap u hk hcell hrep rfl
  have hdm:∀j i,i<k→(j*k+i)/k=j∧(j*k+i)%k=i:=fun j i hi=>by
   rw[C7 j k]
   exact⟨by rw[Nat.mul_add_div (by omega),Nat.div_eq_of_lt hi];omega,by rw[Nat.mul_add_mod,CK hi]⟩
  have hsplit:∀q,q<ys.length*k→q/k<ys.length∧q%k<k∧(q/k)*k+q%k=q:=fun q hq=>by
   have hk0:0<k:=by rcases B4 k with h|h;·subst h;omega
                    ·exact h
   exact⟨(Nat.div_lt_iff_lt_mul hk0).2 hq,Nat.mod_lt _ hk0,by rw[C7];exact Nat.div_add_mod q k⟩
  refine⟨some a,cap,((Bs (ys.length*k)).map fun q=>u (q/k) (q%k)).toArray,rfl,⟨by simp,hk,fun x hx=>?_,fun j i y e hy he=>?_⟩,fun w' hw'=>?_⟩
  ·simp only[Ba,Cw] at hx
   obtain⟨q,hq,rfl⟩:=hx
   obtain⟨q1,q2,q3⟩:=hsplit q hq
   have hy:=AI q1
   have hlen:=hk _ (BS q1)
   have he:=AI (show q%k<ys[q/k].cells.length by omega)
   exact(tE (hrep _ _ _ _ hy he) (h1 _ (BS q1) _ (BS _))).2
  ·have hj:=(AH.1 hy).1
   have hi:i<k:=by rw[←hk y (AM hy)];exact(AH.1 he).1
   obtain⟨d1,d2⟩:=hdm j i hi
   have hlt:j*k+i<ys.length*k:=by
    have:j*k+k≤ys.length*k:=by rw[←BY];exact A7 _ hj
    omega
   exact⟨u j i,by simp[hlt,d1,d2],hrep j i y e hy he⟩
  ·simp only[Builtin.firstCells,loadCells]
   rw[c7 (u:=fun q=>u (q/k) (q%k)) _ 0 #[] (fun q hq=>by
    obtain⟨q1,q2,q3⟩:=hsplit q hq
    have:=hcell _ _ q1 q2
    rw[q3] at this
    rw[Bc]
    unfold World.cell? at this⊢
    rw[hw'];exact this)]
   simp
 have mk0:∀(A:Option Addr) (cap:Nat),ys=[]→v=.slice A 0 cap→∃A cap news,v=.slice A ys.length cap∧News w F μ σ k ys news∧∀w':World,w'.heap=w.heap→(Builtin.firstCells k ys.length v).run P w'=.ok news w':=by
  rintro A cap rfl rfl
  refine⟨A,cap, #[],rfl,⟨by simp,by simp,by simp,fun j i y d hy=>by simp at hy⟩,fun w' _=>?_⟩
  cases A with
  |none=>rfl
  |some a=>simp[Builtin.firstCells,loadCells,loadCellsFrom]
 unfold bV at h
 split at h<;>try cases h
 ·cases hv;exact mk0 none 0 rfl rfl
 ·cases hv;exact mk0 (some _) 0 rfl rfl
 ·rename_i c k' xs
  by_cases hk:k'=k
  ·rw[if_pos hk] at h
   cases h
   subst hk
   cases hv with
   |vec u hc hm ha hk hrep=>
    rcases B4 ys.length with h0|h0
    ·exact mk0 _ _ (BC h0) (by rw[h0])
    ·obtain⟨a,rfl,hF,hcell⟩:=ha h0
     exact mk a _ u hk hcell hrep rfl
  ·rw[if_neg hk] at h;cases h
 ·rename_i id g off len
  split at h<;>try cases h
  rename_i t0 k' xs ho
  by_cases hk:k'=k
  ·rw[if_pos hk] at h
   by_cases hg:g=xs.length
   ·rw[if_pos hg] at h
    cases h
    subst hk
    cases hv with
    |sl hs=>
     obtain⟨t2,k2,xs2,ho2,h1',h2,h3,h4,h5⟩:=hs
     rw[ho] at ho2
     cases ho2
     have hlen:((xs.drop off).take len).length=len:=by simp;omega
     rcases B4 len with h0|h0
     ·subst h0
      exact mk0 _ _ (by simp) rfl
     ·rcases h5 hg with⟨g0,_⟩|⟨b,cur,fr,hmu,hh,hsz,hAs,hA⟩
      ·omega
      ·have hA':=hA (.inl h0)
       subst hA'
       obtain⟨hxk,hor⟩:=hr.obj _ _ ho
       rcases hor with⟨he,_⟩|⟨b',cur',fr',hb',hh',hfr',hcells⟩
       ·subst he;simp at hg;omega
       ·rw[hmu] at hb'
        cases hb'
        rw[hh] at hh'
        cases hh'
        have hget:∀j x,((xs.drop off).take len)[j]?=some x→j<len∧xs[off+j]?=some x:=by
         intro j x hj
         have hjl:=(AH.1 hj).1
         rw[hlen] at hjl
         rw[BM hjl,Bk] at hj
         exact⟨hjl,hj⟩
        refine mk _ _ (fun j i=>(cur[(off+j)*k'+i]?).getD undef) (fun y hy=>?_) (fun j i hj hi=>?_) (fun j i x e hx he=>?_) (by rw[hlen])
        ·exact hxk y (By (Bz hy))
        ·rw[hlen] at hj
         have hx:xs[off+j]?=some (xs[off+j]'(by omega)):=AI (by omega)
         have hxl:=hxk _ (BS (show off+j<xs.length by omega))
         obtain⟨vv,hvv,_⟩:=hcells (off+j) i _ _ hx (AI (show i<xs[off+j].cells.length by omega))
         rw[cj]
         rw[show off*k'+(j*k'+i)=(off+j)*k'+i by rw[Bx];omega]
         simp only[World.cell?,hh]
         simp[hvv]
        ·obtain⟨hj,hx'⟩:=hget j x hx
         obtain⟨vv,hvv,hrep⟩:=hcells (off+j) i x e hx' he
         show Rep w F μ σ e ((cur[(off+j)*k'+i]?).getD undef)
         rw[hvv]
         exact hrep
   ·rw[if_neg hg] at h;cases h
  ·rw[if_neg hk] at h;cases h
theorem p8{P:Program} (hr:HR w F μ σ){id e k:Nat}{xs:List DV}{A:Option Addr}{cap:Nat} (ho:σ[id]?=some (.arr e k xs)) (hs:dX w μ σ id xs.length 0 xs.length A cap) (w':World) (hw:w'.heap=w.heap):
  ∃old,(Builtin.firstCells k xs.length (.slice A xs.length cap)).run P w'=.ok old w'∧old.size=xs.length*k∧
   ∀(j i:Nat) (y d:DV),xs[j]?=some y→y.cells[i]?=some d→∃v,old[j*k+i]?=some v∧Rep w F μ σ d v:=by
 obtain⟨t2,k2,xs2,ho2,h1',h2,h3,h4,h5⟩:=hs
 rw[ho] at ho2
 cases ho2
 rcases B4 xs.length with h0|h0
 ·have:xs=[]:=BC h0
  subst this
  refine⟨#[],?_,by simp,fun j i y d hy=>by simp at hy⟩
  cases A with
  |none=>rfl
  |some a=>simp[Builtin.firstCells,loadCells,loadCellsFrom]
 ·rcases h5 rfl with⟨g0,_⟩|⟨b,cur,fr,hmu,hh,hsz,hAs,hA⟩
  ·omega
  ·have hA':=hA (.inl h0)
   subst hA'
   obtain⟨hxk,hor⟩:=hr.obj _ _ ho
   rcases hor with⟨he,_⟩|⟨b',cur',fr',hb',hh',hfr',hcells⟩
   ·subst he;simp at h0
   ·rw[hmu] at hb'
    cases hb'
    rw[hh] at hh'
    cases hh'
    have hle:xs.length*k≤cur.size:=Bl (by rw[Bc];exact A7 _ h3) hsz
    refine⟨((Bs (xs.length*k)).map fun q=>(cur[q]?).getD undef).toArray,?_,by simp,fun j i y d hy hd=>?_⟩
    ·simp only[Builtin.firstCells,loadCells,CT]
     rw[c7 (u:=fun q=>(cur[q]?).getD undef) _ 0 #[] (fun q hq=>by
      rw[cj]
      simp only[World.cell?,hw,hh,Bc]
      simp[show q<cur.size by omega])]
     simp
    ·obtain⟨v,hv,hrep⟩:=hcells j i y d hy hd
     have hj:=(AH.1 hy).1
     have hi:i<k:=by rw[←hxk y (AM hy)];exact(AH.1 hd).1
     have:j*k+k≤xs.length*k:=by rw[←BY];exact A7 _ hj
     exact⟨v,by simp[show j*k+i<xs.length*k by omega,hv],hrep⟩
end
theorem p9{α:Type}{l:List α}{i:Nat}{a:α} (h:l[i]?=some a):l.set i a=l:=by
 apply BV
 intro j
 rw[aU (AH.1 h).1]
 by_cases hj:i=j
 ·subst hj;rw[if_pos rfl,h]
 ·rw[if_neg hj]
theorem mt{P:Program}{L:Lay} (hL:af P L){w:World}{F:Nat→Nat→Prop}{μ:Nat→Option Nat}{σ:List Ob} (hr:HR w F μ σ){t t' e:Nat}{ti ti' te:TI} (ht:L t=some ti) (hd:ti.d=.slice e) (hte:L e=some te)
  (ht':L t'=some ti'){e':Nat} (hd':ti'.d=.slice e') (hb0:0<te.bytes){id:Nat}{xs ys:List DV}{A:Option Addr}{cap:Nat} (ho:σ[id]?=some (.arr e te.k xs)) (hs:dX w μ σ id xs.length 0 xs.length A cap)
  {d2:DV}{v2:Value} (h2:bV σ te.k d2=some ys) (hv2:Rep w F μ σ d2 v2) (h1:∀y∈ys,∀c∈y.cells,c.one=true) (hb:(xs.length+ys.length)*te.bytes≤140737488355328) (ty:TypeId):
  ∃A' cap' w' μ',(Builtin.append_ #[t,t'] ty #[.slice A xs.length cap,v2]).run P w=.ok (.slice A' (xs.length+ys.length) cap') w'∧
   HR w' F μ' (σ.set id (.arr e te.k (xs++ys)))∧Step w F μ σ w' F μ' (σ.set id (.arr e te.k (xs++ys)))∧Fr w μ w' μ'∧
   dX w' μ' (σ.set id (.arr e te.k (xs++ys))) id (xs++ys).length 0 (xs++ys).length A' cap':=by
 obtain⟨desc,hu,hdesc⟩:=(hL _ _ ht).und
 rw[hd] at hdesc
 cases hdesc
 obtain⟨desc',hu',hdesc'⟩:=(hL _ _ ht').und
 rw[hd'] at hdesc'
 cases hdesc'
 obtain⟨A2,cap2,news,rfl,hnews,hfirst⟩:=dp (P:=P) hr h2 hv2 h1
 obtain⟨z,hz,hzs,hzo⟩:=(hL _ _ hte).zero w
 have hsize:=fun w=>(hL _ _ hte).size w
 obtain⟨it,z',i1,i2,i3,i4,i5,i6⟩:=(hL _ _ hte).info
 have hty:∀w,(typeInfo e).run P w=.ok it w:=fun w=>by simp[typeInfo,i1,program,Sem.run]
 have hzr:∀w,(zeroValue e).run P w=.ok z' w:=fun w=>by simp[zeroValue,hty,i4]
 rcases B4 ys.length with hy|hy
 ·-- nothing is appended
  have:ys=[]:=BC hy
  subst this
  have hs':=hs
  obtain⟨t2,k2,xs2,ho2,_,_,hcap,_⟩:=hs'
  rw[ho] at ho2
  cases ho2
  refine⟨A,cap,w,μ,?_,?_⟩
  ·have hf0:(Builtin.firstCells te.k 0 (.slice A2 0 cap2)).run P w=.ok #[] w:=by
    cases A2 with
    |none=>rfl
    |some a=>simp[Builtin.firstCells,loadCells,loadCellsFrom]
   cases A<;>simp[Builtin.append_,run_underlying hu,run_underlying hu',hsize,Builtin.lenOf,hcap,hf0,storeCells]
  ·simp only[AK]
   rw[p9 ho]
   exact⟨hr,Step.refl ..,Fr.refl ..,hs⟩
 ·obtain⟨A',cap',w',μ',hrun,h⟩:=lA (P:=P) (z:=z') (bytes:=te.bytes) hr ho hs hnews hy hb0 hb i5 (Builtin.firstCells te.k ys.length (.slice A2 ys.length cap2)) (hfirst) (fun n=>askRoom (n*it.bytes))
   (fun n w'=>by unfold askRoom;split<;>rfl) (fun w' hw=>p8 hr ho hs w' hw)
  refine⟨A',cap',w',μ',?_,h⟩
  rw[←hrun]
  have hfit:=growslice_fits (need:=xs.length+ys.length) (old:=cap) (bytes:=it.bytes)
  rw[i3] at hfit
  by_cases hc:xs.length+ys.length≤cap
  ·simp only[Builtin.append_,run_underlying hu,run_underlying hu',hsize,Builtin.lenOf,Sem.run_bind,Sem.run_pure,Result.andThen_ok,Bn,AY,BH,Bb,if_false,C3,if_true,if_pos hc]
   rfl
  ·have hf2:¬(Builtin.nextslicecap (xs.length+ys.length) cap*it.bytes>2^48):=by
    have:=hfit (by omega) hb
    rw[i3];exact Du.2 this
   have hbn:¬(it.bytes=0):=by omega
   simp only[Builtin.append_,run_underlying hu,run_underlying hu',hsize,hty,hzr,Builtin.lenOf,Sem.run_bind,Sem.run_pure,Result.andThen_ok,Bn,AY,BH,Bb,if_false,C3,if_true,if_neg hc,hbn,or_self,and_false,hf2]
end
section
def au (d:Option DV) (dflt max:Nat):Option Nat:=
 match d with
 |none=>some dflt
 |some (.int _ n)=>if 0≤n∧n≤(max:Int) then some n.toNat else none
 |some _=>none
def aw (L:Lay) (σ:List Ob) (t:Nat) (d:DV) (lo hi:Option DV):Option DV:=
 match L t with
 |some {d:=.slice e,..}=>match L e with
  |some te=>match d with
   |.vec c k xs=>if te.k=k then(match au hi xs.length xs.length with
     |some h=>match au lo 0 h with
      |some l=>some (.vec c k ((xs.take h).drop l))
      |none=>none
     |none=>none) else none
   |.sl id g off len=>match σ[id]? with
     |some (.arr _t0 k xs)=>if te.k=k∧g=xs.length then(match au hi len len with
      |some h=>match au lo 0 h with
       |some l=>some (.sl id g (off+l) (h-l))
       |none=>none
      |none=>none) else none
     |_=>none
   |.nils=>match au hi 0 0 with
     |some h=>match au lo 0 h with
      |some _=>some .nils
      |none=>none
     |none=>none
   |_=>none
  |none=>none
 |some {d:=.str,..}=>match d with
  |.str s=>match au hi s.size s.size with
   |some h=>match au lo 0 h with
    |some l=>some (.str (s.extract l h))
    |none=>none
   |none=>none
  |_=>none
 |_=>none
section
variable{P:Program}{w:World}{F:Nat→Nat→Prop}{μ:Nat→Option Nat}{σ:List Ob}
theorem bt{d:DV}{v:Value} (hv:Rep w F μ σ d v){dflt max n:Nat} (h:au (some d) dflt max=some n){y:Nat} (hy:max≤y) (code:BoundsCode):
  (Instr.sliceBound v y code).run P w=.ok n w∧n≤max:=by
 cases d with
 |int k i=>
  simp only[au] at h
  cases hv
  by_cases hi:0≤i∧i≤(max:Int)
  ·rw[if_pos hi] at h
   cases h
   refine⟨?_,by omega⟩
   simp only[Instr.sliceBound,Sem.run_bind,asIntOf,Sem.run_pure,Result.andThen_ok]
   rw[if_pos (by omega)]
   rfl
  ·rw[if_neg hi] at h;cases h
 |_=>cases h
def kp (w:World) (F:Nat→Nat→Prop) (μ:Nat→Option Nat) (σ:List Ob) (d:Option DV) (v:Option Value):Prop:=
 (d=none∧v=none)∨∃d' v',d=some d'∧v=some v'∧Rep w F μ σ d' v'
theorem fJ{dlo dhi:Option DV}{vlo vhi:Option Value} (hlo:kp w F μ σ dlo vlo) (hhi:kp w F μ σ dhi vhi){len cap l h:Nat} (hc:len≤cap) (h1:au dhi len len=some h) (h2:au dlo 0 h=some l) (b:Bool):
  (Instr.sliceBounds b len cap vlo vhi none).run P w=.ok (l,h,cap) w∧l≤h∧h≤len:=by
 have hh:h≤len∧((match vhi with|some v=>Instr.sliceBound v cap (if b then .sliceAcap else .sliceAlen)|none=>pure len:Sem Nat)).run P w=.ok h w:=by
  rcases hhi with⟨rfl,rfl⟩|⟨d',v',rfl,rfl,hr⟩
  ·simp only[au,AX.injEq] at h1
   subst h1
   exact⟨AU _,rfl⟩
  ·have:=bt (P:=P) hr h1 hc (if b then .sliceAcap else .sliceAlen)
   exact⟨this.2,this.1⟩
 have hl:l≤h∧((match vlo with|some v=>Instr.sliceBound v h .sliceB|none=>pure 0:Sem Nat)).run P w=.ok l w:=by
  rcases hlo with⟨rfl,rfl⟩|⟨d',v',rfl,rfl,hr⟩
  ·simp only[au,AX.injEq] at h2
   subst h2
   exact⟨BD _,rfl⟩
  ·have:=bt (P:=P) hr h2 (AU h) .sliceB
   exact⟨this.2,this.1⟩
 refine⟨?_,hl.1,hh.1⟩
 have e1:=hh.2
 have e2:=hl.2
 unfold Instr.sliceBounds
 cases vhi<;>cases vlo<;>simp_all [Sem.run_bind]
theorem qc{L:Lay} (hL:af P L){t:Nat}{d d':DV}{v:Value}{dlo dhi:Option DV}{vlo vhi:Option Value} (h:aw L σ t d dlo dhi=some d') (hv:Rep w F μ σ d v) (hlo:kp w F μ σ dlo vlo) (hhi:kp w F μ σ dhi vhi):
  ∃v',(Instr.sliceAt t v vlo vhi none).run P w=.ok v' w∧Rep w F μ σ d' v':=by
 unfold aw at h
 split at h<;>try cases h
 ·rename_i k0 by0 e z ht
  obtain⟨desc,hu,rfl⟩:=(hL _ _ ht).und
  split at h<;>try cases h
  rename_i te hte
  have hsz:=(hL _ _ hte).size w
  have run:∀(A:Option Addr) (len cap l hh:Nat),len≤cap→au dhi len len=some hh→au dlo 0 hh=some l→
    (Instr.sliceAt t (.slice A len cap) vlo vhi none).run P w=.ok (.slice (if cap=l then A else A.map (·.add (l*te.k))) (hh-l) (cap-l)) w∧l≤hh∧hh≤len:=by
   intro A len cap l hh hc h1 h2
   obtain⟨h3,h4,h5⟩:=fJ (P:=P) hlo hhi hc h1 h2 true
   refine⟨?_,h4,h5⟩
   simp only[Instr.sliceAt,Sem.run_bind,run_underlying hu,Result.andThen_ok,Instr.slice,h3,hsz,Sem.run_pure]
  split at h<;>try cases h
  ·rename_i c k xs
   by_cases hk:te.k=k
   ·rw[if_pos hk] at h
    split at h<;>try cases h
    rename_i hi h1
    split at h<;>try cases h
    rename_i l h2
    cases hv with
    | @vec _ _ _ A cap u hc hm ha hkk hr=>
     obtain⟨r1,r2,r3⟩:=run A xs.length cap l hi hc h1 h2
     refine⟨_,r1,?_⟩
     have hlen:((xs.take hi).drop l).length=hi-l:=by simp;omega
     have hget:∀j x,((xs.take hi).drop l)[j]?=some x→l+j<hi∧xs[l+j]?=some x:=by
      intro j x hj
      have hjl:=(AH.1 hj).1
      rw[hlen] at hjl
      rw[Bk,BM (by omega)] at hj
      exact⟨by omega,hj⟩
     rw[←hlen]
     refine .vec (fun j i=>u (l+j) i) (by rw[hlen];omega) (by omega) (fun h0=>?_) (fun x hx=>hkk x (Bz (By hx))) (fun j i x e hx he=>hr (l+j) i x e (hget j x hx).2 he)
     rw[hlen] at h0⊢
     obtain⟨a,rfl,hF,hcell⟩:=ha (by omega)
     rw[if_neg (by omega)]
     refine⟨a.add (l*te.k),rfl,by rw[dC];exact hF,fun j i hj hi'=>?_⟩
     rw[iq,hk,←C0,←Bx]
     exact hcell (l+j) i (by omega) hi'
   ·rw[if_neg hk] at h;cases h
  ·rename_i id g off len
   split at h<;>try cases h
   rename_i t0 k xs ho
   by_cases hk:te.k=k∧g=xs.length
   ·rw[if_pos hk] at h
    split at h<;>try cases h
    rename_i hi h1
    split at h<;>try cases h
    rename_i l h2
    cases hv with
    | @sl _ _ _ _ A cap hs=>
     obtain⟨t2,k2,xs2,ho2,g1,g2,g3,g4,g5⟩:=hs
     rw[ho] at ho2
     cases ho2
     obtain⟨r1,r2,r3⟩:=run A len cap l hi g3 h1 h2
     refine⟨_,r1,.sl ⟨t0,k,xs,ho,by omega,g2,by omega,by omega,fun hg=>?_⟩⟩
     rcases g5 hg with⟨q1,rfl,q3,q4⟩|⟨b,cur,fr,q1,q2,q3,q5,q4⟩
     ·refine .inl ⟨q1,?_,by omega,q4⟩
      split<;>rfl
     ·refine .inr ⟨b,cur,fr,q1,q2,Bl (DF (by congr 1;omega)) q3,by split<;>simp[q5],fun hpos=>?_⟩
      have hA:=q4 (by omega)
      subst hA
      by_cases hcl:cap=l
      ·rw[if_pos hcl]
       have:l=0:=by omega
       subst this
       simp
      ·rw[if_neg hcl,hk.1]
       simp only[AW,cj,Bx]
   ·rw[if_neg hk] at h;cases h
  ·cases hv
   split at h<;>try cases h
   rename_i hi h1
   split at h<;>try cases h
   rename_i l h2
   obtain⟨r1,r2,r3⟩:=run none 0 0 l hi (AU _) h1 h2
   obtain rfl:hi=0:=by omega
   obtain rfl:l=0:=by omega
   exact⟨_,r1,.nils⟩
 ·rename_i k0 by0 z ht
  obtain⟨desc,hu,rfl⟩:=(hL _ _ ht).und
  split at h<;>try cases h
  rename_i s
  cases hv
  split at h<;>try cases h
  rename_i hi h1
  split at h<;>try cases h
  rename_i l h2
  obtain⟨h3,h4,h5⟩:=fJ (P:=P) hlo hhi (AU s.size) h1 h2 false
  refine⟨_,?_,.str⟩
  simp only[Instr.sliceAt,Sem.run_bind,run_underlying hu,Result.andThen_ok,Instr.slice,h3,Sem.run_pure,Option.isSome_none,Bb,if_false]
end
end
section
theorem yk{α:Type} [Inhabited α] (z:Array α) (k n:Nat) (hz:z.size=k) (j i:Nat) (hi:i<k) (hj:j<n):((Array.range (n*k)).map (fun q=>z[q%z.size]!))[j*k+i]?=z[i]?:=by
 have hlt:j*k+i<n*k:=by
  have:j*k+k≤n*k:=by rw[←BY];exact A7 _ hj
  omega
 rw[DK,Array.getElem?_range]
 rw[if_pos hlt]
 simp only[AW]
 rw[hz,C7 j k,Nat.mul_add_mod,CK hi]
 rw[BG (by omega)]
 simp[show i<z.size by omega]
def pc (L:Lay) (ob:List Ob) (t:Nat) (l c:DV):Option (DV×List Ob):=
 match L t with
 |some {d:=.slice e,..}=>match L e with
  |some te=>match l,c with
   |.int _ n,.int _ m=>if 0≤n∧n≤m∧(te.bytes:Int)*m≤281474976710656∧m≤9223372036854775807∧te.zero.cells.length=te.k∧0<te.k then
    some (.sl ob.length n.toNat 0 n.toNat,ob++[.arr e te.k (AO n.toNat te.zero)]) else none
   |_,_=>none
  |none=>none
 |_=>none
section
variable{P:Program}{w:World}{F:Nat→Nat→Prop}{μ:Nat→Option Nat}{σ:List Ob}
theorem nz{L:Lay} (hL:af P L) (hr:HR w F μ σ){t:Nat}{l c d:DV}{vl vc:Value}{σ':List Ob} (h:pc L σ t l c=some (d,σ')) (hl:Rep w F μ σ l vl) (hc:Rep w F μ σ c vc):
  ∃v w' μ',(Instr.makeSlice t vl vc).run P w=.ok v w'∧HR w' F μ' σ'∧Step w F μ σ w' F μ' σ'∧Fr w μ w' μ'∧Rep w' F μ' σ' d v:=by
 unfold pc at h
 split at h<;>try cases h
 rename_i k0 by0 e z ht
 obtain⟨desc,hu,rfl⟩:=(hL _ _ ht).und
 split at h<;>try cases h
 rename_i te hte
 split at h<;>try cases h
 rename_i kn n km m
 cases hl;cases hc
 by_cases hcond:0≤n∧n≤m∧(te.bytes:Int)*m≤281474976710656∧m≤9223372036854775807∧te.zero.cells.length=te.k∧0<te.k
 ·rw[if_pos hcond] at h
  cases h
  obtain⟨h0,h1,h2,h3,h4,h5⟩:=hcond
  obtain⟨it,z',i1,i2,i3,i4,i5,i6⟩:=(hL _ _ hte).info
  have hrz:Rep w F μ σ te.zero z':=by rw[←i6];exact cn z'
  obtain⟨N,rfl⟩:=Cj h0
  obtain⟨M,rfl⟩:=Cj (show 0≤m by omega)
  have wn:IntKind.i64.wrap (N:Int)=N:=IntWalk.i64_in _ (by omega)
  have wm:IntKind.i64.wrap (M:Int)=M:=IntWalk.i64_in _ (by omega)
  have hm0:M*te.k=0→M=0:=fun h=>by
   rcases Nat.mul_eq_zero.1 h with h|h
   ·exact h
   ·omega
  obtain⟨p1,p2,p3⟩:=hr.push (t:=e) (k:=te.k) (xs:=AO N te.zero) (cur:=(Array.range (M*te.k)).map (fun q=>(if M*te.k=0 then #[] else z'.cells)[q%(if M*te.k=0 then(#[]:Array Value) else z'.cells).size]!))
   (.zero _) (fun y hy=>by rw[(BK.1 hy).2];exact h4) (fun j i y d hy hd=>by
    rw[Ck] at hy
    by_cases hj:j<N
    ·rw[if_pos hj] at hy
     cases hy
     have hi:i<te.k:=by rw[←h4];exact(AH.1 hd).1
     obtain⟨u,hu1,hu2⟩:=dw hrz (by rw[i5,h4]) i d hd
     refine⟨u,?_,hu2⟩
     rw[if_neg (fun h=>by have:=hm0 h;omega)]
     rw[yk z'.cells te.k M i5 j i hi (by omega)]
     exact hu1
    ·rw[if_neg hj] at hy;cases hy)
  simp only[Bg]
  refine⟨_,_,_,?_,p1,p2,p3,.sl (A:=some ⟨w.heap.size,0,none⟩) (cap:=M) ⟨e,te.k,AO N te.zero,by simp,by omega,by simp,by omega,by simp only[maxLen];omega,fun _=>.inr ⟨w.heap.size,_,(0,0),by simp[bd],by rw[aS];exact if_pos rfl,by simp,rfl,fun _=>by simp⟩⟩⟩
  have hb:¬((te.bytes:Int)*M>2^48):=by omega
  have hzv:∀w,(zeroValue e).run P w=.ok z' w:=fun w=>by simp[zeroValue,typeInfo,i1,i4,program,Sem.run]
  have hti:∀w,(typeInfo e).run P w=.ok it w:=fun w=>by simp[typeInfo,i1,program,Sem.run]
  have hask:∀n w,(askRoom n).run P w=.ok () w:=fun n w=>by unfold askRoom;split<;>rfl
  have hno:¬((((decide ((M:Int)<0)||decide ((it.bytes:Int)*M>2^48))||decide ((N:Int)<0))||decide ((N:Int)>M))=true):=by
   rw[i3];simp;omega
  simp only[Instr.makeSlice,Sem.run_bind,run_underlying hu,Result.andThen_ok,asInt,asIntOf,Sem.run_pure,hti,wn,wm,Bg]
  rw[if_neg hno]
  simp only[Sem.run_bind,hask,Result.andThen_ok,(hL _ _ hte).size]
  by_cases hz:M*te.k=0
  ·rw[if_pos hz];simp only[hz,if_true];rfl
  ·rw[if_neg hz]
   simp only[if_neg hz,Sem.run_bind,hzv,Result.andThen_ok]
   rfl
 ·rw[if_neg hcond] at h;cases h
def vn (L:Lay) (ob:List Ob) (t n:Nat) (parts:List (Nat×DV)):Option (DV×List Ob):=
 match L t with
 |some {d:=.slice e,..}=>match L e with
  |some te=>if parts.map (·.1)=Bs n∧(parts.all fun p=>p.2.full&&p.2.cells.length==te.k)=true∧n*te.k≤16777216∧n≤16777216∧te.zero.cells.length=te.k then
   some (.sl ob.length n 0 n,ob++[.arr e te.k (parts.map (·.2))]) else none
  |none=>none
 |_=>none
theorem rc{k:Nat}:∀(ds:List DV) (_:∀y∈ds,y.cells.length=k) (j i:Nat) (y:DV),ds[j]?=some y→i<k→(ds.flatMap DV.cells)[j*k+i]?=y.cells[i]?
 | [],_,j,i,y,h,_=>by simp at h
 |d::ds,hk,0,i,y,h,hi=>by
  simp only[AY,AX.injEq] at h
  subst h
  simp only[Cx,CT,Bc]
  rw[AJ (by rw[hk d (by simp)];exact hi)]
 |d::ds,hk,j+1,i,y,h,hi=>by
  simp only[BH] at h
  simp only[Cx]
  rw[AT (by rw[hk d (by simp),Bx];omega),hk d (by simp),show(j+1)*k+i-k=j*k+i by rw[Bx];omega]
  exact rc ds (fun y hy=>hk y (by simp[hy])) j i y h hi
theorem fo{k:Nat}:∀(ds:List DV) (_:∀y∈ds,y.cells.length=k),(ds.flatMap DV.cells).length=ds.length*k
 | [],_=>by simp
 |d::ds,hk=>by
  simp only[Cx,AP,A5]
  rw[fo ds (fun y hy=>hk y (by simp[hy])),hk d (by simp),Bx];omega
theorem u0{k:Nat}:∀(rest pre:List DV) (parts:List (Nat×DV)),(∀y∈pre,y.cells.length=k)→(∀y∈rest,y.cells.length=k∧y.full=true)→parts.map (·.1)=Dz pre.length rest.length→parts.map (·.2)=rest→
  fy (fun i=>some (i*k,k)) (pre.flatMap DV.cells++AO (rest.length*k) .undef) parts=some ((pre++rest).flatMap DV.cells):=by
 intro rest
 induction rest with
 |nil=>
  intro pre parts _ _ _ h2
  have:parts=[]:=by simpa using h2
  subst this
  simp[fy]
 |cons d rest ih=>
  intro pre parts hp hr h1 h2
  rcases parts with _|⟨⟨i,x⟩,parts⟩
  ·simp at h2
  ·simp only[Bf,List.cons.injEq] at h2
   obtain⟨rfl,h2⟩:=h2
   simp only[Bf,A5,DP,List.cons.injEq] at h1
   obtain⟨rfl,h1⟩:=h1
   obtain⟨hxk,hxf⟩:=hr x (by simp)
   simp only[fy]
   rw[if_pos ⟨hxf,hxk,by rw[AP,fo pre hp,Br,A5,Bx];omega⟩]
   have hs:gM (pre.flatMap DV.cells++AO ((x::rest).length*k) .undef) (pre.length*k) x.cells=(pre++[x]).flatMap DV.cells++AO (rest.length*k) .undef:=by
    unfold gM
    rw[←fo pre hp,Dn,Cm,Cp (by omega)]
    simp only[Be,List.drop_replicate,List.flatMap_append,Cx,List.flatMap_nil,AK,AR,A5,hxk]
    congr 3
    rw[Bx];omega
   rw[hs]
   have hpx:∀y∈pre++[x],y.cells.length=k:=fun y hy=>(BT.1 hy).elim (hp y) (fun h=>by rw[BX.1 h];exact hxk)
   have:=ih (pre++[x]) parts hpx (fun y hy=>hr y (by simp[hy])) (by simpa using h1) h2
   rw[this]
   simp
theorem ms{L:Lay} (hL:af P L) (hr:HR w F μ σ){t n:Nat}{parts:List (Nat×DV)}{us:Array (Nat×Value)}{d:DV}{σ':List Ob} (h:vn L σ t n parts=some (d,σ'))
  (hp:All2 (fun p u=>p.1=u.1∧Rep w F μ σ p.2 u.2) parts us.toList):
  ∃v w' μ',(Instr.buildSlice t n us).run P w=.ok v w'∧HR w' F μ' σ'∧Step w F μ σ w' F μ' σ'∧Fr w μ w' μ'∧Rep w' F μ' σ' d v:=by
 unfold vn at h
 split at h<;>try cases h
 rename_i k0 by0 e z ht
 obtain⟨desc,hu,rfl⟩:=(hL _ _ ht).und
 split at h<;>try cases h
 rename_i te hte
 by_cases hcond:parts.map (·.1)=Bs n∧(parts.all fun p=>p.2.full&&p.2.cells.length==te.k)=true∧n*te.k≤16777216∧n≤16777216∧te.zero.cells.length=te.k
 ·rw[if_pos hcond] at h
  cases h
  obtain⟨h1,h2,h3,h3',h4⟩:=hcond
  obtain⟨it,z',i1,i2,i3,i4,i5,i6⟩:=(hL _ _ hte).info
  have hpl:parts.length=n:=by have:=congrArg Cr h1;simpa using this
  have hel:∀y∈parts.map (·.2),y.cells.length=te.k∧y.full=true:=by
   intro y hy
   obtain⟨p,hp1,rfl⟩:=Ba.1 hy
   have:=AS.1 h2 p hp1
   simp at this
   exact⟨this.2,this.1⟩
  have hfl:=u0 (k:=te.k) (parts.map (·.2)) [] parts (by simp) hel (by simp[hpl,h1,DA]) rfl
  simp only[List.flatMap_nil,Be,AN,hpl] at hfl
  have hrl:∀(vs:Array Value),vs.size=n*te.k→RL w F μ σ (AO (n*te.k) .undef) vs:=fun vs hvs=>⟨by simp[hvs],fun i d v hd _=>by
   have:=AM hd
   rw[(BK.1 this).2];exact .undef⟩
  have hzv:∀w,(zeroValue e).run P w=.ok z' w:=fun w=>by simp[zeroValue,typeInfo,i1,i4,program,Sem.run]
  have key:∀zz:Array Value,∃cells,Instr.fill (fun i=>some (i*te.k,te.k)) ((Array.range (n*te.k)).map (fun q=>zz[q%zz.size]!)) us.toList=some cells∧RL w F μ σ ((parts.map (·.2)).flatMap DV.cells) cells:=fun zz=>
   jr parts us.toList _ _ _ (hrl _ (by simp)) hfl hp
  have fin:∀cells,RL w F μ σ ((parts.map (·.2)).flatMap DV.cells) cells→(Instr.buildSlice t n us).run P w=.ok (.slice (some ⟨w.heap.size,0,none⟩) n n) (w.alloc (.cells cells e))→
    ∃v w' μ',(Instr.buildSlice t n us).run P w=.ok v w'∧HR w' F μ' (σ++[.arr e te.k (parts.map (·.2))])∧Step w F μ σ w' F μ' (σ++[.arr e te.k (parts.map (·.2))])∧Fr w μ w' μ'∧Rep w' F μ' (σ++[.arr e te.k (parts.map (·.2))]) (.sl σ.length n 0 n) v:=by
   intro cells hc hrun
   have hlen:cells.size=n*te.k:=by rw[←hc.1,fo _ (fun y hy=>(hel y hy).1)];simp[hpl]
   obtain⟨p1,p2,p3⟩:=hr.push (t:=e) (k:=te.k) (xs:=parts.map (·.2)) (cur:=cells) (.zero _) (fun y hy=>(hel y hy).1) (fun j i y d hy hd=>by
    have hi:i<te.k:=by rw[←(hel y (AM hy)).1];exact(AH.1 hd).1
    have hg:=rc (k:=te.k) _ (fun y hy=>(hel y hy).1) j i y hy hi
    rw[hd] at hg
    have hlt:=(AH.1 hg).1
    rw[hc.1] at hlt
    exact⟨_,BG hlt,hc.2 _ d _ hg (BG hlt)⟩)
   exact⟨_,_,_,hrun,p1,p2,p3,.sl ⟨e,te.k,parts.map (·.2),by simp,by omega,by simp[hpl],AU _,by
    simp only[maxLen];omega,fun _=>.inr ⟨w.heap.size,cells,(0,0),by simp[bd],by rw[aS];exact if_pos rfl,by simp[hlen],rfl,fun _=>by simp⟩⟩⟩
  by_cases hz:n*te.k=0
  ·obtain⟨cells,hc1,hc2⟩:=key #[]
   refine fin cells hc2 ?_
   simp only[Instr.buildSlice,Sem.run_bind,run_underlying hu,Result.andThen_ok,(hL _ _ hte).size]
   rw[if_neg (by omega),if_pos hz]
   simp only[Sem.run_bind,Sem.run_pure,Result.andThen_ok,hc1]
   rfl
  ·obtain⟨cells,hc1,hc2⟩:=key z'.cells
   refine fin cells hc2 ?_
   simp only[Instr.buildSlice,Sem.run_bind,run_underlying hu,Result.andThen_ok,(hL _ _ hte).size]
   rw[if_neg (by omega),if_neg hz]
   simp only[Sem.run_bind,Sem.run_pure,Result.andThen_ok,hzv,hc1]
   rfl
 ·rw[if_neg hcond] at h;cases h
end
end
section
def gD (L:Lay) (t:Nat) (d:DV):Option DV:=
 match L t,d with
 |some {d:=.slice _,..},.vec _ _ xs=>some (.int .i64 xs.length)
 |some {d:=.slice _,..},.sl _ _ _ len=>some (.int .i64 len)
 |some {d:=.slice _,..},.nils=>some (.int .i64 0)
 |some {d:=.slice _,..},.emp=>some (.int .i64 0)
 |some {d:=.str,..},.str s=>some (.int .i64 s.size)
 |_,_=>none
def mn (a b:Int):Int:=if b<a then b else a
def mx (a b:Int):Int:=if b>a then b else a
def og:List DV→Option DV
 | [.int k a,.int _ b]=>some (.int k (mn a b))
 | [.int k a,.int _ b,.int _ c]=>some (.int k (mn (mn a b) c))
 |_=>none
def mQ:List DV→Option DV
 | [.int k a,.int _ b]=>some (.int k (mx a b))
 | [.int k a,.int _ b,.int _ c]=>some (.int k (mx (mx a b) c))
 |_=>none
def aG (L:Lay) (ob:List Ob) (t t':Nat) (d1 d2:DV):Option (DV×List Ob):=
 match L t,L t' with
 |some {d:=.slice e,..},some {d:=.slice _,..}=>match L e with
  |some te=>match bV ob te.k d2 with
   |some ys=>if 0<te.bytes∧(ys.all fun y=>y.cells.all DV.one)=true then match d1 with
     |.sl id g off len=>match ob[id]? with
      |some (.arr e0 k xs)=>if e0=e∧k=te.k∧g=xs.length∧off=0∧len=xs.length∧(xs.length+ys.length)*te.bytes≤140737488355328 then
       some (.sl id (xs.length+ys.length) 0 (xs.length+ys.length),ob.set id (.arr e k (xs++ys))) else none
      |_=>none
     |.nils=>if ys.length*te.bytes≤140737488355328 then some (.sl ob.length ys.length 0 ys.length,ob++[.arr e te.k ys]) else none
     |_=>none
    else none
   |none=>none
  |none=>none
 |_,_=>none
def cF (L:Lay) (s t:Nat) (d:DV):Option DV:=
 match L s,L t with
 |some _,some {d:=.int k,..}=>match d with
  |.int _ n=>some (.int k (k.wrap n))
  |_=>none
 |some _,some {d:=.str,..}=>match d with
  |.str x=>some (.str x)
  |_=>none
 |_,_=>none
def io (L:Lay) (op:BinOp) (t:Nat) (a b:DV):Option DV:=
 match a,b with
 |.int k x,.int k' y=>match op with
  |.shl=>bA .shl k x y
  |.shr=>bA .shr k x y
  |op=>if k=k' then ci op k x y else none
 |.str x,.str y=>jz op x y
 |.bool x,.bool y=>match L t,op with
  |some {d:=.bool,..},.eql=>some (.bool (x==y))
  |some {d:=.bool,..},.neq=>some (.bool (!(x==y)))
  |_,_=>none
 |_,_=>none
section
variable{P:Program}{L:Lay}{w:World}{F:Nat→Nat→Prop}{μ:Nat→Option Nat}{σ:List Ob}
theorem uB (hL:af P L){op:BinOp}{t:Nat}{a b d:DV}{va vb:Value} (h:io L op t a b=some d) (ha:Rep w F μ σ a va) (hb:Rep w F μ σ b vb) (x y:Operand):
  ∃v,(do eqGuard op t x y va vb;binOp op t va vb:Sem Value).run P w=.ok v w∧Rep w F μ σ d v:=by
 have gi:∀k k' n n',(eqGuard op t x y (.int k n) (.int k' n')).run P w=.ok () w:=by intro k k' n n';unfold eqGuard;cases op<;>rfl
 have gs:∀a b,(eqGuard op t x y (.string a) (.string b)).run P w=.ok () w:=by intro a b;unfold eqGuard;cases op<;>rfl
 have gb:∀a b,(eqGuard op t x y (.bool a) (.bool b)).run P w=.ok () w:=by intro a b;unfold eqGuard;cases op<;>rfl
 unfold io at h
 split at h
 ·rename_i k x' k' y'
  cases ha;cases hb
  have hg:=gi k k' x' y'
  split at h
  ·obtain⟨h1,h2⟩:=jR (P:=P) (k':=k') h t w
   exact⟨_,by simp only[Sem.run_bind,hg,Result.andThen_ok,h1],eA h2⟩
  ·obtain⟨h1,h2⟩:=jR (P:=P) (k':=k') h t w
   exact⟨_,by simp only[Sem.run_bind,hg,Result.andThen_ok,h1],eA h2⟩
  ·by_cases hk:k=k'
   ·rw[if_pos hk] at h
    subst hk
    obtain⟨h1,h2⟩:=si (P:=P) h t w
    exact⟨_,by simp only[Sem.run_bind,hg,Result.andThen_ok,h1],eA h2⟩
   ·rw[if_neg hk] at h;cases h
 ·rename_i x' y'
  cases ha;cases hb
  have hg:=gs x' y'
  obtain⟨h1,h2⟩:=sh (P:=P) h t w
  exact⟨_,by simp only[Sem.run_bind,hg,Result.andThen_ok,h1],eA h2⟩
 ·rename_i x' y'
  cases ha;cases hb
  have hg:=gb x' y'
  have he:∀q k by0 z,L t=some ⟨q,k,by0,.bool,z⟩→(Op.equal t (.bool x') (.bool y')).run P w=.ok (x'==y') w:=by
   intro q k by0 z ht
   obtain⟨desc,hu,rfl⟩:=(hL _ _ ht).und
   have key:∀n,(Op.equalIn (n+1) t (.bool x') (.bool y')).run P w=.ok (x'==y') w:=fun n=>by
    simp only[Op.equalIn,Sem.run_bind,run_underlying hu,Result.andThen_ok,Sem.run_pure]
   exact key 9999
  split at h<;>try cases h
  ·rename_i ht
   exact⟨.bool (x'==y'),by simp only[Sem.run_bind,hg,Result.andThen_ok,binOp,he _ _ _ _ ht,Sem.run_pure],.bool⟩
  ·rename_i ht
   exact⟨.bool (!(x'==y')),by simp only[Sem.run_bind,hg,Result.andThen_ok,binOp,he _ _ _ _ ht,Sem.run_pure],.bool⟩
 ·cases h
theorem uz (hL:af P L){t:Nat}{d d':DV}{v:Value} (h:gD L t d=some d') (hv:Rep w F μ σ d v) (ts:Array TypeId) (ty:TypeId) (hts:ts[0]?=some t):
  ∃v',(Builtin.len_ ts ty #[v]).run P w=.ok v' w∧Rep w F μ σ d' v':=by
 unfold gD at h
 split at h<;>try cases h
 all_goals
  rename_i ht
  obtain⟨desc,hu,rfl⟩:=(hL _ _ ht).und
  cases hv
  exact⟨_,by simp[Builtin.len_,hts,run_underlying hu,goInt],.int⟩
theorem sd (hL:af P L){s t:Nat}{d d':DV}{v:Value} (h:cF L s t d=some d') (hv:Rep w F μ σ d v):
  ∃v',(convert s t v).run P w=.ok v' w∧Rep w F μ σ d' v':=by
 unfold cF at h
 split at h<;>try cases h
 ·rename_i ti k0 by0 k z hs ht
  obtain⟨ds,hus,_⟩:=(hL _ _ hs).und
  obtain⟨desc,hu,rfl⟩:=(hL _ _ ht).und
  split at h<;>try cases h
  cases hv
  exact⟨_,by simp[convert,run_underlying hu,run_underlying hus,Conv.intToInt],.int⟩
 ·rename_i ti k0 by0 z hs ht
  obtain⟨ds,hus,_⟩:=(hL _ _ hs).und
  obtain⟨desc,hu,rfl⟩:=(hL _ _ ht).und
  split at h<;>try cases h
  cases hv
  exact⟨_,by simp[convert,run_underlying hu,run_underlying hus],.str⟩
theorem ux{ds:List DV}{vs:List Value}{d:DV} (h:og ds=some d) (hr:bF w F μ σ ds vs) (ts:Array TypeId) (ty:TypeId):
  ∃v,(Builtin.min_ ts ty ⟨vs⟩).run P w=.ok v w∧Rep w F μ σ d v:=by
 obtain⟨hl,hr⟩:=hr
 unfold og at h
 split at h<;>try cases h
 ·rcases vs with _|⟨v0,_|⟨v1,_|⟨v2,r⟩⟩⟩<;>simp at hl
  have h0:=hr 0 _ v0 rfl rfl
  have h1:=hr 1 _ v1 rfl rfl
  cases h0;cases h1
  exact⟨_,by simp[Builtin.min_,Builtin.min2,mn],.int⟩
 ·rcases vs with _|⟨v0,_|⟨v1,_|⟨v2,_|⟨v3,r⟩⟩⟩⟩<;>simp at hl
  have h0:=hr 0 _ v0 rfl rfl
  have h1:=hr 1 _ v1 rfl rfl
  have h2:=hr 2 _ v2 rfl rfl
  cases h0;cases h1;cases h2
  exact⟨_,by simp[Builtin.min_,Builtin.min2,mn];rfl,.int⟩
theorem uy{ds:List DV}{vs:List Value}{d:DV} (h:mQ ds=some d) (hr:bF w F μ σ ds vs) (ts:Array TypeId) (ty:TypeId):
  ∃v,(Builtin.max_ ts ty ⟨vs⟩).run P w=.ok v w∧Rep w F μ σ d v:=by
 obtain⟨hl,hr⟩:=hr
 unfold mQ at h
 split at h<;>try cases h
 ·rcases vs with _|⟨v0,_|⟨v1,_|⟨v2,r⟩⟩⟩<;>simp at hl
  have h0:=hr 0 _ v0 rfl rfl
  have h1:=hr 1 _ v1 rfl rfl
  cases h0;cases h1
  exact⟨_,by simp[Builtin.max_,Builtin.max2,mx],.int⟩
 ·rcases vs with _|⟨v0,_|⟨v1,_|⟨v2,_|⟨v3,r⟩⟩⟩⟩<;>simp at hl
  have h0:=hr 0 _ v0 rfl rfl
  have h1:=hr 1 _ v1 rfl rfl
  have h2:=hr 2 _ v2 rfl rfl
  cases h0;cases h1;cases h2
  exact⟨_,by simp[Builtin.max_,Builtin.max2,mx],.int⟩
theorem uC (hL:af P L) (hr:HR w F μ σ){t t':Nat}{d1 d2 d:DV}{v1 v2:Value}{σ':List Ob} (h:aG L σ t t' d1 d2=some (d,σ')) (h1:Rep w F μ σ d1 v1) (h2:Rep w F μ σ d2 v2) (ty:TypeId):
  ∃v w' μ',(Builtin.append_ #[t,t'] ty #[v1,v2]).run P w=.ok v w'∧HR w' F μ' σ'∧Step w F μ σ w' F μ' σ'∧Fr w μ w' μ'∧Rep w' F μ' σ' d v:=by
 unfold aG at h
 split at h<;>try cases h
 rename_i k0 by0 e z q1 k1 by1 e1 z1 ht ht'
 split at h<;>try cases h
 rename_i te hte
 split at h<;>try cases h
 rename_i ys hys
 split at h<;>try cases h
 rename_i hcond
 obtain⟨hb0,hone⟩:=hcond
 have hone':∀y∈ys,∀c∈y.cells,c.one=true:=fun y hy c hc=>AS.1 (AS.1 hone y hy) c hc
 split at h<;>try cases h
 ·rename_i id g off len
  split at h<;>try cases h
  rename_i e0 k xs ho
  split at h<;>try cases h
  rename_i hc
  obtain⟨rfl,rfl,rfl,rfl,rfl,hb⟩:=hc
  cases h1 with
  |sl hs=>
   obtain⟨A',cap',w',μ',r1,r2,r3,r4,r5⟩:=mt hL hr ht rfl hte ht' rfl hb0 ho hs hys h2 hone' hb ty
   refine⟨_,w',μ',r1,r2,r3,r4,?_⟩
   rw[AP] at r5
   exact .sl r5
 ·split at h<;>try cases h
  rename_i hb
  cases h1
  obtain⟨q1,q2⟩:=hr.pushNil e te.k
  have hs:dX w μ (σ++[.arr e te.k []]) σ.length 0 0 0 none 0:=⟨e,te.k,[],by simp,by omega,by simp,by omega,by simp[maxLen],fun _=>.inl ⟨rfl,rfl,rfl,hr.out _ (AU _)⟩⟩
  have hsrc:bV (σ++[.arr e te.k []]) te.k d2=some ys:=by
   unfold bV at hys⊢
   cases d2<;>first|exact hys|skip
   rename_i id g off len
   dsimp only at hys⊢
   cases ho:σ[id]? with
   |none=>rw[ho] at hys;cases hys
   |some o=>
    rw[ho] at hys
    rw[aD,if_neg (by have:=(AH.1 ho).1;omega),ho]
    exact hys
  obtain⟨A',cap',w',μ',r1,r2,r3,r4,r5⟩:=mt hL q1 ht rfl hte ht' rfl hb0 (id:=σ.length) (xs:=[]) (by simp) (by simpa using hs) hsrc (h2.step q2) hone' (by simpa using hb) ty
  simp only[Bj,Bc,Be] at r1 r2 r3 r4 r5
  have hset:(σ++[Ob.arr e te.k []]).set σ.length (.arr e te.k ys)=σ++[.arr e te.k ys]:=by
   rw[List.set_append]
   simp
  rw[hset] at r2 r3 r5
  exact⟨_,w',μ',r1,r2,q2.trans r3,r4,.sl r5⟩
end
def bi (L:Lay) (ob:List Ob) (b:Builtin) (ts:List Nat) (ds:List DV):Option (DV×List Ob):=
 match b with
 |.len=>match ts,ds with
  | [t],[d]=>(gD L t d).map fun x=>(x,ob)
  |_,_=>none
 |.min=>(og ds).map fun x=>(x,ob)
 |.max=>(mQ ds).map fun x=>(x,ob)
 |.append=>match ts,ds with
  | [t,t'],[d1,d2]=>aG L ob t t' d1 d2
  |_,_=>none
 |_=>none
end
end Go.VL
