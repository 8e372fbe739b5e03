/- Proved: TreeOwn: whatever tree, root and item come in (together of bulk at most 1048576), the call returns true and they read as they did; no other condition. This text is part 4 of 18. -/
import Derived.Test.YtghomgiklhbjiaaW03
import Derived.Scope
import Derived.RangeFuncRecord
import Derived.Recover
set_option linter.unusedSimpArgs false
set_option linter.unusedVariables false
open List renaming all_cons → Cv,all_eq_true → AS,append_nil → AK,cons_append → Bq,contains_iff_mem → BB,drop_drop → Dp,eq_nil_iff_forall_not_mem → Dv,ext_getElem? → BV,filter_cons → Dw,getD_eq_getElem?_getD → AZ,getElem?_cons_zero → AY,getElem?_drop → Bk,getElem?_eq_getElem → AI,getElem?_eq_none → BA,getElem?_eq_some_iff → AH,getElem?_map → AQ,getElem?_of_mem → Cc,getElem?_take → CY,head? → Di,head?_drop → Cz,length → Cr,length_eq_zero_iff → B1,map_congr_left → Db,map_inj_right → DM,mem_cons → Bh,mem_filter → CA,mem_map → Ba,mem_of_getElem? → AM,mem_of_mem_drop → By,mem_of_mem_take → Bz,mem_range → Cw,mem_singleton → BX,range → Bs,range' → Dz,range'_succ → DP,range_eq_range' → DA,rec → Cb,tail → DR,tail_drop → C4
open Nat renaming add → CV,add_assoc → C0,add_mul → Bx,add_zero → Bt,beq → A4,ble → BR,eq_of_beq_eq_true → Ct,eq_or_lt_of_le → Cu,le_refl → AU,le_succ → DN,le_trans → Bl,lt_of_lt_of_le → DJ,lt_or_ge → Bp,lt_trans → DS,lt_trichotomy → Dl,not_lt → Du,strongRecOn → Dh,sub_self → B7,sub_zero → B6,succ → B0,zero_add → Bc,zero_le → BD,zero_mul → CT
open Option renaming bind_some → C6,getD_some → A8,map_some → AW,some → AX
open Array renaming empty_append → B3,ext' → BJ,getD_eq_getD_getElem? → A0,getElem?_append_left → BO,getElem?_eq_getElem → BG,getElem?_eq_none → DU,getElem?_eq_some_iff → Bm,getElem?_replicate → De,getElem?_setIfInBounds → Bu,getElem?_toList → Cf,replicate → BI
open Bool renaming and_eq_true → BF,and_false → Dq,and_true → Dc,false_eq_true → Bb,false_or → Dx,not_eq_true' → Cy,or_eq_true → Cs,true_and → Dd
namespace Go.VL
open Go
structure FE where
 l:List (Nat×DV)
 p:List (Nat×DV)
 m:Mm
 dd:List DD
inductive RR where
 |ok (e:XE) (s:FE)
 |no (p:String)
inductive CR where
 |ok (o:Out) (m:Mm)
 |no (p:String)
structure FX where
 mask:Nat
 n:Nat
 body:Code
 res:List ResultVar
 dis:List (Nat×List DI)
 rnd:Bool
 fid:Nat
inductive FT where
 |code (x:FX)
 |nat (g:List DV→Mm→Option (Out×Mm))
 |none
noncomputable section
def isP (mask t:Nat):Bool:=A4 (Nat.mod (Nat.shiftRight mask t) 2) 1
def rd (mask:Nat) (s:FE) (t:Nat):DV:=bx (isP mask t) (lkb s.p t) (lkb s.l t)
def wr (mask:Nat) (s:FE) (o:Option Nat) (d:DV):FE:=match o with
 |none=>s
 |some t=>bx (isP mask t) ⟨s.l,upb s.p t d,s.m,s.dd⟩ ⟨(t,d)::s.l,s.p,s.m,s.dd⟩
def evl (e:Nat→DV):Operand→DV
 |.tmp t=>e t
 |.const v=>eX v
 |.global _=>.undef
 |.func f=>.fn f []
def xgd (ops:List Oper) (e:Nat→DV) (o:Oper):Option Bool:=match o.guard with
 |none=>some true
 |some (j,want)=>match nth ops j with
  |some q=>match q.dst with
   |some t=>match e t with
    |.bool b=>some (bx b want (kB want))
    |.skip=>some false
    |_=>none
   |none=>none
  |none=>none
structure CE (E:Type) where
 f:E→DV
structure CB where
 f:DV→DV→Option DV
structure CI where
 f:IntKind→Int→Int→Option DV
structure CU where
 f:DV→Option DV
structure CM where
 f:Mm→DV→Option DV
structure CS where
 f:Mm→DV→DV→Option Mm
structure CX where
 f:Mm→DV→DV→Option DV
structure CO (E:Type) where
 f:E→Mm→Option (DV×Mm)
structure CW where
 f:FE→DV→FE
def cev (mask:Nat):Operand→CE FE
 |.tmp t=>bx (isP mask t) ⟨fun s=>lkb s.p t⟩ ⟨fun s=>lkb s.l t⟩
 |.const v=>⟨fun _=>eX v⟩
 |.global _=>⟨fun _=>.undef⟩
 |.func f=>⟨fun _=>.fn f []⟩
def cel:Operand→CE (List (Nat×DV))
 |.tmp t=>⟨fun r=>lkb r t⟩
 |.const v=>⟨fun _=>eX v⟩
 |.global _=>⟨fun _=>.undef⟩
 |.func f=>⟨fun _=>.fn f []⟩
def cwr (mask:Nat):Option Nat→CW
 |none=>⟨fun s _=>s⟩
 |some t=>bx (isP mask t) ⟨fun s d=>⟨s.l,upb s.p t d,s.m,s.dd⟩⟩ ⟨fun s d=>⟨(t,d)::s.l,s.p,s.m,s.dd⟩⟩
def Az:BinOp→CI
 |.add=>⟨fun k a b=>some (.int k (fE k (Int.add a b)))⟩
 |.sub=>⟨fun k a b=>some (.int k (fE k (Int.sub a b)))⟩
 |.mul=>⟨fun k a b=>some (.int k (fE k (Int.mul a b)))⟩
 |.and=>⟨fun k a b=>some (.int k (pJ .and k a b))⟩
 |.or=>⟨fun k a b=>some (.int k (pJ .or k a b))⟩
 |.xor=>⟨fun k a b=>some (.int k (pJ .xor k a b))⟩
 |.eql=>⟨fun k a b=>some (.bool (eqx a b))⟩
 |.neq=>⟨fun k a b=>some (.bool (kB (eqx a b)))⟩
 |.lss=>⟨fun k a b=>some (.bool (ltx a b))⟩
 |.leq=>⟨fun k a b=>some (.bool (kB (ltx b a)))⟩
 |.gtr=>⟨fun k a b=>some (.bool (ltx b a))⟩
 |.geq=>⟨fun k a b=>some (.bool (kB (ltx a b)))⟩
 |op=>⟨fun k a b=>ci op k a b⟩
def cbin (L:Lay) (op:BinOp) (t:Nat):CB:=match op with
 |.shl=>⟨fun a b=>nH L .shl t a b⟩
 |.shr=>⟨fun a b=>nH L .shr t a b⟩
 |op=>⟨fun a b=>match a,b with
  |.int k x,.int k' y=>bx (A4 (kJ k) (kJ k')) ((Az op).f k x y) none
  |a,b=>nH L op t a b⟩
def xk (L:Lay) (t:Nat):CM:=match L t with
 |some ti=>match ti.d.isAgg with
  |true=>⟨fun m d=>match kQ m d with
   |some cs=>bx (BR ti.k (len cs)) (some (.agg (gy ti.k cs))) none
   |none=>none⟩
  |false=>⟨fun m d=>match kQ m d with
   |some cs=>nth cs 0
   |none=>none⟩
 |none=>⟨fun _ _=>none⟩
def cfa (L:Lay) (t f:Nat):CU:=match L t with
 |some {d:=.struct fs,..}=>match nth fs f with
  |some (off,ft)=>match L ft with
   |some ti=>bx (A4 ti.k 0) ⟨fun _=>none⟩ ⟨fun d=>match d with
    |.ptr id g j o=>some (.ptr id g j (CV o off))
    |.vptr c cs=>some (.vptr c (cs.drop off))
    |_=>none⟩
   |none=>⟨fun _=>none⟩
  |none=>⟨fun _=>none⟩
 |_=>⟨fun _=>none⟩
def cia (L:Lay) (t:Nat):CX:=match L t with
 |some {d:=.slice e,..}=>match L e with
  |some te=>⟨fun m d i=>match i with
   |.int _ (.ofNat q)=>match d with
    |.sl id g off l=>match m.t.get id with
     |some (.arr _ k ln _ _)=>bx (A4 te.k k) (bx (A4 g ln) (bx (BR (B0 q) l) (some (.ptr id g (CV off q) 0)) none) none) none
     |_=>none
    |d=>iaX L m t d i
   |_=>none⟩
  |none=>⟨fun m d i=>iaX L m t d i⟩
 |_=>⟨fun m d i=>iaX L m t d i⟩
def xn (L:Lay) (s t:Nat):CU:=match L t with
 |some {d:=.int k,..}=>match L s with
  |some _=>⟨fun d=>match d with
   |.int _ n=>some (.int k (fE k n))
   |_=>none⟩
  |none=>⟨fun _=>none⟩
 |_=>⟨fun _=>none⟩
def Ax (L:Lay) (t:Nat):CU:=match L t with
 |some {d:=.slice _,..}=>⟨fun d=>match d with
  |.sl _ _ _ l=>some (.int .i64 (.ofNat l))
  |.nils=>some (.int .i64 (.ofNat 0))
  |.emp=>some (.int .i64 (.ofNat 0))
  |_=>none⟩
 |_=>⟨fun _=>none⟩
def Aw{E:Type} (L:Lay) (ce:Operand→CE E):Op→CO E
 |.move x=>⟨fun s m=>some ((ce x).f s,m)⟩
 |.assign x=>⟨fun s m=>some ((ce x).f s,m)⟩
 |.binOp op t x y _=>⟨fun s m=>match(cbin L op t).f ((ce x).f s) ((ce y).f s) with
  |some d=>some (d,m)
  |none=>none⟩
 |.load t x=>⟨fun s m=>match(xk L t).f m ((ce x).f s) with
  |some d=>some (d,m)
  |none=>none⟩
 |.fieldAddr t x f=>⟨fun s m=>match(cfa L t f).f ((ce x).f s) with
  |some d=>some (d,m)
  |none=>none⟩
 |.indexAddr t x i=>⟨fun s m=>match(cia L t).f m ((ce x).f s) ((ce i).f s) with
  |some d=>some (d,m)
  |none=>none⟩
 |.convert a t x=>⟨fun s m=>match(xn L a t).f ((ce x).f s) with
  |some d=>some (d,m)
  |none=>none⟩
 |.extract x i=>⟨fun s m=>match(ce x).f s with
  |.tup xs=>match nth xs i with
   |some d=>some (d,m)
   |none=>none
  |_=>none⟩
 |.nilCheck x=>⟨fun s m=>match(ce x).f s with
  |.ptr id g j o=>some (.ptr id g j o,m)
  |_=>none⟩
 |.store t p x=>⟨fun s m=>match oO L m t ((ce p).f s) ((ce x).f s) with
  |some m'=>some (.undef,m')
  |none=>none⟩
 |.call {callee:=.builtin .len,args,argTypes}=>match args.toList,argTypes.toList with
  | [x],[t]=>⟨fun s m=>match(Ax L t).f ((ce x).f s) with
   |some d=>some (d,m)
   |none=>none⟩
  |_,_=>⟨fun _ _=>none⟩
 |_=>⟨fun _ _=>none⟩
def cop{E:Type} (L:Lay) (ce:Operand→CE E) (op:Op):CO E:=⟨fun s m=>match(Aw L ce op).f s m with
 |some r=>some r
 |none=>xop L (fun x=>(ce x).f s) m op⟩
structure CR1 where
 f:(DV→List DV→Mm→CR)→FE→RR
def px (L:Lay) (rnd:Bool) (mask:Nat) (o:Oper) (ih:CR1):CR1:=match o.op with
 |.call {callee:=.value g,args:=xs,..}=>⟨fun call s=>match call ((cev mask g).f s) (co (fun x=>(cev mask x).f s) xs.toList) s.m with
  |.ok (.ret d) m'=>ih.f call ((cwr mask o.dst).f ⟨s.l,s.p,m',s.dd⟩ d)
  |.ok (.pan d) m'=>.ok (.panic d) ⟨s.l,s.p,m',s.dd⟩
  |.no p=>.no p⟩
 |.defer {callee:=.value g,args:=xs,..}=>⟨fun call s=>match xs.toList with
  | []=>match(cev mask g).f s with
   |.fn f caps=>bx rnd (.no o.pos) (ih.f call ((cwr mask o.dst).f ⟨s.l,s.p,s.m,.fn f caps::s.dd⟩ .undef))
   |_=>.no o.pos
  |_=>.no o.pos⟩
 |.panic x=>⟨fun _ s=>match(cev mask x).f s with
  |.iface t d=>.ok (.panic (.iface t d)) s
  |_=>.no o.pos⟩
 |op=>⟨fun call s=>match(cop L (cev mask) op).f s s.m with
  |some (d,m')=>ih.f call ((cwr mask o.dst).f ⟨s.l,s.p,m',s.dd⟩ d)
  |none=>.no o.pos⟩
def xc (L:Lay) (rnd:Bool) (mask:Nat) (ops:List Oper) (o:Oper) (ih:CR1):CR1:=match o.guard with
 |none=>px L rnd mask o ih
 |some _=>⟨fun call s=>match xgd ops (rd mask s) o with
  |some true=>(px L rnd mask o ih).f call s
  |some false=>ih.f call (wr mask s o.dst .skip)
  |none=>.no o.pos⟩
def yW (L:Lay) (rnd:Bool) (mask:Nat) (ops l:List Oper):CR1:=
 @Cb Oper (fun _=>CR1) ⟨fun _ s=>.ok .normal ⟨[],s.p,s.m,s.dd⟩⟩ (fun o _ ih=>xc L rnd mask ops o ih) l
def gK (f:DV→DV→Bool) (a:List DV):List DV→Bool:= @Cb DV (fun _=>List DV→Bool) (fun b=>match b with
 | []=>true
 |_=>false) (fun x _ ih b=>match b with
 | []=>false
 |y::r=>bx (f x y) (ih r) false) a
def Au (f:DV→DV→Bool) (a b:DV):Bool:=match a,b with
 |.int k x,.int k' y=>bx (A4 (kJ k) (kJ k')) (eqx x y) false
 |.bool x,.bool y=>bx x y (kB y)
 |.str x,.str y=>eqs (co UInt8.toNat x.data.toList) (co UInt8.toNat y.data.toList)
 |.ptr id g j o,.ptr id' g' j' o'=>bx (A4 id id') (bx (A4 g g') (bx (A4 j j') (A4 o o') false) false) false
 |.sl id g j o,.sl id' g' j' o'=>bx (A4 id id') (bx (A4 g g') (bx (A4 j j') (A4 o o') false) false) false
 |.nils,.nils=>true
 |.emp,.emp=>true
 |.nilp,.nilp=>true
 |.nili,.nili=>true
 |.nilf,.nilf=>true
 |.mp id,.mp id'=>A4 id id'
 |.agg xs,.agg ys=>gK f xs ys
 |.tup xs,.tup ys=>gK f xs ys
 |.fn g xs,.fn g' ys=>bx (A4 g g') (gK f xs ys) false
 |.iface t x,.iface t' y=>bx (A4 t t') (f x y) false
 |.vec c k xs,.vec c' k' ys=>bx (A4 c c') (bx (A4 k k') (gK f xs ys) false) false
 |.vptr c xs,.vptr c' ys=>bx (A4 c c') (gK f xs ys) false
 |_,_=>false
def eqd (n:Nat):DV→DV→Bool:= @Nat.rec (fun _=>DV→DV→Bool) (fun _ _=>false) (fun _ f=>Au f) n
def gm (l:List (Option Nat)) (t:Nat):Bool:=l.all fun o=>o !=some t
def mG (l:List (Option Nat)) (env:List (Nat×DV)):List (Nat×DV):=env.filter fun p=>gm l p.1
structure DLog where
 r:List (Nat×DV)
 op:Op
 d:DV
 ph:List Nat
 pos:String
structure DRun where
 r:RR
 φ:List Mm
 log:List DLog
def DRun.at (m:Mm) (k:DRun):DRun:=⟨k.r,m::k.φ,k.log⟩
def dZ (L:Lay) (mask:Nat) (ops:List Oper) (call:DV→List DV→Mm→CR) (l:List Oper):List DI→FE→DRun:=
 @Cb Oper (fun _=>List DI→FE→DRun) (fun _ s=>⟨.ok .normal ⟨[],s.p,s.m,s.dd⟩,[s.m],[]⟩) (fun o rest ih I s=>match I with
  | []=>⟨.no o.pos,[s.m],[]⟩
  |D::I'=>match xgd ops (lkb (co (fun t=>(t,rd mask s t)) D.rd)) o with
   |some false=>bx D.eff ((ih I' (wr mask s o.dst .skip)).at s.m) (ih I' (wr mask s o.dst .skip))
   |some true=>bx D.eff
    (match o.op with
    |.call {callee:=.value g,args:=xs,..}=>match call ((cel g).f (co (fun t=>(t,rd mask s t)) D.rd)) (co (fun x=>(cel x).f (co (fun t=>(t,rd mask s t)) D.rd)) xs.toList) s.m with
     |.ok (.ret d) m'=>(ih I' (wr mask ⟨s.l,s.p,m',s.dd⟩ o.dst d)).at s.m
     |.ok (.pan d) m'=>match rest with
      | []=>⟨.ok (.panic d) ⟨[],mG (ops.map (·.dst)) s.p,m',s.dd⟩,[s.m,m'],[]⟩
      |_=>⟨.no o.pos,[s.m],[]⟩
     |.no p=>⟨.no p,[s.m],[]⟩
    |op=>match(cop L cel op).f (co (fun t=>(t,rd mask s t)) D.rd) s.m with
     |some (d,m')=>(ih I' (wr mask ⟨s.l,s.p,m',s.dd⟩ o.dst d)).at s.m
     |none=>⟨.no o.pos,[s.m],[]⟩)
    (match dY L (evl (lkb (co (fun t=>(t,rd mask s t)) D.rd))) o.op with
    |some d=>ih I' (wr mask s o.dst d)
    |none=>match jF L (evl (lkb (co (fun t=>(t,rd mask s t)) D.rd))) s.m o.op with
     |some d=>match ih I' (wr mask s o.dst d) with
      |⟨r,φ,log⟩=>⟨r,φ,⟨co (fun t=>(t,rd mask s t)) D.rd,o.op,d,D.ph,o.pos⟩::log⟩
     |none=>⟨.no o.pos,[s.m],[]⟩)
   |none=>⟨.no o.pos,[s.m],[]⟩) l
def pU (L:Lay) (φ:List Mm) (g:DLog):Bool:=fC (fun q=>match nth φ q with
 |some m=>match jF L (evl (lkb g.r)) m g.op with
  |some d=>eqd 4 g.d d
  |none=>false
 |none=>false) g.ph
def zo (L:Lay) (φ:List Mm) (r:RR) (log:List DLog):RR:= @Cb DLog (fun _=>RR) r (fun g _ ih=>bx (pU L φ g) ih (.no g.pos)) log
def t7 (l:List (Nat×List DI)) (id:Nat):Option (List DI):= @Cb (Nat×List DI) (fun _=>Option (List DI)) none (fun p _ ih=>bx (A4 p.1 id) (some p.2) ih) l
def oJ (L:Lay) (mask:Nat) (call:DV→List DV→Mm→CR) (ops:List Oper) (I:List DI) (s:FE):RR:=match dZ L mask ops call ops I s with
 |⟨.ok e s',φ,log⟩=>zo L φ (.ok e s') log
 |⟨.no p,_,_⟩=>.no p
def fw (ds:List DV):List (Nat×DV):= @Cb DV (fun _=>Nat→List (Nat×DV)) (fun _=> []) (fun d _ ih n=>(n,d)::ih (B0 n)) ds 0
def pR (L:Lay) (mask:Nat) (s:FE):ResultVar→Option DV
 |.tmp t=>some (rd mask s t)
 |.cell a t=>oi L s.m t (rd mask s a)
def vz (L:Lay) (mask:Nat) (s:FE) (rs:List ResultVar):Option (List DV):= @Cb ResultVar (fun _=>Option (List DV)) (some []) (fun r _ ih=>match pR L mask s r with
 |some d=>match ih with
  |some ds=>some (d::ds)
  |none=>none
 |none=>none) rs
def xres (L:Lay) (mask:Nat) (s:FE) (rs:List ResultVar):Option DV:=match vz L mask s rs with
 |some [d]=>some d
 |some ds=>some (.tup ds)
 |none=>none
def oI (L:Lay) (mask:Nat) (res:List ResultVar) (s:FE):CR:=match xres L mask s res with
 |some d=>.ok (.ret d) s.m
 |none=>.no "results"
inductive Md where
 |ret
 |pan (d:DV)
 |rcv (d:DV)
inductive QR where
 |ok (stop:Bool) (md:Md) (s:FE)
 |no (p:String)
def tI:Md→DV×Md
 |.pan d=>(d,.rcv d)
 |md=>(.nili,md)
def rL (L:Lay) (mask:Nat) (ops:List Oper) (call:DV→List DV→Mm→CR) (o:Oper) (ih:Md→FE→QR) (md:Md) (s:FE):QR:=match xgd ops (rd mask s) o with
 |some true=>match o.op with
  |.call {callee:=.builtin .recover,..}=>ih (tI md).2 (wr mask s o.dst (tI md).1)
  |.call {callee:=.value g,args:=xs,..}=>match evl (rd mask s) g with
   |.fn f caps=>match call (.fn f caps) (co (evl (rd mask s)) xs.toList) s.m with
    |.ok (.ret d) m'=>ih md (wr mask ⟨s.l,s.p,m',s.dd⟩ o.dst d)
    |_=>.no o.pos
   |_=>.no o.pos
  |op=>match xop L (evl (rd mask s)) s.m op with
   |some (d,m')=>ih md (wr mask ⟨s.l,s.p,m',s.dd⟩ o.dst d)
   |none=>.no o.pos
 |some false=>ih md (wr mask s o.dst .skip)
 |none=>.no o.pos
def tj (L:Lay) (mask:Nat) (ops:List Oper) (call:DV→List DV→Mm→CR) (l:List Oper):Md→FE→QR:=
 @Cb Oper (fun _=>Md→FE→QR) (fun md s=>.ok false md ⟨[],s.p,s.m,s.dd⟩) (fun o _ ih=>rL L mask ops call o ih) l
def rN (L:Lay) (x:FX) (call:DV→List DV→Mm→CR) (fuel:Nat):Code→Md→FE→QR:=
 @Nat.rec (fun _=>Code→Md→FE→QR) (fun _ _ _=>.no "fuel") (fun _ run c md s=>match c with
  |.skip=>.ok false md s
  |.ret=>.ok true md s
  |.seq a b=>match run a md s with
   |.ok false md' s'=>run b md' s'
   |r=>r
  |.cond q a b=>match evl (rd x.mask s) q with
   |.bool true=>run a md s
   |.bool false=>run b md s
   |_=>.no "cond"
  |.region id ops false=>tj L x.mask ops.toList call ops.toList md s
  |_=>.no "rec") fuel
def Md.settle:Md→Md
 |.ret=>.ret
 |.pan d=>.pan d
 |.rcv _=>.ret
def zg (dst:Nat→Option Nat) (I:List DI) (a j i:Nat):Bool:=
 !(fj (dst j) (I.getD i .none).rd||fj (dst i) (I.getD j .none).rd||ec (dst j) (dst i)||(((I.getD i .none).eff&&(I.getD j .none).eff)&&!(A4 i a)))||(I.getD i .none).pre.contains j
def zL (I:List DI) (a i:Nat):Bool:=BR i a||!((I.getD i .none).pre.contains a)||(Bs a).all fun j=>!((I.getD j .none).eff)||(I.getD i .none).pre.contains j
def t6 (I:List DI) (m a:Nat):Bool:=
 (Bs I.length).all fun i=>sr (fun i=>(I.getD i .none).dir) I i&&phB I I.length i&&yT (fun i=>(I.getD i .none).dst) m i&&zL I a i&&(Bs i).all fun j=>zg (fun i=>(I.getD i .none).dst) I a j i
def iH (o:Oper):Bool:=match o.op,o.guard with
 |.alloc _,none=>true
 |_,_=>false
def nF (ops:List Oper) (I:List DI):Nat:=match(Bs I.length).find? (fun i=>(match ops[i]? with
  |some o=>iH o
  |none=>false)&&(I.getD i .none).eff&&(I.getD i .none).pre.isEmpty&&(Bs I.length).all fun k=>zL I i k) with
 |some i=>i
 |none=>I.length
def bh (x:FX):Code→Bool
 |.region id ops false=>cm x.n ops.toList
 |.region id ops true=>match t7 x.dis id with
  |some I=>(ops.toList.map fun o=>(o.dst,fc o))==(I.map fun D:DI=>(D.dst,D.dir))&&t6 I x.n (nF ops.toList I)
  |none=>true
 |.seq a b=>bh x a&&bh x b
 |.cond _ a b=>bh x a&&bh x b
 |.block _ b=>bh x b
 |.loop b=>bh x b
 |.scope b=>bh x b
 |.rangeFunc _ ps a b=>bh x a&&bh x b
 |_=>true
def l6 (L:Lay) (T:Nat→FT) (call:DV→List DV→Mm→CR) (f:Nat) (caps:List DV) (md:Md) (m:Mm):Option (Md×Mm):=match T f with
 |.code y=>bx (BR (len caps) y.n) (match rN L y call 100 y.body md ⟨[],fw caps,m,[]⟩ with
  |.ok _ md' s'=>match oI L y.mask y.res s' with
   |.ok _ m'=>some (md'.settle,m')
   |.no _=>none
  |.no p=>none) none
 |_=>none
def iy (L:Lay) (x:FX) (s:FE) (dd:List DD):Md→Mm→CR:=
 @Cb DD (fun _=>Md→Mm→CR) (fun md m=>match md with
  |.ret=>oI L x.mask x.res ⟨s.l,s.p,m,[]⟩
  |.pan d=>.ok (.pan d) m
  |.rcv _=>.no "leave") (fun q _ ih md m=>match q with
  |.col D=>match m.t.get D with
   |some (.oth (.oth .defd []))=>ih md ⟨m.t.put D (.oth (.oth .defd [.bool true])),m.n⟩
   |_=>.no "mark"
  |.fn _ _=>.no "mark") dd
def ix (L:Lay) (T:Nat→FT) (call:DV→List DV→Mm→CR) (x:FX) (s:FE) (dd:List DD):Md→Mm→CR:=
 @Cb DD (fun _=>Md→Mm→CR) (fun md m=>match md with
  |.ret=>oI L x.mask x.res ⟨s.l,s.p,m,[]⟩
  |.pan d=>.ok (.pan d) m
  |.rcv _=>.no "leave") (fun q _ ih md m=>match q with
  |.col _=>.no "mark"
  |.fn f caps=>match l6 L T call f caps md m with
   |some (md',m')=>ih md' m'
   |none=>.no "defer") dd
def oH (L:Lay) (T:Nat→FT) (call:DV→List DV→Mm→CR) (x:FX) (s:FE) (dd:List DD) (md:Md) (m:Mm):CR:=match dd with
 |.col D::r=>iy L x s (.col D::r) md m
 |dd=>ix L T call x s dd md m
def rX (n:Nat) (ps:List Nat):List DV→List (Nat×DV)→Option (List (Nat×DV)):=
 @Cb Nat (fun _=>List DV→List (Nat×DV)→Option (List (Nat×DV))) (fun args p=>match args with
  | []=>some p
  |_=>none) (fun t _ ih args p=>match args with
  |d::r=>bx (BR (B0 t) n) (ih r (upb p t d)) none
  | []=>none) ps
def mV:XE→Option (Option Code)
 |.normal=>some none
 |.ret=>some (some .ret)
 |.exit i=>some (some (.exit i))
 |.panic _=>none
def FX.round (x:FX):FX:=⟨x.mask,x.n,x.body,x.res,x.dis,true,x.fid⟩
def endRound (id:Nat) (e:XE) (m:Mm):CR:=match m.t.get id with
 |some (.oth (.oth (.loop _ _ fn ps asg bo did) ds))=>match mV e with
  |some none=>.ok (.ret (.bool true)) ⟨m.t.put id (.oth (.oth (.loop .ready none fn ps asg bo did) ds)),m.n⟩
  |some (some c)=>.ok (.ret (.bool false)) ⟨m.t.put id (.oth (.oth (.loop .done (some c) fn ps asg bo did) ds)),m.n⟩
  |none=>.no "round"
 |_=>.no "round"
def rM (T:Nat→FT) (run:FX→Code→FE→RR) (id:Nat) (args:List DV) (m:Mm):CR:=match m.t.get id with
 |some (.oth (.oth (.loop _ _ fn ps asg bo _) ds))=>match T fn with
  |.code x=>bx (bh x asg) (bx (bh x bo) (match rX x.n ps args (fw ds) with
   |some p=>bx (A4 (len ds) x.n) (match run x.round asg ⟨[],p,m,[]⟩ with
    |.ok .normal s1=>match s1.m.t.get id with
     |some (.oth (.oth (.loop .ready q1 f1 p1 a1 b1 d1) e1))=>match run x.round bo ⟨s1.l,s1.p,⟨s1.m.t.put id (.oth (.oth (.loop .busy q1 f1 p1 a1 b1 d1) e1)),s1.m.n⟩,s1.dd⟩ with
      |.ok e s2=>endRound id e s2.m
      |.no p=>.no p
     |_=>.no "round"
    |.ok _ _=>.no "round"
    |.no p=>.no p) (.no "round")
   |none=>.no "round") (.no "round")) (.no "round")
  |_=>.no "round"
 |_=>.no "round"
def vE (L:Lay) (T:Nat→FT) (run:FX→Code→FE→RR) (call:DV→List DV→Mm→CR) (f:Nat) (args:List DV) (m:Mm):CR:=match T f with
 |.code x=>bx (BR (len args) x.n) (match run x x.body ⟨[],fw args,m,[]⟩ with
  |.ok .normal s=>oH L T call x s s.dd .ret s.m
  |.ok .ret s=>oH L T call x s s.dd .ret s.m
  |.ok (.panic d) s=>oH L T call x s s.dd (.pan d) s.m
  |.ok (.exit _) _=>.no "exit"
  |.no p=>.no p) (.no "arguments")
 |.nat g=>match g args m with
  |some (o,m')=>.ok o m'
  |none=>.no "native"
 |.none=>.no "function"
def xA (L:Lay) (T:Nat→FT) (run:FX→Code→FE→RR) (call:DV→List DV→Mm→CR) (g:DV) (args:List DV) (m:Mm):CR:=match g with
 |.fn f caps=>vE L T run call f (rH args caps) m
 |.yld id=>rM T run id args m
 |_=>.no "callee"
def im (L:Lay) (T:Nat→FT) (run:FX→Code→FE→RR):DV→List DV→Mm→CR:=xA L T run (xA L T run fun _ _ _=>.no "nested")
def dS (mask n:Nat) (s:FE):List DV:= @Nat.rec (fun _=>Nat→List DV) (fun _=> []) (fun _ ih t=>rd mask s t::ih (B0 t)) n 0
def oG (call:DV→List DV→Mm→CR) (x:FX) (g:DV) (ps:List Nat) (asg bo:Code) (s:FE):RR:=match g with
 |.fn f caps=>bx x.rnd (.no "rangeFunc") (match call (.fn f caps) [.yld (B0 s.m.n)] (dj (dj s.m (.oth (.oth .defd []))) (.oth (.oth (.loop .ready none x.fid ps asg bo s.m.n) (dS x.mask x.n s)))) with
  |.ok (.ret _) m=>match m.t.get (B0 s.m.n) with
   |some (.oth (.oth (.loop st q f1 p1 a1 b1 d1) e1))=>match st with
    |.busy=>.no "rangeFunc"
    |_=>match q with
     |none=>.ok .normal ⟨[],s.p,⟨m.t.put (B0 s.m.n) (.oth (.oth (.loop .exhausted q f1 p1 a1 b1 d1) e1)),m.n⟩,.col s.m.n::s.dd⟩
     |some .ret=>.ok .ret ⟨[],s.p,⟨m.t.put (B0 s.m.n) (.oth (.oth (.loop .exhausted q f1 p1 a1 b1 d1) e1)),m.n⟩,.col s.m.n::s.dd⟩
     |some (.exit i)=>.ok (.exit i) ⟨[],s.p,⟨m.t.put (B0 s.m.n) (.oth (.oth (.loop .exhausted q f1 p1 a1 b1 d1) e1)),m.n⟩,.col s.m.n::s.dd⟩
     |_=>.no "rangeFunc"
   |_=>.no "rangeFunc"
  |.ok (.pan d) m=>.ok (.panic d) ⟨[],s.p,m,.col s.m.n::s.dd⟩
  |.no p=>.no p)
 |_=>.no "rangeFunc"
structure CC where
 f:(FX→Code→FE→RR)→FE→RR
def fS (L:Lay) (T:Nat→FT) (x:FX) (c:Code):CC:=
 @Code.rec (fun _=>CC)
  ⟨fun _ s=>.ok .normal s⟩
  (fun id ops dr=>match dr with
   |false=>⟨fun run s=>(yW L x.rnd x.mask ops.toList ops.toList).f (im L T run) s⟩
   |true=>match t7 x.dis id with
    |some I=>⟨fun run s=>oJ L x.mask (im L T run) ops.toList I s⟩
    |none=>⟨fun _ _=>.no "region"⟩)
  (fun _ _ ia ib=>⟨fun run s=>match ia.f run s with
   |.ok .normal s'=>ib.f run s'
   |r=>r⟩)
  (fun q _ _ ia ib=>⟨fun run s=>match(cev x.mask q).f s with
   |.bool b=>bx b (ia.f run s) (ib.f run s)
   |_=>.no "cond"⟩)
  (fun id _ ib=>⟨fun run s=>match ib.f run s with
   |.ok (.exit i) s'=>bx (A4 i id) (.ok .normal s') (.ok (.exit i) s')
   |r=>r⟩)
  (fun b ib=>⟨fun run s=>match ib.f run s with
   |.ok .normal s'=>run x (.loop b) s'
   |r=>r⟩)
  (fun g ps asg bo _ _=>⟨fun run s=>oG (im L T run) x ((cev x.mask g).f s) ps.toList asg bo s⟩)
  (fun i=>⟨fun _ s=>.ok (.exit i) s⟩)
  (fun _ ib=>⟨fun run s=>bx x.rnd (.no "scope") (ib.f run s)⟩)
  (fun _=>⟨fun _ s=>.ok .normal s⟩)
  (fun _=>⟨fun _ _=>.no "goto"⟩)
  ⟨fun _ s=>.ok .ret s⟩
  (fun _=>⟨fun _ _=>.no "refuse"⟩) c
def cL (L:Lay) (T:Nat→FT) (fuel:Nat):FX→Code→FE→RR:=
 @Nat.rec (fun _=>FX→Code→FE→RR) (fun _ _ _=>.no "fuel") (fun _ run x c s=>(fS L T x c).f run s) fuel
end
section
section
theorem jw (mask:Nat) (x:Operand) (s:FE):(cev mask x).f s=evl (rd mask s) x:=by
 cases x with
 |tmp t=>
  show(bx (isP mask t) (⟨fun s=>lkb s.p t⟩:CE FE) ⟨fun s=>lkb s.l t⟩).f s=bx (isP mask t) (lkb s.p t) (lkb s.l t)
  cases isP mask t<;>rfl
 |const v=>rfl
 |global g=>rfl
 |func f=>rfl
theorem xl (x:Operand) (r:List (Nat×DV)):(cel x).f r=evl (lkb r) x:=by cases x<;>rfl
theorem sZ (mask:Nat) (o:Option Nat) (s:FE) (d:DV):(cwr mask o).f s d=wr mask s o d:=by
 cases o with
 |none=>rfl
 |some t=>
  show(bx (isP mask t) (⟨fun s d=>⟨s.l,upb s.p t d,s.m,s.dd⟩⟩:CW) ⟨fun s d=>⟨(t,d)::s.l,s.p,s.m,s.dd⟩⟩).f s d=bx (isP mask t) ⟨s.l,upb s.p t d,s.m,s.dd⟩ ⟨(t,d)::s.l,s.p,s.m,s.dd⟩
  cases isP mask t<;>rfl
theorem yZ (op:BinOp) (k:IntKind) (a b:Int):(Az op).f k a b=jy op k a b:=by cases op<;>rfl
theorem y5 (L:Lay) (op:BinOp) (t:Nat) (a b:DV):(cbin L op t).f a b=nH L op t a b:=by
 have key:op≠ .shl→op≠ .shr→(match a,b with
  |.int k x,.int k' y=>bx (A4 (kJ k) (kJ k')) ((Az op).f k x y) none
  |a,b=>nH L op t a b)=nH L op t a b:=by
  intro h1 h2
  split
  ·rw[yZ]
   unfold nH
   cases op<;>first|rfl|exact absurd rfl h1|exact absurd rfl h2
  ·rfl
 cases op<;>first
  |rfl
  |exact key (by simp) (by simp)
theorem xj{L:Lay}{m:Mm}{t:Nat}{d d':DV} (h:(xk L t).f m d=some d'):oi L m t d=some d':=by
 unfold xk at h
 unfold oi
 cases ht:L t with
 |none=>rw[ht] at h;cases h
 |some ti=>
  rw[ht] at h
  dsimp only at h⊢
  cases hc:kQ m d with
  |none=>cases ha:ti.d.isAgg<;>rw[ha] at h<;>dsimp only at h<;>rw[hc] at h<;>cases h
  |some cs=>cases ha:ti.d.isAgg<;>rw[ha] at h<;>dsimp only at h⊢<;>rw[hc] at h<;>(first|rw[ha]|skip)<;>exact h
theorem AB{L:Lay}{t f:Nat}{d d':DV}{e:Operand→DV}{x:Operand} (hx:e x=d) (h:(cfa L t f).f d=some d'):dY L e (.fieldAddr t x f)=some d':=by
 unfold cfa at h
 simp only[dY,hx]
 split at h<;>try cases h
 rename_i q0 k0 b0 fs z ht
 simp only[ht]
 split at h<;>try cases h
 rename_i off ft hf
 simp only[hf]
 split at h<;>try cases h
 rename_i ti hti
 simp only[hti]
 revert h
 cases A4 ti.k 0 with
 |true=>intro h;cases h
 |false=>exact fun h=>h
theorem AA{L:Lay}{m:Mm}{t:Nat}{d i d':DV} (h:(cia L t).f m d i=some d'):iaX L m t d i=some d':=by
 unfold cia at h
 split at h
 ·rename_i q0 k0 b0 e z ht
  split at h
  ·rename_i te hte
   dsimp only at h
   split at h<;>try cases h
   rename_i k q
   split at h
   ·unfold iaX
    simp only[ht,hte]
    exact h
   ·exact h
  ·exact h
 ·exact h
theorem xm{L:Lay}{s t:Nat}{d d':DV}{e:Operand→DV}{x:Operand} (hx:e x=d) (h:(xn L s t).f d=some d'):dY L e (.convert s t x)=some d':=by
 unfold xn at h
 simp only[dY,hx]
 split at h<;>try cases h
 rename_i q0 b0 k0 k z ht
 split at h<;>try cases h
 rename_i hs
 dsimp only at h
 split at h<;>cases h
 simp only[ht,hs]
theorem yY{L:Lay}{t:Nat}{d d':DV} (h:(Ax L t).f d=some d'):gD L t d=some d':=by
 unfold Ax at h
 split at h<;>try cases h
 rename_i q0 k0 b0 e z ht
 dsimp only at h
 split at h<;>cases h
 ·simp only[gD,ht];rfl
 ·simp only[gD,ht];rfl
 ·simp only[gD,ht];rfl
theorem dG{L:Lay}{e:Operand→DV}{m:Mm}{op:Op}{d:DV} (h:dY L e op=some d):xop L e m op=some (d,m):=by
 unfold xop
 rw[h]
theorem pT{L:Lay}{e:Operand→DV}{m:Mm}{op:Op}{d:DV} (h0:dY L e op=none) (h:jF L e m op=some d):xop L e m op=some (d,m):=by
 unfold xop
 rw[h0,h]
theorem yX{E:Type}{L:Lay}{ce:Operand→CE E}{op:Op}{s:E}{m:Mm}{r:DV×Mm} (h:(Aw L ce op).f s m=some r):xop L (fun x=>(ce x).f s) m op=some r:=by
 unfold Aw at h
 split at h
 case h_1 x=>cases h;exact dG rfl
 case h_2 x=>cases h;exact dG rfl
 case h_3 bop t x y yt=>
  dsimp only at h
  split at h<;>cases h
  rename_i hd
  rw[y5] at hd
  exact dG hd
 case h_4 t x=>
  dsimp only at h
  split at h<;>cases h
  rename_i hd
  exact pT rfl (xj hd)
 case h_5 t x f=>
  dsimp only at h
  split at h<;>cases h
  rename_i hd
  exact dG (AB rfl hd)
 case h_6 t x i=>
  dsimp only at h
  split at h<;>cases h
  rename_i hd
  exact pT rfl (AA hd)
 case h_7 a t x=>
  dsimp only at h
  split at h<;>cases h
  rename_i hd
  exact dG (xm rfl hd)
 case h_8 x i=>
  dsimp only at h
  split at h<;>try cases h
  rename_i xs hx
  split at h<;>cases h
  rename_i hd
  refine dG ?_
  simp only[dY,hx]
  exact hd
 case h_9 x=>
  dsimp only at h
  split at h<;>cases h
  rename_i hx
  refine dG ?_
  simp only[dY,hx]
 case h_10 t p x=>
  dsimp only at h
  split at h<;>cases h
  rename_i hd
  show xop L _ m _=_
  unfold xop
  simp only[dY,jF,vC,hd]
 case h_11 args ts=>
  split at h<;>try cases h
  rename_i x t ha ht
  dsimp only at h
  split at h<;>cases h
  rename_i hd
  refine dG ?_
  simp only[dY,ha,ht]
  exact yY hd
 case h_12=>cases h
theorem pC{E:Type}{L:Lay}{ce:Operand→CE E}{op:Op}{s:E}{m:Mm}{r:DV×Mm} (h:(cop L ce op).f s m=some r):xop L (fun x=>(ce x).f s) m op=some r:=by
 unfold cop at h
 dsimp only at h
 split at h
 ·rename_i hd;cases h;exact yX hd
 ·exact h
noncomputable def Mm.obs (m:Mm):List Ob:=(Bs m.n).map fun i=>match m.t.get i with
 |some o=>o.ob
 |none=>.dead
def aZ (m:Mm):Prop:=MmOf m m.obs
theorem MmOf.obs{m:Mm}{σ:List Ob} (h:MmOf m σ):σ=m.obs:=by
 apply BV
 intro i
 unfold Mm.obs
 rw[AQ,←h.get]
 by_cases hi:i<m.n
 ·rw[List.getElem?_range hi]
  have:i<σ.length:=by rw[←h.n];exact hi
  have h1:=h.get i
  rw[AI this] at h1
  cases hg:m.t.get i with
  |none=>rw[hg] at h1;cases h1
  |some o=>simp only[AW,hg]
 ·have h1:=h.get i
  rw[BA (by rw[←h.n];omega)] at h1
  rw[h1,BA (by simp;omega)]
  rfl
theorem MmOf.goodm{m:Mm}{σ:List Ob} (h:MmOf m σ):aZ m:=by have:=h;rw[h.obs] at this;exact this
def a9 (mask:Nat) (s:FE):List (Nat×DV):=s.p.filter (fun p=>isP mask p.1)++s.l.filter (fun p=>!isP mask p.1)
open Classical in
theorem zO (a b:List (Nat×DV)) (t:Nat):lk (a++b) t=if(∃d,(t,d)∈a) then lk a t else lk b t:=by
 induction a with
 |nil=>simp[]
 |cons p r ih=>
  obtain⟨q,d⟩:=p
  simp only[Bq,lk]
  by_cases h:q=t
  ·subst h
   rw[if_pos rfl,if_pos rfl,if_pos ⟨d,by simp⟩]
  ·rw[if_neg h,if_neg h,ih]
   have:(∃d',(t,d')∈(q,d)::r)↔∃d',(t,d')∈r:=by
    constructor
    ·rintro⟨d',h'⟩
     rcases Bh.1 h' with e|h'
     ·cases e;exact absurd rfl h
     ·exact⟨d',h'⟩
    ·rintro⟨d',h'⟩;exact⟨d',by simp[h']⟩
   simp only[this]
theorem po{a:List (Nat×DV)}{t:Nat} (h:¬∃d,(t,d)∈a):lk a t=.undef:=by
 induction a with
 |nil=>rfl
 |cons p r ih=>
  obtain⟨q,d⟩:=p
  simp only[lk]
  by_cases hq:q=t
  ·subst hq;exact absurd ⟨d,by simp⟩ h
  ·rw[if_neg hq];exact ih fun⟨d',h'⟩=>h ⟨d',by simp[h']⟩
theorem eE{f:Nat→Bool}{t:Nat} (h:f t=true):∀(a:List (Nat×DV)),lk (a.filter fun p=>f p.1) t=lk a t
 | []=>rfl
 |(q,d)::r=>by
  by_cases hq:q=t
  ·subst hq
   simp only[Dw,h,if_true,lk]
  ·by_cases hf:f q=true
   ·simp only[Dw,hf,if_true,lk,if_neg hq]
    exact eE h r
   ·simp only[Dw,hf,lk,if_neg hq]
    exact eE h r
theorem bm (mask:Nat) (s:FE) (t:Nat):lk (a9 mask s) t=rd mask s t:=by
 unfold a9 rd
 rw[zO,cS,cS,a7]
 cases hp:isP mask t with
 |true=>
  rw[if_pos rfl]
  by_cases hm:∃d,(t,d)∈s.p.filter fun p=>isP mask p.1
  ·rw[if_pos hm];exact eE (f:=isP mask) hp _
  ·rw[if_neg hm]
   have h1:lk (s.p.filter fun p=>isP mask p.1) t=.undef:=po hm
   rw[eE (f:=isP mask) hp] at h1
   rw[h1]
   refine po ?_
   rintro⟨d,hd⟩
   have:=(CA.1 hd).2
   simp[hp] at this
 |false=>
  have hn:¬∃d,(t,d)∈s.p.filter fun p=>isP mask p.1:=by
   rintro⟨d,hd⟩
   have:=(CA.1 hd).2
   simp[hp] at this
  rw[if_neg hn,if_neg (show ¬(false=true) by simp)]
  exact eE (f:=fun t=>!isP mask t) (by simp[hp]) _
theorem cJ (mask:Nat) (s:FE) (x:Operand):evl (rd mask s) x=ev (a9 mask s) x:=by
 cases x with
 |tmp t=>exact(bm mask s t).symm
 |_=>rfl
theorem ze (mask:Nat) (s:FE) (o:Option Nat) (d:DV) (t:Nat):rd mask (wr mask s o d) t=if o=some t then d else rd mask s t:=by
 cases o with
 |none=>simp[wr]
 |some q=>
  simp only[wr,AX.injEq]
  unfold rd
  rw[a7,a7,a7]
  cases hq:isP mask q
  ·simp only[Bb,if_false]
   by_cases h:q=t
   ·subst h
    simp only[hq,Bb,if_false,if_true,cS,lk]
   ·rw[if_neg h]
    simp only[cS,lk,if_neg h]
  ·simp only[if_true]
   by_cases h:q=t
   ·subst h
    simp only[hq,if_true,cS,l8,iT]
   ·rw[if_neg h]
    simp only[cS,l8,iT,if_neg h]
theorem iJ (mask:Nat) (s:FE) (o:Option Nat) (d:DV):(wr mask s o d).m=s.m:=by
 cases o with
 |none=>rfl
 |some q=>simp only[wr];rw[a7];split<;>rfl
theorem pW (mask:Nat) (s:FE) (o:Option Nat) (d:DV):(wr mask s o d).dd=s.dd:=by
 cases o with
 |none=>rfl
 |some q=>simp only[wr];rw[a7];split<;>rfl
end
end
section
@[reducible] def Ctx.at (C:Ctx) (dd:List DD):Ctx:={C with dd:=dd}
def Fin (C:Ctx) (e:XE) (st:St):Exit→Act→World→Prop
 |.normal,a,w=>e=.normal∧Rel C st a w
 |.exit i,a,w=>e=.exit i∧Rel C st a w
 |.ret,a,w=>e=.ret∧Rel C st a w
 |.panic ch,a,w=>∃d v F μ,e=.panic d∧ch=[{v,recovered:=false}]∧Rel0 C F μ st a w∧Rep w F μ st.ob d v
 |_,_,_=>False
theorem Fin.weak{C:Ctx}{e:XE}{st st':St} (k:Weak st st'){x:Exit}{a:Act}{w:World} (h:Fin C e st x a w):Fin C e st' x a w:=by
 cases x with
 |normal=>exact⟨h.1,h.2.weak k⟩
 |exit i=>exact⟨h.1,h.2.weak k⟩
 |ret=>exact⟨h.1,h.2.weak k⟩
 |panic ch=>
  obtain⟨d,v,F,μ,h1,h2,h3,h4⟩:=h
  exact⟨d,v,F,μ,h1,h2,h3.weak k,by rw[k.ob];exact h4⟩
 |goto l=>exact h.elim
 |outgrown=>exact h.elim
def aJ (C:Ctx) (c:Code) (st:St) (dd:List DD) (e:XE) (st':St) (dd':List DD):Prop:=
 ∀a w,Rel (C.at dd) st a w→c.wpIn C.fe 0 C.P (Fin (C.at dd') e st') a w
def bC (C:Ctx) (ops:Array Oper) (rest:List Oper) (st:St) (dd:List DD) (Q:Exit→Act→World→Prop):Prop:=
 ∀a w,Rel (C.at dd) st a w→wpListIn C.fe 0 C.P ops Q rest a w
theorem bC.weak{C:Ctx}{ops:Array Oper}{rest:List Oper}{st st':St}{dd:List DD}{Q:Exit→Act→World→Prop} (k:Weak st st') (h:bC C ops rest st' dd Q):bC C ops rest st dd Q:=
 fun a w hr=>h a w (hr.weak k)
theorem bC.nil{C:Ctx}{ops:Array Oper}{st:St}{dd:List DD}:bC C ops [] st dd (Fin (C.at dd) .normal st):=fun _ _ hr=>⟨rfl,hr⟩
theorem bK.of_run{P:Program}{o:Oper}{st:St}{d:DV}{ob':List Ob} (h:ar P o st d ob'):bK P o st (.ret d) ob':=by
 intro ro a w F μ K' Q hh he hk
 obtain⟨r,w',μ',v,hrun,hv,hh',hst,hfr,hrep⟩:=h a w F μ hh he
 have:=hk v w' F μ' ⟨hh',hst,hfr,fun c b h=>.inl h⟩ hrep
 refine bR (.inr fun c hc=>?_) ?_
 ·obtain⟨d',rfl⟩:=gq hc hrun
  rcases hv with e|⟨e,_⟩<;>cases e
 unfold Oper.wp
 rw[hrun]
 rcases hv with rfl|⟨rfl,rfl⟩
 ·exact this
 ·exact this
theorem bK.panic{P:Program}{o:Oper}{st:St}{x:Operand}{t:Nat}{d:DV} (ho:o.op=.panic x) (hx:ev st.env x=.iface t d):bK P o st (.pan (.iface t d)) st.ob:=by
 intro ro a w F μ K' Q hh he hk
 have hv:=he x
 rw[hx] at hv
 have hv':∃v,a.eval x=.iface t v∧Rep w F μ st.ob d v:=by
  generalize a.eval x=v at hv
  cases hv with
  |iface h=>exact⟨_,rfl,h⟩
 obtain⟨v,hv1,hv2⟩:=hv'
 have hrun:(execOp a.eval o).run P w=.halt (.panic (.iface t v)) w:=by
  simp[execOp,ho,hv1,Instr.panic,goPanic]
 refine bR (.inr fun c hc=>by rw[ho] at hc;cases hc) ?_
 unfold Oper.wp
 rw[hrun,Oper.upon_panic]
 exact hk _ w F μ ⟨hh,Step.refl ..,Fr.refl ..,fun _ _ h=>.inl h⟩ (.iface hv2)
section
variable{C:Ctx}{ops:Array Oper}{rest:List Oper}{o:Oper}{st:St}{dd:List DD}{Q:Exit→Act→World→Prop}
theorem cB{F F':Nat→Nat→Prop}{μ μ':Nat→Option Nat}{a:Act}{w w':World}{ob':List Ob}{v:Value}{d:DV} (hr:Rel0 (C.at dd) F μ st a w) (haf:After w F μ st.ob w' F' μ' ob') (hd:∀t,o.dst=some t→t<C.n)
  (hrep:Rep w' F' μ' ob' d v):Rel0 (C.at dd) F' μ' ⟨upo st.env o.dst d,ob'⟩ (a.put o.dst v) w':=
 ⟨haf.hr,cg (C:=C.at dd) (st:=st) hr.size (fun t=>(hr.env t).step haf.step) o.dst hd hrep,hr.step.trans haf.step,hr.fr.trans haf.fr,
  fun c b hb=>(haf.col c b hb).elim (hr.col c b) (fun q=>.inr (Bl hr.fr.size q)),by rw[bG];exact hr.size,by rw[a8];exact hr.defers.step haf.step⟩
theorem bC.op{d:DV}{ob':List Ob} (hg:gd ops st.env o=some true) (hd:∀t,o.dst=some t→t<C.n) (hop:bK C.P o st (.ret d) ob') (h:bC C ops rest ⟨upo st.env o.dst d,ob'⟩ dd Q):bC C ops (o::rest) st dd Q:=by
 rintro a w ⟨F,μ,hr⟩
 refine wpListIn_step fun K' hK=>?_
 rw[if_pos (aK hr hg)]
 exact hop C.rd a w F μ K' _ hr.hr (bb hr) fun v w' F' μ' haf hrep=>hK _ _ (h _ _ ⟨F',μ',cB hr haf hd hrep⟩)
theorem bC.pan{d:DV}{ob':List Ob} (hg:gd ops st.env o=some true) (hop:bK C.P o st (.pan d) ob'):bC C ops (o::rest) st dd (Fin (C.at dd) (.panic d) ⟨st.env,ob'⟩):=by
 rintro a w ⟨F,μ,hr⟩
 refine wpListIn_step fun K' hK=>?_
 rw[if_pos (aK hr hg)]
 exact hop C.rd a w F μ K' _ hr.hr (bb hr) fun v w' F' μ' haf hrep=>
  ⟨d,v,F',μ',rfl,rfl,⟨haf.hr,fun t=>(hr.env t).step haf.step,hr.step.trans haf.step,hr.fr.trans haf.fr,
   fun c b hb=>(haf.col c b hb).elim (hr.col c b) (fun q=>.inr (Bl hr.fr.size q)),hr.size,hr.defers.step haf.step⟩,hrep⟩
theorem bC.pass (hg:gd ops st.env o=some false) (hd:∀t,o.dst=some t→t<C.n) (h:bC C ops rest ⟨upo st.env o.dst .skip,st.ob⟩ dd Q):bC C ops (o::rest) st dd Q:=by
 rintro a w ⟨F,μ,hr⟩
 refine wpListIn_step fun K' hK=>?_
 rw[if_neg (by rw[aK hr hg];simp)]
 refine⟨fun _ _=>trivial,?_⟩
 refine hK _ _ (h _ _ ⟨F,μ,hr.hr,?_,hr.step,hr.fr,hr.col,by rw[bG];exact hr.size,by rw[a8];exact hr.defers⟩)
 exact cg (C:=C.at dd) (st:=st) hr.size hr.env o.dst hd .skip
theorem bC.defer{g:Operand}{xs:Array Operand}{ts:Array TypeId}{f:FuncId}{caps:List DV} (hrd:C.rd=none) (hg:gd ops st.env o=some true) (hd:∀t,o.dst=some t→t<C.n)
  (ho:o.op=.defer {callee:=.value g,args:=xs,argTypes:=ts}) (hxs:xs.toList=[]) (hf:ev st.env g=.fn f caps) (h:bC C ops rest ⟨upo st.env o.dst .undef,st.ob⟩ (.fn f caps::dd) Q):bC C ops (o::rest) st dd Q:=by
 rintro a w ⟨F,μ,hr⟩
 refine wpListIn_step fun K' hK=>?_
 rw[if_pos (aK hr hg)]
 have hv:=bb hr g
 rw[hf] at hv
 have hcap:∃vs:List Value,a.eval g=.func (.func f) #[] ⟨vs⟩∧bF w F μ st.ob caps vs:=by
  generalize a.eval g=v at hv
  cases hv with
  |fn hl hh=>exact⟨_,rfl,hl,hh⟩
 obtain⟨cvs,hge,hcr⟩:=hcap
 have hx0:xs= #[]:=by apply BJ;simpa using hxs
 subst hx0
 have hrun:(execOp a.eval o).run C.P w=.ok (.defer {target:=.fn (.func f) ⟨cvs⟩,args:= #[]}) w:=by
  unfold execOp
  rw[ho]
  dsimp only[resolve]
  rw[hge]
  simp[Deferred.ofValue,Sem.run_pure]
 have hfe:C.fe={Fence.wide with round:=C.rd}:=rfl
 rw[hfe]
 refine bR (.inl hrd) ?_
 unfold Oper.wp
 rw[hrun]
 refine hK _ _ (h _ _ ⟨F,μ,hr.hr,?_,hr.step,hr.fr,hr.col,by rw[bG];exact hr.size,?_⟩)
 ·exact cg (C:=C.at dd) (st:=st) (a:={a with defers:={target:=.fn (.func f) ⟨cvs⟩,args:= #[]}::a.defers}) hr.size hr.env o.dst hd .undef
 ·rw[a8]
  exact⟨_,_,rfl,⟨cvs,hcr,rfl⟩,hr.defers⟩
end
theorem aJ.region{C:Ctx}{id:Nat}{ops:Array Oper}{st st':St}{dd dd':List DD}{e:XE} (h:bC C ops ops.toList st dd (Fin (C.at dd') e st')):aJ C (.region id ops false) st dd e st' dd':=
 fun a w hr=>wpIn_region_list (h a w hr)
end
section
noncomputable def FE.st (mask:Nat) (s:FE):St:=⟨a9 mask s,s.m.obs⟩
def cU (P:Program) (g:DV) (args:List DV) (σ:List Ob) (out:Out) (σ':List Ob):Prop:=
 ∀(o:Oper) (st:St) (gop:Operand) (xs:Array Operand) (ts:Array TypeId),o.op=.call {callee:=.value gop,args:=xs,argTypes:=ts}→ev st.env gop=g→xs.toList.map (ev st.env)=args→st.ob=σ→bK P o st out σ'
def cr (P:Program) (call:DV→List DV→Mm→CR):Prop:=
 ∀g args m out m',call g args m=.ok out m'→aZ m→aZ m'∧cU P g args m.obs out m'.obs∧∀f caps,g=.fn f caps→Ok P f (args++caps) m.obs out m'.obs
structure CtxOk (C:Ctx) (P:Program) (n:Nat) (rnd:Bool):Prop where
 P:C.P=P
 n:C.n=n
 rd:rnd=false→C.rd=none
def i9 (P:Program) (run:FX→Code→FE→RR):Prop:=
 ∀x c s e s',run x c s=.ok e s'→bh x c=true→aZ s.m→aZ s'.m∧∀C,CtxOk C P x.n x.rnd→aJ C c (s.st x.mask) s.dd e (s'.st x.mask) s'.dd
theorem lY{arr:Array Oper}{e:Nat→DV}{env:List (Nat×DV)}{o:Oper}{b:Bool} (he:∀t,e t=lk env t) (h:xgd arr.toList e o=some b):gd arr env o=some b:=by
 unfold xgd at h
 unfold gd
 split at h
 ·rename_i hg;rw[hg];exact h
 ·rename_i j want hg
  rw[hg]
  dsimp only
  split at h<;>try cases h
  rename_i q hq
  rw[gZ] at hq
  have hq':arr[j]?=some q:=by simpa using hq
  rw[hq']
  dsimp only[C6]
  split at h<;>try cases h
  rename_i t ht
  rw[ht]
  dsimp only
  rw[←he t]
  split at h<;>try cases h
  ·rename_i b' hb
   rw[hb]
   cases b'<;>cases want<;>rfl
  ·rename_i hb
   rw[hb]
theorem fZ{mask:Nat}{s:FE}{o:Option Nat}{d:DV}{m':Mm}{dd:List DD}:Weak ⟨upo (a9 mask s) o d,m'.obs⟩ ((wr mask ⟨s.l,s.p,m',dd⟩ o d).st mask):=by
 refine⟨by simp only[FE.st,iJ],fun t=>.inr ?_⟩
 simp only[FE.st]
 rw[bm,ze,g9]
 congr 1
 rw[bm]
 rfl
theorem pX{mask:Nat}{s:FE}:Weak (s.st mask) ((⟨[],s.p,s.m,s.dd⟩:FE).st mask):=by
 refine⟨rfl,fun t=>?_⟩
 simp only[FE.st]
 rw[bm,bm]
 unfold rd
 rw[a7,a7]
 split
 ·exact .inr rfl
 ·exact .inl rfl
theorem kP{n:Nat}{o:Oper}{l:List Oper} (h:cm n (o::l)=true):(∀t,o.dst=some t→t<n)∧cm n l=true:=by
 simp only[cm,Cv,BF] at h
 refine⟨fun t ht=>?_,h.2⟩
 have:=h.1
 rw[ht] at this
 simpa using this
section
variable{P:Program}{L:Lay}{mask n:Nat}{rnd:Bool}{call:DV→List DV→Mm→CR}{arr:Array Oper}
def xv (P:Program) (mask n:Nat) (rnd:Bool) (arr:Array Oper) (call:DV→List DV→Mm→CR) (k:CR1) (l:List Oper):Prop:=
 ∀s e s',k.f call s=.ok e s'→aZ s.m→aZ s'.m∧∀C,CtxOk C P n rnd→bC C arr l (s.st mask) s.dd (Fin (C.at s'.dd) e (s'.st mask))
theorem oz (hL:af P L) (hc:cr P call){o:Oper}{l:List Oper}{ih:CR1} (hih:xv P mask n rnd arr call ih l) (hd:∀t,o.dst=some t→t<n){s s':FE}{e:XE}
  (hg:gd arr (a9 mask s) o=some true) (h:(px L rnd mask o ih).f call s=.ok e s') (hm:aZ s.m):aZ s'.m∧∀C,CtxOk C P n rnd→bC C arr (o::l) (s.st mask) s.dd (Fin (C.at s'.dd) e (s'.st mask)):=by
 have go:∀{d:DV}{m':Mm},aZ m'→bK P o (s.st mask) (.ret d) m'.obs→ih.f call (wr mask ⟨s.l,s.p,m',s.dd⟩ o.dst d)=.ok e s'→
   aZ s'.m∧∀C,CtxOk C P n rnd→bC C arr (o::l) (s.st mask) s.dd (Fin (C.at s'.dd) e (s'.st mask)):=by
  intro d m' hm' hop hk
  obtain⟨g1,g2⟩:=hih _ _ _ hk (by rw[iJ];exact hm')
  refine⟨g1,fun C hC=>bC.op hg (by rw[hC.n];exact hd) (by rw[hC.P];exact hop) ?_⟩
  have:=g2 C hC
  rw[pW] at this
  exact this.weak fZ
 unfold px at h
 split at h
 case h_1 g xs ts ho=>
  dsimp only at h
  have ha:co (fun x=>(cev mask x).f s) xs.toList=xs.toList.map (ev (a9 mask s)):=by
   rw[cw]
   refine Db fun x _=>?_
   rw[jw,cJ]
  rw[ha,jw,cJ] at h
  split at h
  ·rename_i d m' hk
   rw[sZ] at h
   obtain⟨g1,g2,_⟩:=hc _ _ _ _ _ hk hm
   exact go g1 (g2 o (s.st mask) g xs ts ho rfl rfl rfl) h
  ·rename_i d m' hk
   cases h
   obtain⟨g1,g2,_⟩:=hc _ _ _ _ _ hk hm
   exact⟨g1,fun C hC=>bC.pan hg (by rw[hC.P];exact g2 o (s.st mask) g xs ts ho rfl rfl rfl)⟩
  ·cases h
 case h_2 g xs ts ho=>
  dsimp only at h
  split at h<;>try cases h
  rename_i hxs
  split at h<;>try cases h
  rename_i f caps hf
  rw[jw,cJ] at hf
  rw[a7] at h
  split at h<;>try cases h
  rename_i hr
  rw[sZ] at h
  obtain⟨g1,g2⟩:=hih _ _ _ h (by rw[iJ];exact hm)
  refine⟨g1,fun C hC=>bC.defer (hC.rd (by simpa using hr)) hg (by rw[hC.n];exact hd) ho hxs hf ?_⟩
  have:=g2 C hC
  rw[pW] at this
  exact this.weak fZ
 case h_3 x ho=>
  dsimp only at h
  split at h<;>cases h
  rename_i t d hx
  rw[jw,cJ] at hx
  exact⟨hm,fun C hC=>bC.pan hg (by rw[hC.P];exact bK.panic ho hx)⟩
 case h_4=>
  dsimp only at h
  split at h<;>try cases h
  rename_i d m' hk
  rw[sZ] at h
  have hk':=pC hk
  have he:(fun x=>(cev mask x).f s)=ev (a9 mask s):=by
   funext x
   rw[jw,cJ]
  rw[he] at hk'
  obtain⟨σ',g1,g2⟩:=iw hL hm hk'
  obtain rfl:=g2.obs
  exact go g2.goodm (bK.of_run g1) h
theorem t8 (hL:af P L) (hc:cr P call):∀(l:List Oper),cm n l=true→xv P mask n rnd arr call (yW L rnd mask arr.toList l) l
 | [],_=>by
  intro s e s' h hm
  cases h
  exact⟨hm,fun C hC a w hr=>Fin.weak pX (bC.nil (ops:=arr) a w hr)⟩
 |o::l,hl=>by
  obtain⟨hd,hl'⟩:=kP hl
  have ih:=t8 hL hc l hl'
  intro s e s' h hm
  have h':(xc L rnd mask arr.toList o (yW L rnd mask arr.toList l)).f call s=.ok e s':=h
  unfold xc at h'
  split at h'
  ·rename_i hg
   exact oz hL hc ih hd (by unfold gd;rw[hg]) h' hm
  ·dsimp only at h'
   have he:∀t,rd mask s t=lk (a9 mask s) t:=fun t=>(bm mask s t).symm
   split at h'
   ·rename_i hg
    exact oz hL hc ih hd (lY he hg) h' hm
   ·rename_i hg
    obtain⟨g1,g2⟩:=ih _ _ _ h' (by rw[iJ];exact hm)
    refine⟨g1,fun C hC=>bC.pass (lY he hg) (by rw[hC.n];exact hd) ?_⟩
    have:=g2 C hC
    rw[pW] at this
    exact this.weak (fZ (s:=s) (m':=s.m) (dd:=s.dd))
   ·cases h'
end
end
section
section
variable{C:Ctx}{st st1 st2:St}{dd dd1 dd2:List DD}{e:XE}
theorem aJ.weak{c:Code}{st':St} (k:Weak st st') (h:aJ C c st' dd e st2 dd2):aJ C c st dd e st2 dd2:=fun a w hr=>h a w (hr.weak k)
theorem aJ.skip:aJ C .skip st dd .normal st dd:=fun _ _ hr=>wpIn_skip ⟨rfl,hr⟩
theorem aJ.label{l:Nat}:aJ C (.label l) st dd .normal st dd:=fun _ _ hr=>wpIn_label ⟨rfl,hr⟩
theorem aJ.exit{i:Nat}:aJ C (.exit i) st dd (.exit i) st dd:=fun _ _ hr=>wpIn_exit ⟨rfl,hr⟩
theorem aJ.ret:aJ C .ret st dd .ret st dd:=fun _ _ hr=>wpIn_ret ⟨rfl,hr⟩
theorem aJ.seq{x y:Code} (h:aJ C x st dd .normal st1 dd1) (k:aJ C y st1 dd1 e st2 dd2):aJ C (.seq x y) st dd e st2 dd2:=by
 intro a w hr
 refine wpIn_seq (wpIn_mono (h a w hr) fun e a w q=>?_)
 cases e with
 |normal=>exact k a w q.2
 |exit i=>cases q.1
 |ret=>cases q.1
 |panic ch=>obtain⟨_,_,_,_,h1,_⟩:=q;cases h1
 |goto l=>exact q.elim
 |outgrown=>exact q.elim
theorem aJ.seqOut{x y:Code} (he:e≠ .normal) (h:aJ C x st dd e st1 dd1):aJ C (.seq x y) st dd e st1 dd1:=by
 intro a w hr
 refine wpIn_seq (wpIn_mono (h a w hr) fun e' a w q=>?_)
 cases e' with
 |normal=>exact absurd q.1 he
 |exit i=>exact q
 |ret=>exact q
 |panic ch=>exact q
 |goto l=>exact q.elim
 |outgrown=>exact q.elim
theorem aJ.cond{c:Operand}{x y:Code}{b:Bool} (hc:ev st.env c=.bool b) (ht:b=true→aJ C x st dd e st2 dd2) (hf:b=false→aJ C y st dd e st2 dd2):aJ C (.cond c x y) st dd e st2 dd2:=by
 intro a w hr
 obtain⟨F,μ,h⟩:=hr
 have hv:=bb h c
 rw[hc] at hv
 have hv':a.eval c=.bool b:=by
  generalize a.eval c=v at hv
  cases hv;rfl
 exact wpIn_cond_split hv' (fun e=>ht e a w ⟨F,μ,h⟩) (fun e=>hf e a w ⟨F,μ,h⟩)
def pI (id:Nat):XE→XE
 |.exit i=>if i=id then .normal else .exit i
 |e=>e
theorem aJ.block{id:Nat}{c:Code} (h:aJ C c st dd e st2 dd2):aJ C (.block id c) st dd (pI id e) st2 dd2:=by
 intro a w hr
 refine wpIn_block (wpIn_mono (h a w hr) fun e' a w q=>?_)
 cases e' with
 |normal=>obtain⟨rfl,q⟩:=q;exact⟨rfl,q⟩
 |exit i=>
  obtain⟨rfl,q⟩:=q
  simp only[Exit.inBlock,pI]
  split
  ·exact⟨rfl,q⟩
  ·exact⟨rfl,q⟩
 |ret=>obtain⟨rfl,q⟩:=q;exact⟨rfl,q⟩
 |panic ch=>obtain⟨d,v,F,μ,rfl,q⟩:=q;exact⟨d,v,F,μ,rfl,q⟩
 |goto l=>exact q.elim
 |outgrown=>exact q.elim
theorem aJ.loop{c:Code} (I:Nat→St→List DD→Prop) (n:Nat) (h0:I n st dd)
  (h:∀n st dd,I n st dd→(∃m st1 dd1,m<n∧I m st1 dd1∧aJ C c st dd .normal st1 dd1)∨(e≠ .normal∧aJ C c st dd e st2 dd2)):aJ C (.loop c) st dd e st2 dd2:=by
 intro a w hr b k cs hro hb hrm
 have key:∀n st dd a w,I n st dd→Rel (C.at dd) st a w→
   ∃e' a' w',Fin (C.at dd2) e st2 e' a' w'∧ArrivesIn (Machine.fenced C.P C.fe) C.P (lone (b.atR a (.code c::.inLoop c::k)) cs w) b k cs e' a' w':=by
  intro n
  induction n using Dh with
  |_ n ih=>
   intro st dd a w hI hr
   rcases h n st dd hI with⟨m,st1,dd1,hlt,hI₁,hd⟩|⟨hne,hd⟩
   ·obtain⟨e',a₁,w₁,hq,harr⟩:=hd a w hr b (.inLoop c::k) cs hro hb hrm
    cases e' with
    |normal=>
     obtain⟨e₂,a₂,w₂,hq₂,harr₂⟩:=ih m hlt st1 dd1 a₁ w₁ hI₁ hq.2
     exact⟨e₂,a₂,w₂,hq₂,.of_steps (StepsIn.trans harr (.one (fenced_calm hb hrm rfl) stepR_inLoop)) harr₂⟩
    |exit i=>cases hq.1
    |ret=>cases hq.1
    |panic ch=>obtain⟨_,_,_,_,h1,_⟩:=hq;cases h1
    |goto l=>exact hq.elim
    |outgrown=>exact hq.elim
   ·obtain⟨e',a₁,w₁,hq,harr⟩:=hd a w hr b (.inLoop c::k) cs hro hb hrm
    cases e' with
    |normal=>exact absurd hq.1 hne
    |exit id=>exact⟨.exit id,a₁,w₁,hq,.pass (x:=.inLoop c) rfl (fun _ _=>.inl (by simp)) harr⟩
    |ret=>exact⟨.ret,a₁,w₁,hq,.pass (x:=.inLoop c) rfl (fun _ _=>.inl (by simp)) harr⟩
    |panic ch=>exact⟨.panic ch,a₁,w₁,hq,.pass (x:=.inLoop c) rfl (fun _ _=>.inl (by simp)) harr⟩
    |goto l=>exact hq.elim
    |outgrown=>exact hq.elim
 obtain⟨e',a',w',hq,harr⟩:=key n st dd a w h0 hr
 exact⟨e',a',w',hq,.of_steps (.one (fenced_calm hb hrm rfl) stepR_loop) harr⟩
end
end
section
theorem aJ.scope{C:Ctx}{c:Code}{st st2:St}{dd dd2:List DD}{e:XE} (hrd:C.rd=none) (h:aJ C c st dd e st2 dd2):aJ C (.scope c) st dd e st2 dd2:=by
 intro a w hr
 have hfe:C.fe=Fence.wide:=by
  show{Fence.wide with round:=C.rd}=Fence.wide
  rw[hrd]
  rfl
 have h1:=h a w hr
 rw[hfe] at h1⊢
 refine(wpIn_wide (n:=0)).2 (wp_scope_straight ?_)
 refine wp_mono ((wpIn_wide (n:=0)).1 h1) fun e' a' w' q=>?_
 cases e' with
 |goto l=>exact q.elim
 |outgrown=>exact q.elim
 |normal=>exact q
 |exit i=>exact q
 |ret=>exact q
 |panic ch=>exact q
section
variable{P:Program}{L:Lay}{T:Nat→FT}
def pO (P:Program) (L:Lay):Prop:=∀(call:DV→List DV→Mm→CR),cr P call→∀(x:FX) (id:Nat) (ops:Array Oper) (I:List DI) (s s':FE) (e:XE),
 oJ L x.mask call ops.toList I s=.ok e s'→((ops.toList.map fun o=>(o.dst,fc o))==(I.map fun D:DI=>(D.dst,D.dir))&&t6 I x.n (nF ops.toList I))=true→aZ s.m→
  aZ s'.m∧∀C,CtxOk C P x.n x.rnd→aJ C (.region id ops true) (s.st x.mask) s.dd e (s'.st x.mask) s'.dd
def pL (P:Program) (L:Lay) (T:Nat→FT):Prop:=∀run,i9 P run→cr P (im L T run)→∀(x:FX) (g:Operand) (ps:Array Tmp) (asg bo:Code) (s s':FE) (e:XE),
 oG (im L T run) x ((cev x.mask g).f s) ps.toList asg bo s=.ok e s'→aZ s.m→
  aZ s'.m∧∀C,CtxOk C P x.n x.rnd→aJ C (.rangeFunc g ps asg bo) (s.st x.mask) s.dd e (s'.st x.mask) s'.dd
def lR (P:Program) (L:Lay) (T:Nat→FT):Prop:=∀run,i9 P run→cr P (im L T run)
theorem jc (n:Nat) (x:FX) (c:Code) (s:FE):cL L T (n+1) x c s=(fS L T x c).f (cL L T n) s:=rfl
theorem xo (hL:af P L) (hD:pO P L) (hR:pL P L T) (hC:lR P L T) (n:Nat) (hrun:∀k,k≤n→i9 P (cL L T k)) (x:FX):∀(c:Code) (k:Nat),k≤n→∀s e s',(fS L T x c).f (cL L T k) s=.ok e s'→bh x c=true→aZ s.m→
  aZ s'.m∧∀C,CtxOk C P x.n x.rnd→aJ C c (s.st x.mask) s.dd e (s'.st x.mask) s'.dd:=by
 intro c
 induction c with
 |skip=>intro k hk s e s' h _ hm;cases h;exact⟨hm,fun C _=>aJ.skip⟩
 |region id ops dr=>
  intro k hk s e s' h hc hm
  cases dr with
  |false=>
   have h':(yW L x.rnd x.mask ops.toList ops.toList).f (im L T (cL L T k)) s=.ok e s':=h
   obtain⟨g1,g2⟩:=t8 (n:=x.n) hL (hC _ (hrun k hk)) ops.toList hc s e s' h' hm
   exact⟨g1,fun C hC=>aJ.region (g2 C hC)⟩
  |true=>
   have h':(match t7 x.dis id with
    |some I=>(⟨fun run s=>oJ L x.mask (im L T run) ops.toList I s⟩:CC)
    |none=>⟨fun _ _=>.no "region"⟩).f (cL L T k) s=.ok e s':=h
   simp only[bh] at hc
   cases hd:t7 x.dis id with
   |none=>rw[hd] at h';cases h'
   |some I=>
    rw[hd] at h' hc
    exact hD _ (hC _ (hrun k hk)) x id ops I s s' e h' hc hm
 |seq a b iha ihb=>
  intro k hk s e s' h hc hm
  simp only[bh,BF] at hc
  have h':(match(fS L T x a).f (cL L T k) s with
   |RR.ok .normal s'=>(fS L T x b).f (cL L T k) s'
   |r=>r)=.ok e s':=h
  split at h'
  ·rename_i s1 h1
   obtain⟨g1,g2⟩:=iha k hk _ _ _ h1 hc.1 hm
   obtain⟨g3,g4⟩:=ihb k hk _ _ _ h' hc.2 g1
   exact⟨g3,fun C hC=>aJ.seq (g2 C hC) (g4 C hC)⟩
  ·rename_i hn
   obtain⟨g1,g2⟩:=iha k hk _ _ _ h' hc.1 hm
   exact⟨g1,fun C hC=>aJ.seqOut (fun he=>hn s' (by rw[h',he])) (g2 C hC)⟩
 |cond q a b iha ihb=>
  intro k hk s e s' h hc hm
  simp only[bh,BF] at hc
  have h':(match(cev x.mask q).f s with
   |.bool t=>bx t ((fS L T x a).f (cL L T k) s) ((fS L T x b).f (cL L T k) s)
   |_=>.no "cond")=.ok e s':=h
  split at h'<;>try cases h'
  rename_i t ht
  rw[jw,cJ] at ht
  cases t with
  |true=>
   obtain⟨g1,g2⟩:=iha k hk _ _ _ h' hc.1 hm
   exact⟨g1,fun C hC=>aJ.cond (st:=s.st x.mask) ht (fun _=>g2 C hC) (fun e=>by cases e)⟩
  |false=>
   obtain⟨g1,g2⟩:=ihb k hk _ _ _ h' hc.2 hm
   exact⟨g1,fun C hC=>aJ.cond (st:=s.st x.mask) ht (fun e=>by cases e) (fun _=>g2 C hC)⟩
 |block id b ih=>
  intro k hk s e s' h hc hm
  have h':(match(fS L T x b).f (cL L T k) s with
   |RR.ok (.exit i) s'=>bx (A4 i id) (RR.ok .normal s') (RR.ok (.exit i) s')
   |r=>r)=.ok e s':=h
  split at h'
  ·rename_i i s1 h1
   obtain⟨g1,g2⟩:=ih k hk _ _ _ h1 hc hm
   rw[aN] at h'
   have key:∀C,CtxOk C P x.n x.rnd→aJ C (.block id b) (s.st x.mask) s.dd (pI id (.exit i)) (s1.st x.mask) s1.dd:=fun C hC=>aJ.block (g2 C hC)
   simp only[pI] at key
   split at h'
   ·rename_i hi
    cases h'
    rw[if_pos hi] at key
    exact⟨g1,key⟩
   ·rename_i hi
    cases h'
    rw[if_neg hi] at key
    exact⟨g1,key⟩
  ·rename_i hn
   obtain⟨g1,g2⟩:=ih k hk _ _ _ h' hc hm
   refine⟨g1,fun C hC=>?_⟩
   have:=aJ.block (id:=id) (g2 C hC)
   cases e with
   |exit i=>exact absurd h' (hn i s')
   |normal=>exact this
   |ret=>exact this
   |panic d=>exact this
 |loop b ih=>
  intro k hk s e s' h hc hm
  have unfold1:∀j s,(fS L T x (.loop b)).f (cL L T j) s=match(fS L T x b).f (cL L T j) s with
   |RR.ok .normal s'=>cL L T j x (.loop b) s'
   |r=>r:=fun _ _=>rfl
  have hgood:∀j,j≤n→∀s,(fS L T x (.loop b)).f (cL L T j) s=.ok e s'→aZ s.m→aZ s'.m:=by
   intro j
   induction j with
   |zero=>
    intro hj s h hm
    rw[unfold1] at h
    split at h
    ·cases h
    ·exact(ih 0 hj _ _ _ h hc hm).1
   |succ j ihj=>
    intro hj s h hm
    rw[unfold1] at h
    split at h
    ·rename_i s1 h1
     exact ihj (by omega) s1 (by rw[jc] at h;exact h) (ih _ hj _ _ _ h1 hc hm).1
    ·exact(ih _ hj _ _ _ h hc hm).1
  refine⟨hgood k hk s h hm,fun C hCtx=>?_⟩
  refine aJ.loop (fun j st dd=>∃s,st=s.st x.mask∧dd=s.dd∧aZ s.m∧j≤n∧(fS L T x (.loop b)).f (cL L T j) s=.ok e s') k ⟨s,rfl,rfl,hm,hk,h⟩ ?_
  rintro j st dd ⟨s,rfl,rfl,hm,hj,h⟩
  rw[unfold1] at h
  split at h
  ·rename_i s1 h1
   obtain⟨g1,g2⟩:=ih j hj _ _ _ h1 hc hm
   cases j with
   |zero=>cases h
   |succ j=>exact .inl ⟨j,_,_,Nat.lt_succ_self j,⟨s1,rfl,rfl,g1,by omega,by rw[jc] at h;exact h⟩,g2 C hCtx⟩
  ·rename_i hn
   obtain⟨g1,g2⟩:=ih j hj _ _ _ h hc hm
   exact .inr ⟨fun he=>hn s' (by rw[h,he]),g2 C hCtx⟩
 |rangeFunc g ps asg bo _ _=>
  intro k hk s e s' h hc hm
  exact hR _ (hrun k hk) (hC _ (hrun k hk)) x g ps asg bo s s' e h hm
 |exit i=>intro k hk s e s' h _ hm;cases h;exact⟨hm,fun C _=>aJ.exit⟩
 |scope b ih=>
  intro k hk s e s' h hc hm
  have h':bx x.rnd (.no "scope") ((fS L T x b).f (cL L T k) s)=.ok e s':=h
  rw[a7] at h'
  split at h'<;>try cases h'
  rename_i hr
  obtain⟨g1,g2⟩:=ih k hk _ _ _ h' hc hm
  exact⟨g1,fun C hC=>aJ.scope (hC.rd (by simpa using hr)) (g2 C hC)⟩
 |label l=>intro k hk s e s' h _ hm;cases h;exact⟨hm,fun C _=>aJ.label⟩
 |goto l=>intro k hk s e s' h _ hm;cases h
 |ret=>intro k hk s e s' h _ hm;cases h;exact⟨hm,fun C _=>aJ.ret⟩
 |refuse w=>intro k hk s e s' h _ hm;cases h
theorem vB (hL:af P L) (hD:pO P L) (hR:pL P L T) (hC:lR P L T):∀n,i9 P (cL L T n):=by
 intro n
 induction n using Dh with
 |_ n ih=>
  intro x c s e s' h hc hm
  cases n with
  |zero=>cases h
  |succ n=>
   rw[jc] at h
   exact xo hL hD hR hC n (fun k hk=>ih k (by omega)) x c n (AU _) s e s' h hc hm
end
end
section
section
variable{L:Lay}{mask:Nat}{s:FE}
theorem vA (hm:aZ s.m){r:ResultVar}{d:DV} (h:pR L mask s r=some d):aV L (s.st mask) r=some d:=by
 cases r with
 |tmp t=>
  simp only[pR] at h
  simp only[aV,FE.st,bm]
  exact h
 |cell a t=>
  simp only[pR] at h
  simp only[aV,FE.st,bm]
  exact qO hm h
theorem lS (hm:aZ s.m):∀(rs:List ResultVar){ds:List DV},vz L mask s rs=some ds→cA L (s.st mask) rs=some ds
 | [],ds,h=>by cases h;rfl
 |r::rs,ds,h=>by
  have h':(match pR L mask s r with
   |some d=>match vz L mask s rs with
    |some ds=>some (d::ds)
    |none=>none
   |none=>none)=some ds:=h
  split at h'<;>try cases h'
  rename_i d h1
  split at h'<;>try cases h'
  rename_i ds' h2
  simp only[cA,vA hm h1,lS hm rs h2]
theorem jI (hm:aZ s.m){res:List ResultVar}{out:Out}{m':Mm} (h:oI L mask res s=.ok out m'):m'=s.m∧∃d,out=.ret d∧aF L (s.st mask) res=some d:=by
 unfold oI at h
 split at h<;>cases h
 rename_i d hd
 refine⟨rfl,d,rfl,?_⟩
 unfold xres at hd
 unfold aF
 split at hd<;>try cases hd
 ·rename_i h1
  rw[lS hm _ h1]
 ·rename_i ds h1 hn
  rw[lS hm _ hn]
  split
  ·rename_i d' e;cases e;exact absurd rfl (h1 d')
  ·rename_i ds' _ e;cases e;rfl
  ·rename_i e;cases e
theorem nP (ds:List DV):fw ds=bL 0 ds:=by
 have key:∀(ds:List DV) (n:Nat),(@Cb DV (fun _=>Nat→List (Nat×DV)) (fun _=> []) (fun d _ ih n=>(n,d)::ih (B0 n)) ds n)=bL n ds:=by
  intro ds
  induction ds with
  |nil=>intro n;rfl
  |cons d ds ih=>intro n;show(n,d)::_=_;rw[bL];congr 1;exact ih (n+1)
 exact key ds 0
theorem jd (mask:Nat) (args:List DV) (m:Mm):Weak ⟨bL 0 args,m.obs⟩ ((⟨[],fw args,m,[]⟩:FE).st mask):=by
 refine⟨rfl,fun t=>?_⟩
 simp only[FE.st]
 rw[bm]
 unfold rd
 rw[a7,cS,cS,nP]
 split
 ·exact .inr rfl
 ·exact .inl rfl
end
end
def zn (C:Ctx) (dd:List DD) (E:List (Nat×DV)) (m:Mm) (a:Act) (w:World) (u:FrameMode):Md→Prop
 |.ret=>u=.returning∧Rel (C.at dd) ⟨E,m.obs⟩ a w
 |.pan d=>∃v F μ,u=.panicking [{v,recovered:=false}]∧Rel0 (C.at dd) F μ ⟨E,m.obs⟩ a w∧Rep w F μ m.obs d v
 |.rcv _=>False
theorem jH{L:Lay}{x:FX}{s:FE}:∀(dd:List DD) (md:Md) (m:Mm) (out:Out) (m':Mm),iy L x s dd md m=.ok out m'→aZ m→aZ m'
 | [],md,m,out,m',h,hm=>by
  cases md with
  |ret=>
   have h':oI L x.mask x.res ⟨s.l,s.p,m,[]⟩=.ok out m':=h
   rw[(jI (s:=⟨s.l,s.p,m,[]⟩) hm h').1];exact hm
  |pan d=>cases h;exact hm
  |rcv d=>cases h
 |.col D::r,md,m,out,m',h,hm=>by
  have h':(match m.t.get D with
   |some (.oth (.oth .defd []))=>iy L x s r md ⟨m.t.put D (.oth (.oth .defd [.bool true])),m.n⟩
   |_=>.no "mark")=.ok out m':=h
  split at h'<;>try cases h'
  rename_i ho
  exact jH r md _ out m' h' (hm.put ho (x:=.oth (.oth .defd [.bool true])) trivial).goodm
 |.fn f caps::r,md,m,out,m',h,hm=>by cases h
theorem jb{L:Lay}{C:Ctx} (hL:af C.P L){fn:Func}{x:FX} (hres:fn.results.toList=x.res){s:FE}:∀(dd:List DD) (md:Md) (m:Mm) (out:Out) (m':Mm),iy L x s dd md m=.ok out m'→aZ m→
  ∀(a:Act) (w:World) (u:FrameMode),zn C dd (a9 x.mask s) m a w u md→LeavesInM Fence.wide 0 C.P fn a.tmps (di out m'.obs C.w0 C.F0 C.μ0 C.σ0) a.defers u w
 | [],md,m,out,m',h,hm=>by
  intro a w u hr
  cases md with
  |ret=>
   obtain⟨rfl,F,μ,hr⟩:=hr
   have h':oI L x.mask x.res ⟨s.l,s.p,m,[]⟩=.ok out m':=h
   obtain⟨rfl,d,rfl,hd⟩:=jI (s:=⟨s.l,s.p,m,[]⟩) hm h'
   have hd':a.defers=[]:=hr.defers
   rw[hd']
   obtain⟨v,r1,r2⟩:=bZ (C:=C.at []) hL hr (fn:=fn) (by rw[hres];exact hd)
   exact⟨v,r1,F,μ,v,⟨hr.hr,hr.step,hr.fr,hr.col⟩,rfl,r2⟩
  |pan d=>
   obtain⟨v,F,μ,rfl,hr,hrep⟩:=hr
   cases h
   have hd':a.defers=[]:=hr.defers
   rw[hd']
   exact⟨F,μ,v,⟨hr.hr,hr.step,hr.fr,hr.col⟩,rfl,hrep⟩
  |rcv d=>cases h
 |.fn f caps::r,md,m,out,m',h,hm=>by cases h
 |.col D::r,md,m,out,m',h,hm=>by
  intro a w u hr
  have h':(match m.t.get D with
   |some (.oth (.oth .defd []))=>iy L x s r md ⟨m.t.put D (.oth (.oth .defd [.bool true])),m.n⟩
   |_=>.no "mark")=.ok out m':=h
  split at h'<;>try cases h'
  rename_i ho
  have hput:=hm.put ho (x:=.oth (.oth .defd [.bool true])) trivial
  have ho':m.obs[D]?=some (.oth .defd []):=MmOf.oth hm ho
  have step:∀{F:Nat→Nat→Prop}{μ:Nat→Option Nat},Rel0 (C.at (.col D::r)) F μ ⟨a9 x.mask s,m.obs⟩ a w→
    ∃b ds,a.defers={target:=.collected b,args:= #[]}::ds∧(Instr.takeDeferred b).run C.P w=.ok [] (w.putObj b (.deferred none))∧
     Rel0 (C.at r) F μ ⟨a9 x.mask s,(⟨m.t.put D (.oth (.oth .defd [.bool true])),m.n⟩:Mm).obs⟩ {a with defers:=ds} (w.putObj b (.deferred none))∧
     Step w F μ m.obs (w.putObj b (.deferred none)) F μ (⟨m.t.put D (.oth (.oth .defd [.bool true])),m.n⟩:Mm).obs:=by
   intro F μ hr
   obtain⟨d,ds,e1,⟨b,es,g1,g2,g3⟩,e3⟩:=hr.defers
   have hob:=hr.hr.obj D _ ho'
   obtain⟨_,vs,hvs,hlen,_⟩:=hob
   obtain⟨b',y,q1,q2,q3⟩:=hvs
   rw[g1] at q1;cases q1
   have hv0:vs=[]:=by
    cases vs with
    |nil=>rfl
    |cons v r=>simp at hlen
   have hy:=q3 hv0
   subst hy
   have hturn:=hr.hr.turn (id:=D) (b:=b) (t:=.defd) (t':=.defd) (ds:=[]) (ds':=[.bool true]) (.deferred none) ho' g1 rfl (fun hst hb=>⟨fun i hi=>by simp[OT.refs] at hi,[.bool true],⟨b,none,g1,hb,fun e=>by cases e⟩,rfl,fun i d v hd hv=>by
    rcases i with _|i<;>simp at hd hv
    subst hd;subst hv;exact .bool⟩)
   obtain⟨t1,t2,t3⟩:=hturn
   have hobs:m.obs.set D (.oth .defd [.bool true])=(⟨m.t.put D (.oth (.oth .defd [.bool true])),m.n⟩:Mm).obs:=hput.obs
   rw[hobs] at t1 t2
   subst g3
   exact⟨b,ds,e1,run_takeDeferred q2,⟨t1,fun t=>(hr.env t).step t2,hr.step.trans t2,hr.fr.trans t3,hr.col,hr.size,bS.step t2 e3⟩,t2⟩
  have hu:u≠ .run:=by
   cases md with
   |ret=>rw[hr.1];simp
   |pan d=>obtain⟨v,F,μ,e,_⟩:=hr;rw[e];simp
   |rcv d=>exact hr.elim
  cases md with
  |ret=>
   obtain⟨rfl,F,μ,hr⟩:=hr
   obtain⟨b,ds,e1,e2,e3,_⟩:=step hr
   rw[e1]
   exact⟨hu,.inl ⟨b,_,rfl,e2,jb hL hres r .ret _ out m' h' hput.goodm {a with defers:=ds} _ _ ⟨rfl,F,μ,e3⟩⟩⟩
  |pan d=>
   obtain⟨v,F,μ,rfl,hr,hrep⟩:=hr
   obtain⟨b,ds,e1,e2,e3,e4⟩:=step hr
   rw[e1]
   exact⟨hu,.inl ⟨b,_,rfl,e2,jb hL hres r (.pan d) _ out m' h' hput.goodm {a with defers:=ds} _ _ ⟨v,F,μ,rfl,e3,hrep.step e4⟩⟩⟩
  |rcv d=>exact hr.elim
structure FnOk (P:Program) (f:Nat) (x:FX):Prop where
 fn:∃fn,P.funcs[f]?=some fn∧fn.body=some x.body∧fn.results.toList=x.res∧fn.ntmps=x.n∧(fn.name== "runtime.NumGoroutine")=false
 ok:bh x x.body=true
def xw:XE→Option Md
 |.normal=>some .ret
 |.ret=>some .ret
 |.panic d=>some (.pan d)
 |.exit _=>none
theorem mH{P:Program}{L:Lay} (hL:af P L){f:Nat}{x:FX} (hx:FnOk P f x){run:FX→Code→FE→RR} (hrun:i9 P run){args:List DV}{m m':Mm}{out:Out}{e:XE}{s1:FE}{md:Md}
  (hm:aZ m) (hlen:args.length≤x.n) (hr:run x x.body ⟨[],fw args,m,[]⟩=.ok e s1) (he:xw e=some md) (hlv:iy L x s1 s1.dd md s1.m=.ok out m'):
  aZ m'∧Ok P f args m.obs out m'.obs:=by
 have hcode:=hx.ok
 obtain⟨fn,hf,hb,hres,hn,hname⟩:=hx.fn
 obtain⟨hm1,hdo⟩:=hrun _ _ _ _ _ hr hcode hm
 refine⟨jH _ _ _ _ _ hlv hm1,fun vs w=>?_,fun w F μ vs hr hv=>?_⟩
 ·have hn':¬ fn.name= "runtime.NumGoroutine" :=by simpa using hname
  simp[callFunc,program,Sem.run,hf,hn',hb]
 ·let C:Ctx:=⟨P,fn.ntmps,none,[],w,F,μ,m.obs,hr.out⟩
  have hD:=hdo C ⟨rfl,hn,fun _=>rfl⟩
  have hrel:Rel (C.at []) ⟨bL 0 args,m.obs⟩ {tmps:=(⟨vs⟩:Array Value)++BI (fn.ntmps-(⟨vs⟩:Array Value).size) undef,defers:=[]} w:=by
   refine⟨F,μ,hr,fun t=>?_,Step.refl ..,Fr.refl ..,fun _ _ h=>.inl h,?_,rfl⟩
   ·show Rep w F μ m.obs (lk (bL 0 args) t) _
    rw[db,if_pos (BD t),B6]
    rcases Bp t args.length with ht|ht
    ·rw[AI ht,A8]
     have ht':t<vs.length:=by rw[←hv.1];exact ht
     have:((⟨vs⟩:Array Value)++BI (fn.ntmps-(⟨vs⟩:Array Value).size) undef).getD t undef=vs[t]:=by
      rw[A0,BO (by simpa using ht')]
      simp[ht']
     rw[this]
     exact hv.2 t _ _ (AI ht) (AI ht')
    ·rw[BA ht]
     exact .undef
   ·show((⟨vs⟩:Array Value)++BI (fn.ntmps-(⟨vs⟩:Array Value).size) undef).size=fn.ntmps
    have:=hv.1
    simp;omega
  have hwp:=(hD.weak (jd x.mask args m)) _ w hrel
  refine callsIn_wide.1 (callsIn_of_wp_marks hf hb trivial (n:=0) (wpIn_mono hwp fun ex a w' hq=>?_))
  have lv:∀u,zn C s1.dd (a9 x.mask s1) s1.m a w' u md→LeavesInM Fence.wide 0 P fn a.tmps (di out m'.obs w F μ m.obs) a.defers u w':=
   fun u h=>jb (C:=C) hL hres s1.dd md s1.m out m' hlv hm1 a w' u h
  cases ex with
  |normal=>
   obtain⟨rfl,hq⟩:=hq
   cases he
   exact lv .returning ⟨rfl,hq⟩
  |ret=>
   obtain⟨rfl,hq⟩:=hq
   cases he
   exact lv .returning ⟨rfl,hq⟩
  |exit i=>obtain⟨rfl,_⟩:=hq;cases he
  |panic ch=>
   obtain⟨d,v,F',μ',rfl,rfl,h1,h2⟩:=hq
   cases he
   exact lv _ ⟨v,F',μ',rfl,h1,h2⟩
  |goto l=>exact hq.elim
  |outgrown=>exact hq.elim
section
structure TabOk (P:Program) (T:Nat→FT):Prop where
 code:∀f x,T f=.code x→FnOk P f x
 nat:∀f g args m out m',T f=.nat g→g args m=some (out,m')→aZ m→aZ m'∧Ok P f args m.obs out m'.obs
def kq (P:Program) (L:Lay) (T:Nat→FT):Prop:=∀(run:FX→Code→FE→RR) (call:DV→List DV→Mm→CR),i9 P run→cr P call→
 ∀(f:Nat) (x:FX) (args:List DV) (m m':Mm) (out:Out) (e:XE) (s1:FE) (md:Md) (g:Nat) (caps:List DV) (r:List DD),FnOk P f x→aZ m→args.length≤x.n→
  run x x.body ⟨[],fw args,m,[]⟩=.ok e s1→xw e=some md→s1.dd=.fn g caps::r→ix L T call x s1 s1.dd md s1.m=.ok out m'→aZ m'∧Ok P f args m.obs out m'.obs
def np (P:Program) (T:Nat→FT):Prop:=∀run,i9 P run→∀id args m out m',rM T run id args m=.ok out m'→aZ m→aZ m'∧cU P (.yld id) args m.obs out m'.obs
section
variable{P:Program}{L:Lay}{T:Nat→FT}{run:FX→Code→FE→RR}{call:DV→List DV→Mm→CR}
theorem vD (hL:af P L) (hT:TabOk P T) (hF:kq P L T) (hrun:i9 P run) (hc:cr P call){f:Nat}{args:List DV}{m m':Mm}{out:Out} (h:vE L T run call f args m=.ok out m') (hm:aZ m):
  aZ m'∧Ok P f args m.obs out m'.obs:=by
 unfold vE at h
 split at h
 ·rename_i x hx
  have hfn:=hT.code f x hx
  rw[bv,dB] at h
  split at h<;>try cases h
  rename_i hlen
  have lv:∀(e:XE) (s:FE) (md:Md),run x x.body ⟨[],fw args,m,[]⟩=.ok e s→xw e=some md→oH L T call x s s.dd md s.m=.ok out m'→aZ m'∧Ok P f args m.obs out m'.obs:=by
   intro e s md hr he hl
   cases hdd:s.dd with
   |nil=>
    rw[hdd] at hl
    exact mH hL hfn hrun hm hlen hr he (by rw[hdd];exact hl)
   |cons q r=>
    rw[hdd] at hl
    cases q with
    |col D=>exact mH hL hfn hrun hm hlen hr he (by rw[hdd];exact hl)
    |fn g caps=>exact hF run call hrun hc f x args m m' out e s md g caps r hfn hm hlen hr he hdd (by rw[hdd];exact hl)
  split at h
  ·rename_i s hr;exact lv _ s .ret hr rfl h
  ·rename_i s hr;exact lv _ s .ret hr rfl h
  ·rename_i d s hr;exact lv _ s (.pan d) hr rfl h
  ·cases h
  ·cases h
 ·rename_i g hg
  split at h<;>cases h
  rename_i hk
  exact hT.nat f g args m _ _ hg hk hm
 ·cases h
theorem tg (hL:af P L) (hT:TabOk P T) (hF:kq P L T) (hR:np P T) (hrun:i9 P run) (hc:cr P call):cr P (xA L T run call):=by
 intro g args m out m' h hm
 unfold xA at h
 split at h
 ·rename_i f caps
  rw[lQ] at h
  obtain⟨g1,g2⟩:=vD hL hT hF hrun hc h hm
  refine⟨g1,?_,fun f' caps' e=>by cases e;exact g2⟩
  intro o st gop xs ts ho hf hargs hob
  subst hargs
  exact bK.call ho hf (by rw[hob];exact g2)
 ·rename_i id
  obtain⟨g1,g2⟩:=hR run hrun id args m out m' h hm
  exact⟨g1,g2,fun f caps e=>by cases e⟩
 ·cases h
theorem y6 (hL:af P L) (hT:TabOk P T) (hF:kq P L T) (hR:np P T):lR P L T:=by
 intro run hrun
 have h0:cr P fun _ _ _=>.no "nested" :=fun _ _ _ _ _ h=>by cases h
 exact tg hL hT hF hR hrun (tg hL hT hF hR hrun h0)
end
end
section
def fX (w:World) (F:Nat→Nat→Prop) (μ:Nat→Option Nat) (σ:List Ob) (u:FrameMode):Md→Prop
 |.ret=>u=.returning
 |.pan d=>∃v,u=.panicking [{v,recovered:=false}]∧Rep w F μ σ d v
 |.rcv d=>∃v,u=.panicking [{v,recovered:=true}]∧Rep w F μ σ d v
theorem fX.step{w w':World}{F F':Nat→Nat→Prop}{μ μ':Nat→Option Nat}{σ σ':List Ob} (s:Step w F μ σ w' F' μ' σ'){u:FrameMode}{md:Md} (h:fX w F μ σ u md):fX w' F' μ' σ' u md:=by
 cases md with
 |ret=>exact h
 |pan d=>obtain⟨v,h1,h2⟩:=h;exact⟨v,h1,h2.step s⟩
 |rcv d=>obtain⟨v,h1,h2⟩:=h;exact⟨v,h1,h2.step s⟩
def gv (C:Ctx) (md:Md) (st:St) (a:Act) (w:World) (u:FrameMode):Prop:=∃F μ,Rel0 (C.at []) F μ st a w∧fX w F μ st.ob u md
theorem gv.weak{C:Ctx}{md:Md}{st st':St}{a:Act}{w:World}{u:FrameMode} (k:Weak st st') (h:gv C md st a w u):gv C md st' a w u:=by
 obtain⟨F,μ,h1,h2⟩:=h
 exact⟨F,μ,h1.weak k,by rw[k.ob];exact h2⟩
theorem dH{P:Program}{c:Code}{Q Q':Exit→Act→List Frame→World→Prop}{a:Act}{cs:List Frame}{w:World} (h:c.wpS P Q a cs w) (k:∀e a cs w,Q e a cs w→Q' e a cs w):c.wpS P Q' a cs w:=
 fun b kk hb hr=>let⟨e,a',cs',w',q,r⟩:=h b kk hb hr;⟨e,a',cs',w',k _ _ _ _ q,r⟩
def exOf (stop:Bool):Exit:=if stop=true then .ret else .normal
def tf (C:Ctx) (c₀:Frame) (cs₀:List Frame) (stop:Bool) (md:Md) (st:St):Exit→Act→List Frame→World→Prop:=
 fun ex a cs w=>ex=exOf stop∧∃u,cs={c₀ with mode:=u}::cs₀∧gv C md st a w u
theorem lI{P:Program}{ops:Array Oper}{Q:Exit→Act→List Frame→World→Prop}{i:Nat}{o:Oper}{l:List Nat}{a:Act}{cs:List Frame}{w:World} (ho:ops[i]?=some o)
  (h:if Region.wanted o (yielded ops a.tmps) then
    match(execOp a.eval o).run P w with
    |.ok .recover w'=>
     match recoverD cs with
     |some (v,cs')=>wpOpsS P ops Q l (a.put o.dst v) cs' w'
     |none=>wpOpsS P ops Q l (a.put o.dst .nilIface) cs w'
    |r=>o.upon P a (fun a' w'=>wpOpsS P ops Q l a' cs w') (fun e a' w'=>Q e a' cs w') r
   else wpOpsS P ops Q l (a.put o.dst undef) cs w):wpOpsS P ops Q (i::l) a cs w:=by
 simp only[wpOpsS,ho]
 exact h
section
variable{P:Program}{L:Lay}{mask n:Nat}{call:DV→List DV→Mm→CR}{arr:Array Oper}
def TailS (P:Program) (mask n:Nat) (arr:Array Oper) (i k:Nat) (md:Md) (s:FE) (md':Md) (s':FE):Prop:=
 ∀C,CtxOk C P n false→∀(c₀:Frame) (cs₀:List Frame) (a:Act) (w:World) (u:FrameMode),gv C md (s.st mask) a w u→
  wpOpsS P arr (tf C c₀ cs₀ false md' (s'.st mask)) (Dz i k) a ({c₀ with mode:=u}::cs₀) w
theorem fN{C:Ctx}{c₀:Frame}{cs₀:List Frame}{Q:Exit→Act→List Frame→World→Prop}{i:Nat}{o:Oper}{l:List Nat}{st:St}{d:DV}{ob':List Ob}{md:Md}{a:Act}{w:World}{u:FrameMode} (hP:C.P=P)
  (ho:arr[i]?=some o) (hg:gd arr st.env o=some true) (hd:∀t,o.dst=some t→t<C.n) (hop:ar P o st d ob')
  (h:∀a w u,gv C md ⟨upo st.env o.dst d,ob'⟩ a w u→wpOpsS P arr Q l a ({c₀ with mode:=u}::cs₀) w) (hr:gv C md st a w u):wpOpsS P arr Q (i::l) a ({c₀ with mode:=u}::cs₀) w:=by
 obtain⟨F,μ,hr,hmd⟩:=hr
 refine lI ho ?_
 rw[if_pos (aK hr hg)]
 obtain⟨r,w',μ',v,hrun,hv,hh,hst,hfr,hrep⟩:=hop a w F μ hr.hr (bb hr)
 have hn:=h (a.put o.dst v) w' u ⟨F,μ',cB (dd:=[]) hr ⟨hh,hst,hfr,fun c b h=>.inl h⟩ hd hrep,hmd.step hst⟩
 rw[hrun]
 rcases hv with rfl|⟨rfl,rfl⟩
 ·exact hn
 ·exact hn
end
section
variable{P:Program}{arr:Array Oper}
theorem gX{C:Ctx}{c₀:Frame}{cs₀:List Frame}{Q:Exit→Act→List Frame→World→Prop}{i:Nat}{o:Oper}{l:List Nat}{st:St}{d:DV}{ob':List Ob}{md:Md}{a:Act}{w:World}{u:FrameMode}{g:Operand}{xs:Array Operand}{ts:Array TypeId}{f:FuncId}{caps:List DV}
  (ho:arr[i]?=some o) (hg:gd arr st.env o=some true) (hd:∀t,o.dst=some t→t<C.n) (hop:o.op=.call {callee:=.value g,args:=xs,argTypes:=ts}) (hf:ev st.env g=.fn f caps)
  (hok:Ok P f (xs.toList.map (ev st.env)++caps) st.ob (.ret d) ob')
  (h:∀a w u,gv C md ⟨upo st.env o.dst d,ob'⟩ a w u→wpOpsS P arr Q l a ({c₀ with mode:=u}::cs₀) w) (hr:gv C md st a w u):wpOpsS P arr Q (i::l) a ({c₀ with mode:=u}::cs₀) w:=by
 obtain⟨F,μ,hr,hmd⟩:=hr
 refine lI ho ?_
 rw[if_pos (aK hr hg)]
 have hv:=bb hr g
 rw[hf] at hv
 have hcap:∃vs:List Value,a.eval g=.func (.func f) #[] ⟨vs⟩∧bF w F μ st.ob caps vs:=by
  generalize a.eval g=v at hv
  cases hv with
  |fn hl hh=>exact⟨_,rfl,hl,hh⟩
 obtain⟨cvs,hge,hcr⟩:=hcap
 have hrun:(execOp a.eval o).run P w=.ok (.enter f ⟨xs.toList.map a.eval++cvs⟩) w:=by
  unfold execOp
  rw[hop]
  dsimp only[resolve]
  rw[hge]
  have harr:(xs.map a.eval++(⟨cvs⟩:Array Value))=⟨xs.toList.map a.eval++cvs⟩:=by
   apply BJ
   simp
  simp only[Deferred.ofValue,Sem.run_bind,Sem.run_pure,Result.andThen_ok,invoke,B3,harr]
  exact hok.enters _ w
 rw[hrun]
 show o.upon P a _ _ (.ok (.enter f _) w)
 rw[Oper.upon_enter]
 refine(hok.calls w F μ _ hr.hr ((qo hr xs.toList).append hcr)).mono fun e w' he=>?_
 obtain⟨F',μ',v,haf,rfl,hrep⟩:=he
 exact h _ _ u ⟨F',μ',cB (dd:=[]) hr haf hd hrep,hmd.step haf.step⟩
end
section
variable{P:Program}{arr:Array Oper}
theorem dK{C:Ctx}{c₀:Frame}{cs₀:List Frame}{Q:Exit→Act→List Frame→World→Prop}{i:Nat}{o:Oper}{l:List Nat}{st:St}{md:Md}{a:Act}{w:World}{u:FrameMode}{xs:Array Operand}{ts:Array TypeId}
  (ho:arr[i]?=some o) (hg:gd arr st.env o=some true) (hd:∀t,o.dst=some t→t<C.n) (hop:o.op=.call {callee:=.builtin .recover,args:=xs,argTypes:=ts})
  (h:∀a w u,gv C (tI md).2 ⟨upo st.env o.dst (tI md).1,st.ob⟩ a w u→wpOpsS P arr Q l a ({c₀ with mode:=u}::cs₀) w) (hr:gv C md st a w u):wpOpsS P arr Q (i::l) a ({c₀ with mode:=u}::cs₀) w:=by
 obtain⟨F,μ,hr,hmd⟩:=hr
 refine lI ho ?_
 rw[if_pos (aK hr hg)]
 have hrun:(execOp a.eval o).run P w=.ok .recover w:=by
  unfold execOp
  rw[hop]
  simp[resolve,Sem.run_pure,invoke,Go.builtin]
 rw[hrun]
 have haf:After w F μ st.ob w F μ st.ob:=⟨hr.hr,Step.refl ..,Fr.refl ..,fun _ _ h=>.inl h⟩
 cases md with
 |ret=>
  obtain rfl:u=.returning:=hmd
  exact h _ _ _ ⟨F,μ,cB (dd:=[]) hr haf hd .nili,rfl⟩
 |pan d=>
  obtain⟨v,rfl,hv⟩:=hmd
  exact h _ _ _ ⟨F,μ,cB (dd:=[]) hr haf hd hv,v,rfl,hv⟩
 |rcv d=>
  obtain⟨v,rfl,hv⟩:=hmd
  exact h _ _ _ ⟨F,μ,cB (dd:=[]) hr haf hd .nili,v,rfl,hv⟩
end
section
variable{P:Program}{arr:Array Oper}
theorem wy{C:Ctx}{c₀:Frame}{cs₀:List Frame}{Q:Exit→Act→List Frame→World→Prop}{i:Nat}{o:Oper}{l:List Nat}{st:St}{md:Md}{a:Act}{w:World}{u:FrameMode}
  (ho:arr[i]?=some o) (hg:gd arr st.env o=some false) (hd:∀t,o.dst=some t→t<C.n)
  (h:∀a w u,gv C md ⟨upo st.env o.dst .skip,st.ob⟩ a w u→wpOpsS P arr Q l a ({c₀ with mode:=u}::cs₀) w) (hr:gv C md st a w u):wpOpsS P arr Q (i::l) a ({c₀ with mode:=u}::cs₀) w:=by
 obtain⟨F,μ,hr,hmd⟩:=hr
 refine lI ho ?_
 rw[if_neg (by rw[aK hr hg];simp)]
 have haf:After w F μ st.ob w F μ st.ob:=⟨hr.hr,Step.refl ..,Fr.refl ..,fun _ _ h=>.inl h⟩
 exact h _ _ _ ⟨F,μ,cB (dd:=[]) hr haf hd .skip,hmd⟩
end
section
variable{P:Program}{L:Lay}{mask n:Nat}{call:DV→List DV→Mm→CR}{arr:Array Oper}
theorem yU{l:List Oper}{i:Nat}{o:Oper} (h:arr.toList.drop i=o::l):arr[i]?=some o∧arr.toList.drop (i+1)=l:=by
 constructor
 ·have h0:(arr.toList.drop i)[0]?=some o:=by rw[h];rfl
  rw[Bk] at h0
  simpa using h0
 ·rw[←Dp,h];rfl
theorem pS (hL:af P L) (hc:cr P call):∀(l:List Oper) (i:Nat),arr.toList.drop i=l→cm n l=true→∀(md:Md) (s:FE) (stop:Bool) (md':Md) (s':FE),tj L mask arr.toList call l md s=.ok stop md' s'→aZ s.m→
  stop=false∧aZ s'.m∧TailS P mask n arr i l.length md s md' s'
 | [],i,_,_,md,s,stop,md',s',h,hm=>by
  cases h
  refine⟨rfl,hm,fun C hC c₀ cs₀ a w u hr=>?_⟩
  exact⟨rfl,u,rfl,hr.weak pX⟩
 |o::l,i,hdr,hdst,md,s,stop,md',s',h,hm=>by
  obtain⟨ho,hdr'⟩:=yU hdr
  obtain⟨hd,hdst'⟩:=kP hdst
  have ih:=pS hL hc l (i+1) hdr' hdst'
  have he:∀t,rd mask s t=lk (a9 mask s) t:=fun t=>(bm mask s t).symm
  have hev:evl (rd mask s)=ev (a9 mask s):=by funext x;exact cJ mask s x
  have h':rL L mask arr.toList call o (tj L mask arr.toList call l) md s=.ok stop md' s':=h
  unfold rL at h'
  split at h'
  ·rename_i hg
   have hg':gd arr (a9 mask s) o=some true:=lY he hg
   split at h'
   ·rename_i xs ts hop
    obtain⟨g1,g2,g3⟩:=ih _ _ _ _ _ h' (by rw[iJ];exact hm)
    refine⟨g1,g2,fun C hC c₀ cs₀ a w u hr=>?_⟩
    exact dK (st:=s.st mask) ho hg' (by rw[hC.n];exact hd) hop (fun a w u hr=>g3 C hC c₀ cs₀ a w u (hr.weak (fZ (m':=s.m) (dd:=s.dd)))) hr
   ·rename_i g xs ts hop
    rw[hev] at h'
    split at h'
    ·rename_i f caps hf
     have ha:co (ev (a9 mask s)) xs.toList=xs.toList.map (ev (a9 mask s)):=cw _ _
     rw[ha] at h'
     split at h'
     ·rename_i d m' hk
      obtain⟨k1,_,k3⟩:=hc _ _ _ _ _ hk hm
      obtain⟨g1,g2,g3⟩:=ih _ _ _ _ _ h' (by rw[iJ];exact k1)
      refine⟨g1,g2,fun C hC c₀ cs₀ a w u hr=>?_⟩
      exact gX (st:=s.st mask) ho hg' (by rw[hC.n];exact hd) hop hf (k3 f caps rfl) (fun a w u hr=>g3 C hC c₀ cs₀ a w u (hr.weak fZ)) hr
     ·cases h'
    ·cases h'
   ·rw[hev] at h'
    split at h'
    ·rename_i d m' hk
     obtain⟨σ',k1,k2⟩:=iw hL hm hk
     obtain rfl:=k2.obs
     obtain⟨g1,g2,g3⟩:=ih _ _ _ _ _ h' (by rw[iJ];exact k2.goodm)
     refine⟨g1,g2,fun C hC c₀ cs₀ a w u hr=>?_⟩
     exact fN (P:=P) (st:=s.st mask) hC.P ho hg' (by rw[hC.n];exact hd) k1 (fun a w u hr=>g3 C hC c₀ cs₀ a w u (hr.weak fZ)) hr
    ·cases h'
  ·rename_i hg
   obtain⟨g1,g2,g3⟩:=ih _ _ _ _ _ h' (by rw[iJ];exact hm)
   refine⟨g1,g2,fun C hC c₀ cs₀ a w u hr=>?_⟩
   exact wy (st:=s.st mask) ho (lY he hg) (by rw[hC.n];exact hd) (fun a w u hr=>g3 C hC c₀ cs₀ a w u (hr.weak (fZ (m':=s.m) (dd:=s.dd)))) hr
  ·cases h'
theorem uf (x:FX) (k:Nat) (c:Code) (md:Md) (s:FE):rN L x call (k+1) c md s=match c with
 |.skip=>.ok false md s
 |.ret=>.ok true md s
 |.seq a b=>match rN L x call k a md s with
  |.ok false md' s'=>rN L x call k b md' s'
  |r=>r
 |.cond q a b=>match evl (rd x.mask s) q with
  |.bool true=>rN L x call k a md s
  |.bool false=>rN L x call k b md s
  |_=>.no "cond"
 |.region id ops false=>tj L x.mask ops.toList call ops.toList md s
 |_=>.no "rec" :=rfl
theorem iv (hL:af P L) (hc:cr P call) (x:FX):∀(k:Nat) (c:Code) (md:Md) (s:FE) (stop:Bool) (md':Md) (s':FE),rN L x call k c md s=.ok stop md' s'→bh x c=true→aZ s.m→
  aZ s'.m∧∀C,CtxOk C P x.n false→∀(c₀:Frame) (cs₀:List Frame) (a:Act) (w:World) (u:FrameMode),gv C md (s.st x.mask) a w u→c.wpS P (tf C c₀ cs₀ stop md' (s'.st x.mask)) a ({c₀ with mode:=u}::cs₀) w
 |0,c,md,s,stop,md',s',h,_,_=>by cases h
 |k+1,c,md,s,stop,md',s',h,hcode,hm=>by
  rw[uf] at h
  split at h
  ·cases h
   exact⟨hm,fun C hC c₀ cs₀ a w u hr=>wpS_of_wp (wp_skip ⟨rfl,u,rfl,hr⟩)⟩
  ·cases h
   exact⟨hm,fun C hC c₀ cs₀ a w u hr=>wpS_of_wp (wp_ret ⟨rfl,u,rfl,hr⟩)⟩
  ·rename_i p q
   simp only[bh,BF] at hcode
   split at h
   ·rename_i md1 s1 h1
    obtain⟨g1,g2⟩:=iv hL hc x k _ _ _ _ _ _ h1 hcode.1 hm
    obtain⟨g3,g4⟩:=iv hL hc x k _ _ _ _ _ _ h hcode.2 g1
    refine⟨g3,fun C hC c₀ cs₀ a w u hr=>wpS_seq (dH (g2 C hC c₀ cs₀ a w u hr) ?_)⟩
    rintro ex a1 cs1 w1 ⟨rfl,u1,rfl,hr1⟩
    exact g4 C hC c₀ cs₀ a1 w1 u1 hr1
   ·rename_i hn
    obtain⟨g1,g2⟩:=iv hL hc x k _ _ _ _ _ _ h hcode.1 hm
    refine⟨g1,fun C hC c₀ cs₀ a w u hr=>wpS_seq (dH (g2 C hC c₀ cs₀ a w u hr) ?_)⟩
    rintro ex a1 cs1 w1 ⟨rfl,u1,rfl,hr1⟩
    cases stop with
    |false=>exact absurd h (hn md' s')
    |true=>exact⟨rfl,u1,rfl,hr1⟩
  ·rename_i q p1 p2
   simp only[bh,BF] at hcode
   have key:∀b:Bool,evl (rd x.mask s) q=.bool b→∀{C:Ctx}{a:Act}{w:World}{u:FrameMode},gv C md (s.st x.mask) a w u→a.eval q=.bool b:=by
    intro b hb C a w u hr
    obtain⟨F,μ,hr,_⟩:=hr
    have hv:=bb hr q
    rw[show ev (s.st x.mask).env q=.bool b from(cJ x.mask s q).symm.trans hb] at hv
    generalize a.eval q=v at hv
    cases hv;rfl
   split at h
   ·rename_i hq
    obtain⟨g1,g2⟩:=iv hL hc x k _ _ _ _ _ _ h hcode.1 hm
    exact⟨g1,fun C hC c₀ cs₀ a w u hr=>wpS_cond (key _ hq hr) (g2 C hC c₀ cs₀ a w u hr)⟩
   ·rename_i hq
    obtain⟨g1,g2⟩:=iv hL hc x k _ _ _ _ _ _ h hcode.2 hm
    exact⟨g1,fun C hC c₀ cs₀ a w u hr=>wpS_cond (key _ hq hr) (g2 C hC c₀ cs₀ a w u hr)⟩
   ·cases h
  ·rename_i id ops
   obtain⟨rfl,g2,g3⟩:=pS (n:=x.n) hL hc ops.toList 0 rfl hcode _ _ _ _ _ h hm
   refine⟨g2,fun C hC c₀ cs₀ a w u hr=>wpS_region ?_⟩
   have:=g3 C hC c₀ cs₀ a w u hr
   rw[DA]
   simpa using this
  ·cases h
end
end
section
theorem FnOk.enters{P:Program}{f:Nat}{x:FX} (h:FnOk P f x) (vs:Array Value) (w:World):(callFunc f vs).run P w=.ok (.enter f vs) w:=by
 obtain⟨fn,hf,hb,hres,hn,hname⟩:=h.fn
 have hn':¬ fn.name= "runtime.NumGoroutine" :=by simpa using hname
 simp[callFunc,program,Sem.run,hf,hn',hb]
theorem fK{P:Program}{n:Nat}{args:List DV}{vs:List Value}{w:World}{F:Nat→Nat→Prop}{μ:Nat→Option Nat}{σ:List Ob} (hr:HR w F μ σ) (hv:bF w F μ σ args vs) (hlen:args.length≤n):
  Rel0 ⟨P,n,none,[],w,F,μ,σ,hr.out⟩ F μ ⟨bL 0 args,σ⟩ {tmps:=(⟨vs⟩:Array Value)++BI (n-(⟨vs⟩:Array Value).size) undef,defers:=[]} w:=by
 refine⟨hr,fun t=>?_,Step.refl ..,Fr.refl ..,fun _ _ h=>.inl h,?_,rfl⟩
 ·show Rep w F μ σ (lk (bL 0 args) t) _
  rw[db,if_pos (BD t),B6]
  rcases Bp t args.length with ht|ht
  ·rw[AI ht,A8]
   have ht':t<vs.length:=by rw[←hv.1];exact ht
   have:((⟨vs⟩:Array Value)++BI (n-(⟨vs⟩:Array Value).size) undef).getD t undef=vs[t]:=by
    rw[A0,BO (by simpa using ht')]
    simp[ht']
   rw[this]
   exact hv.2 t _ _ (AI ht) (AI ht')
  ·rw[BA ht]
   exact .undef
 ·show((⟨vs⟩:Array Value)++BI (n-(⟨vs⟩:Array Value).size) undef).size=n
  have:=hv.1
  simp;omega
def zd (m':Mm) (md':Md) (w:World) (F:Nat→Nat→Prop) (μ:Nat→Option Nat) (σ:List Ob) (e:Ending) (u':FrameMode) (w':World):Prop:=
 ∃v F' μ',e=.returned v∧After w F μ σ w' F' μ' m'.obs∧fX w' F' μ' m'.obs u' md'
section
variable{P:Program}{L:Lay}{T:Nat→FT}{call:DV→List DV→Mm→CR}
theorem nI (hL:af P L) (hT:TabOk P T) (hc:cr P call){f:Nat}{caps:List DV}{md md2:Md}{m m':Mm} (h:l6 L T call f caps md m=some (md2,m')) (hm:aZ m):
  aZ m'∧(∃x,FnOk P f x)∧∃md':Md,md2=md'.settle∧∀(w:World) (F:Nat→Nat→Prop) (μ:Nat→Option Nat) (vs:List Value) (u:FrameMode),HR w F μ m.obs→bF w F μ m.obs caps vs→fX w F μ m.obs u md→
   CallsD P f ⟨vs⟩ u w (zd m' md' w F μ m.obs):=by
 unfold l6 at h
 split at h
 ·rename_i y hy
  have hfn:=hT.code f y hy
  have hcode:=hfn.ok
  rw[bv,dB] at h
  split at h<;>try cases h
  rename_i hlen
  split at h<;>try cases h
  rename_i stop md' s' hrec
  obtain⟨g1,g2⟩:=iv hL hc y _ _ _ _ _ _ _ hrec hcode hm
  split at h<;>cases h
  rename_i out hfin
  obtain⟨rfl,d,rfl,hd⟩:=jI g1 hfin
  refine⟨g1,⟨y,hfn⟩,md',rfl,fun w F μ vs u hr hv hmd=>?_⟩
  obtain⟨fn,hf,hb,hres,hn,hname⟩:=hfn.fn
  refine callsD_of_wpS hf hb fun c₀ cs hu=>?_
  subst hu
  have hst:gv ⟨P,fn.ntmps,none,[],w,F,μ,m.obs,hr.out⟩ md ((⟨[],fw caps,m,[]⟩:FE).st y.mask) {tmps:=(⟨vs⟩:Array Value)++BI (fn.ntmps-(⟨vs⟩:Array Value).size) undef,defers:=[]} w c₀.mode:=
   gv.weak (jd y.mask caps m) ⟨F,μ,fK hr hv (by rw[hn];exact hlen),hmd⟩
  refine dH (g2 ⟨P,fn.ntmps,none,[],w,F,μ,m.obs,hr.out⟩ ⟨rfl,hn,fun _=>rfl⟩ c₀ cs _ w c₀.mode hst) ?_
  rintro ex a1 cs1 w1 ⟨rfl,u1,rfl,F1,μ1,hr1,hmd1⟩
  obtain⟨v,r1,r2⟩:=bZ (C:=Ctx.at ⟨P,fn.ntmps,none,[],w,F,μ,m.obs,hr.out⟩ []) hL hr1 (fn:=fn) (by rw[hres];exact hd)
  have hdef:a1.defers=[]:=hr1.defers
  cases stop with
  |false=>exact⟨hdef,u1,rfl,v,r1,v,F1,μ1,rfl,⟨hr1.hr,hr1.step,hr1.fr,hr1.col⟩,hmd1⟩
  |true=>exact⟨hdef,u1,rfl,v,r1,v,F1,μ1,rfl,⟨hr1.hr,hr1.step,hr1.fr,hr1.col⟩,hmd1⟩
 ·cases h
theorem fX.settle{w:World}{F:Nat→Nat→Prop}{μ:Nat→Option Nat}{σ:List Ob}{u:FrameMode}{md:Md} (h:fX w F μ σ u md):fX w F μ σ (Go.settle u) md.settle:=by
 cases md with
 |ret=>obtain rfl:u=.returning:=h;rfl
 |pan d=>obtain⟨v,rfl,hv⟩:=h;exact⟨v,rfl,hv⟩
 |rcv d=>obtain⟨v,rfl,hv⟩:=h;rfl
def LvF (C:Ctx) (dd:List DD) (E:List (Nat×DV)) (m:Mm) (a:Act) (w:World) (u:FrameMode) (md:Md):Prop:=
 ∃F μ,Rel0 (C.at dd) F μ ⟨E,m.obs⟩ a w∧fX w F μ m.obs u md∧∀d,md≠ .rcv d
theorem uv (md:Md) (d:DV):md.settle≠ .rcv d:=by cases md<;>simp[Md.settle]
theorem jG (hL:af P L) (hT:TabOk P T) (hc:cr P call){x:FX}{s:FE}:∀(dd:List DD) (md:Md) (m:Mm) (out:Out) (m':Mm),ix L T call x s dd md m=.ok out m'→aZ m→aZ m'
 | [],md,m,out,m',h,hm=>by
  cases md with
  |ret=>
   have h':oI L x.mask x.res ⟨s.l,s.p,m,[]⟩=.ok out m':=h
   rw[(jI (s:=⟨s.l,s.p,m,[]⟩) hm h').1];exact hm
  |pan d=>cases h;exact hm
  |rcv d=>cases h
 |.col D::r,md,m,out,m',h,hm=>by cases h
 |.fn f caps::r,md,m,out,m',h,hm=>by
  have h':(match l6 L T call f caps md m with
   |some (md',m')=>ix L T call x s r md' m'
   |none=>.no "defer")=.ok out m':=h
  split at h'<;>try cases h'
  rename_i md1 m1 h1
  exact jG hL hT hc r md1 m1 out m' h' (nI hL hT hc h1 hm).1
theorem lV{C:Ctx} (hP:C.P=P) (hL:af P L) (hT:TabOk P T) (hc:cr P call){fn:Func}{x:FX} (hres:fn.results.toList=x.res){s:FE}:∀(dd:List DD) (md:Md) (m:Mm) (out:Out) (m':Mm),ix L T call x s dd md m=.ok out m'→aZ m→
  ∀(a:Act) (w:World) (u:FrameMode),LvF C dd (a9 x.mask s) m a w u md→Leaves P fn a.tmps (di out m'.obs C.w0 C.F0 C.μ0 C.σ0) a.defers u w
 | [],md,m,out,m',h,hm=>by
  rintro a w u ⟨F,μ,hr,hmd,hne⟩
  have hd':a.defers=[]:=hr.defers
  rw[hd']
  cases md with
  |ret=>
   obtain rfl:u=.returning:=hmd
   have h':oI L x.mask x.res ⟨s.l,s.p,m,[]⟩=.ok out m':=h
   obtain⟨rfl,d,rfl,hd⟩:=jI (s:=⟨s.l,s.p,m,[]⟩) hm h'
   obtain⟨v,r1,r2⟩:=bZ (C:=C.at []) (by rw[show(C.at []).P=P from hP];exact hL) hr (fn:=fn) (by rw[hres];exact hd)
   rw[show(C.at []).P=P from hP] at r1
   exact⟨v,r1,F,μ,v,⟨hr.hr,hr.step,hr.fr,hr.col⟩,rfl,r2⟩
  |pan d=>
   obtain⟨v,rfl,hrep⟩:=hmd
   cases h
   exact⟨F,μ,v,⟨hr.hr,hr.step,hr.fr,hr.col⟩,rfl,hrep⟩
  |rcv d=>exact absurd rfl (hne d)
 |.col D::r,md,m,out,m',h,hm=>by cases h
 |.fn f caps::r,md,m,out,m',h,hm=>by
  rintro a w u ⟨F,μ,hr,hmd,hne⟩
  have h':(match l6 L T call f caps md m with
   |some (md',m')=>ix L T call x s r md' m'
   |none=>.no "defer")=.ok out m':=h
  split at h'<;>try cases h'
  rename_i md1 m1 h1
  obtain⟨g1,⟨y,g2⟩,md',rfl,g3⟩:=nI hL hT hc h1 hm
  obtain⟨d,ds,e1,⟨vs,e2,e3⟩,e4⟩:=hr.defers
  rw[e1]
  have hu:u≠ .run:=by
   cases md with
   |ret=>rw[show u=.returning from hmd];simp
   |pan d=>obtain⟨v,e,_⟩:=hmd;rw[e];simp
   |rcv d=>exact absurd rfl (hne d)
  subst e3
  refine⟨hu,.func f,⟨vs⟩,f,⟨vs⟩,rfl,?_,fun c cs hcm=>?_⟩
  ·simp only[invoke,B3]
   exact g2.enters _ w
  ·obtain⟨e,u',w',fr,⟨v,F',μ',rfl,haf,hmd'⟩,q1,q2,q3⟩:=g3 w F μ vs u hr.hr e2 hmd c cs hcm
   refine⟨_,u',w',fr,?_,q1,q2,q3⟩
   refine lV hP hL hT hc hres r md'.settle m1 out m' h' g1 {a with defers:=ds} w' (settle u') ⟨F',μ',?_,hmd'.settle,uv md'⟩
   exact⟨haf.hr,fun t=>(hr.env t).step haf.step,hr.step.trans haf.step,hr.fr.trans haf.fr,fun c b hb=>(haf.col c b hb).elim (hr.col c b) (fun q=>.inr (Bl hr.fr.size q)),hr.size,bS.step haf.step e4⟩
theorem wG (hL:af P L) (hT:TabOk P T):kq P L T:=by
 intro run call hrun hc f x args m m' out e s1 md g caps r hx hm hlen hr he hdd hlv
 have hcode:=hx.ok
 have hfn:=hx
 obtain⟨fn,hf,hb,hres,hn,hname⟩:=hx.fn
 obtain⟨hm1,hdo⟩:=hrun _ _ _ _ _ hr hcode hm
 refine⟨jG hL hT hc _ _ _ _ _ hlv hm1,fun vs w=>hfn.enters vs w,fun w F μ vs hr hv=>?_⟩
 let C:Ctx:=⟨P,fn.ntmps,none,[],w,F,μ,m.obs,hr.out⟩
 have hD:=hdo C ⟨rfl,hn,fun _=>rfl⟩
 have hlen2:args.length≤fn.ntmps:=by rw[hn];exact hlen
 have hwp:=(hD.weak (jd x.mask args m)) _ w ⟨F,μ,fK hr hv hlen2⟩
 refine calls_of_wp_defers hf hb (wp_mono ((wpIn_wide (n:=0)).1 hwp) fun ex a w' hq=>?_)
 have lv:∀u,LvF C s1.dd (a9 x.mask s1) s1.m a w' u md→Leaves P fn a.tmps (di out m'.obs w F μ m.obs) a.defers u w':=
  fun u h=>lV (C:=C) rfl hL hT hc hres s1.dd md s1.m out m' hlv hm1 a w' u h
 cases ex with
 |normal=>
  obtain⟨rfl,F',μ',hq⟩:=hq
  cases he
  exact lv .returning ⟨F',μ',hq,rfl,fun d h=>by cases h⟩
 |ret=>
  obtain⟨rfl,F',μ',hq⟩:=hq
  cases he
  exact lv .returning ⟨F',μ',hq,rfl,fun d h=>by cases h⟩
 |exit i=>obtain⟨rfl,_⟩:=hq;cases he
 |panic ch=>
  obtain⟨d,v,F',μ',rfl,rfl,h1,h2⟩:=hq
  cases he
  exact lv _ ⟨F',μ',h1,⟨v,rfl,h2⟩,fun d h=>by cases h⟩
 |goto l=>exact hq.elim
 |outgrown=>exact hq.elim
end
end
section
theorem kh (x:FX):∀c,bh x.round c=bh x c:=by
 intro c
 induction c with
 |region id ops dr=>cases dr<;>rfl
 |seq a b ia ib=>simp only[bh,ia,ib]
 |cond q a b ia ib=>simp only[bh,ia,ib]
 |block i b ib=>simp only[bh,ib]
 |loop b ib=>simp only[bh,ib]
 |scope b ib=>simp only[bh,ib]
 |rangeFunc g ps a b ia ib=>simp only[bh,ia,ib]
 |_=>rfl
section
variable{w:World}{F:Nat→Nat→Prop}{μ:Nat→Option Nat}{σ:List Ob}
theorem lH{n:Nat}:∀(ps:List Nat) (args:List DV) (p0 p:List (Nat×DV)) (vs:List Value) (tm:Array Value),rX n ps args p0=some p→bF w F μ σ args vs→tm.size=n→(∀t,Rep w F μ σ (lk p0 t) (tm.getD t undef))→
  vs.length=ps.length∧((ps.zip vs).foldl (fun t (q,v)=>t.setIfInBounds q v) tm).size=n∧∀t,Rep w F μ σ (lk p t) (((ps.zip vs).foldl (fun t (q,v)=>t.setIfInBounds q v) tm).getD t undef)
 | [],args,p0,p,vs,tm,h,hr,hs,he=>by
  cases args with
  |nil=>
   have h':some p0=some p:=h
   cases h'
   refine⟨by have:=hr.1;simpa using this.symm,?_,?_⟩
   ·simpa using hs
   ·simpa using he
  |cons d r=>cases h
 |t::ps,args,p0,p,vs,tm,h,hr,hs,he=>by
  cases args with
  |nil=>cases h
  |cons d r=>
   have h':bx (BR (B0 t) n) (rX n ps r (upb p0 t d)) none=some p:=h
   rw[bv] at h'
   split at h'<;>try cases h'
   rename_i hlt
   cases vs with
   |nil=>have:=hr.1;simp at this
   |cons v vr=>
    have hv:Rep w F μ σ d v:=hr.2 0 d v rfl rfl
    have hr':bF w F μ σ r vr:=⟨by have:=hr.1;simpa using this,fun i x y hx hy=>hr.2 (i+1) x y (by simpa using hx) (by simpa using hy)⟩
    obtain⟨g1,g2,g3⟩:=lH ps r (upb p0 t d) p vr (tm.setIfInBounds t v) h' hr' (by simpa using hs) (fun s=>by
     rw[l8,iT,A0,Bu]
     by_cases e:t=s
     ·subst e
      rw[if_pos rfl,if_pos rfl,if_pos (by omega)]
      exact hv
     ·rw[if_neg e,if_neg e,←A0]
      exact he s)
    refine⟨by simp[g1],?_,?_⟩
    ·simpa using g2
    ·simpa using g3
theorem mY (ps:List Nat) (vs:List Value) (tm:Array Value):((⟨ps⟩:Array Nat).zip (⟨vs⟩:Array Value)).foldl (fun tmps (t,a)=>tmps.setIfInBounds t a) tm=(ps.zip vs).foldl (fun tmps (t,a)=>tmps.setIfInBounds t a) tm:=by
 rw[←Array.foldl_toList,Array.toList_zip]
theorem dE{id:Nat}{st:LoopState}{q:Option Code}{f:FuncId}{ps:List Tmp}{asg bo:Code}{did:Nat}{ds:List DV} (hr:HR w F μ σ) (ho:σ[id]?=some (.oth (.loop st q f ps asg bo did) ds)):
  ∃r d fn vs,μ id=some r∧μ did=some d∧w.heap[r]?=some (.loop {state:=st,pending:=q,fn,tmps:=⟨vs⟩,params:=⟨ps⟩,assign:=asg,body:=bo,defers:=d})∧bF w F μ σ ds vs:=by
 obtain⟨_,vs,⟨r,d,fn,h1,h2,h3⟩,hl,hv⟩:=hr.obj _ _ ho
 exact⟨r,d,fn,vs,h1,h2,h3,hl,hv⟩
theorem dA{id r d:Nat}{fn:FuncId}{st st':LoopState}{q q':Option Code}{f:FuncId}{ps:List Tmp}{asg bo:Code}{did:Nat}{ds:List DV}{vs:List Value} (hr:HR w F μ σ) (ho:σ[id]?=some (.oth (.loop st q f ps asg bo did) ds))
  (h1:μ id=some r) (h2:μ did=some d) (h4:bF w F μ σ ds vs):
  HR (w.putObj r (.loop {state:=st',pending:=q',fn,tmps:=⟨vs⟩,params:=⟨ps⟩,assign:=asg,body:=bo,defers:=d})) F μ (σ.set id (.oth (.loop st' q' f ps asg bo did) ds))∧
  Step w F μ σ (w.putObj r (.loop {state:=st',pending:=q',fn,tmps:=⟨vs⟩,params:=⟨ps⟩,assign:=asg,body:=bo,defers:=d})) F μ (σ.set id (.oth (.loop st' q' f ps asg bo did) ds))∧
  Fr w μ (w.putObj r (.loop {state:=st',pending:=q',fn,tmps:=⟨vs⟩,params:=⟨ps⟩,assign:=asg,body:=bo,defers:=d})) μ:=by
 refine hr.turn (t':=.loop st' q' f ps asg bo did) _ ho h1 rfl (fun hst hb=>⟨fun i hi=>?_,vs,⟨r,d,fn,h1,h2,hb⟩,h4.1,fun i x v hx hv=>(h4.2 i x v hx hv).step hst⟩)
 obtain⟨t',es,g⟩:=(hr.obj _ _ ho).1 i hi
 obtain⟨o',ho',t2,ds2,rfl,_⟩:=hst.ext _ _ g
 exact⟨t2,ds2,ho'⟩
end
theorem rk{id:Nat}{e:XE}{m:Mm}{out:Out}{m':Mm} (h:endRound id e m=.ok out m'):∃st q fn ps asg bo did ds j,m.t.get id=some (.oth (.oth (.loop st q fn ps asg bo did) ds))∧mV e=some j∧out=.ret (.bool j.isNone)∧
  m'=⟨m.t.put id (.oth (.oth (.loop (if j.isNone then .ready else .done) j fn ps asg bo did) ds)),m.n⟩:=by
 unfold endRound at h
 split at h<;>try cases h
 rename_i st q fn ps asg bo did ds ho
 split at h<;>cases h
 ·rename_i hj
  exact⟨st,q,fn,ps,asg,bo,did,ds,none,ho,hj,rfl,rfl⟩
 ·rename_i c hj
  exact⟨st,q,fn,ps,asg,bo,did,ds,some c,ho,hj,rfl,rfl⟩
section
variable{P:Program}{L:Lay}{T:Nat→FT}
theorem wd (hT:TabOk P T):np P T:=by
 intro run hrun id args m out m' h hm
 unfold rM at h
 split at h<;>try cases h
 rename_i st0 q0 fn ps asg bo did ds ho
 split at h<;>try cases h
 rename_i x hx
 rw[a7] at h
 split at h<;>try cases h
 rename_i hca
 rw[a7] at h
 split at h<;>try cases h
 rename_i hcb
 split at h<;>try cases h
 rename_i p hp
 rw[aN,dB] at h
 split at h<;>try cases h
 rename_i hlen
 split at h<;>try cases h
 rename_i s1 hr1
 split at h<;>try cases h
 rename_i q1 f1 p1 a1 b1 d1 e1 ho1
 split at h<;>try cases h
 rename_i e s2 hr2
 obtain⟨st2,q2,f2,p2,a2,b2,d2,e2,j,ho2,hj,rfl,rfl⟩:=rk h
 obtain⟨hm1,hD1⟩:=hrun _ _ _ _ _ hr1 (by rw[kh];exact hca) hm
 have hput1:=hm1.put ho1 (x:=.oth (.oth (.loop .busy q1 f1 p1 a1 b1 d1) e1)) trivial
 obtain⟨hm2,hD2⟩:=hrun _ _ _ _ _ hr2 (by rw[kh];exact hcb) hput1.goodm
 have hput2:=hm2.put ho2 (x:=.oth (.oth (.loop (if j.isNone then .ready else .done) j f2 p2 a2 b2 d2) e2)) trivial
 refine⟨hput2.goodm,?_⟩
 intro o st gop xs ts hop hg hargs hob ro a w F μ K' Q hh he hk
 rw[hob] at hh he hk
 have hv:=he gop
 rw[hg] at hv
 obtain⟨r,d,fn',vs,k1,k2,k3,k4⟩:=dE hh (MmOf.oth hm ho)
 have hge:a.eval gop=.func (.yield r) #[] #[]:=by
  generalize a.eval gop=v at hv
  cases hv with
  |yld h _=>rw[k1] at h;cases h;rfl
 have hrm:bF w F μ m.obs args (xs.toList.map a.eval):=by
  subst hargs
  refine⟨by simp,fun i d v hd hv=>?_⟩
  rw[AQ] at hd hv
  cases hx:xs.toList[i]? with
  |none=>simp[hx] at hd
  |some x=>
   simp only[hx,AW,AX.injEq] at hd hv
   subst hd;subst hv
   exact he x
 have hvs:vs.length=x.n:=by rw[←k4.1];exact hlen
 obtain⟨l1,l2,l3⟩:=lH (w:=w) (F:=F) (μ:=μ) (σ:=m.obs) ps args (fw ds) p (xs.toList.map a.eval) ⟨vs⟩ hp hrm (by simpa using hvs) (fun t=>by
  rw[nP,db,if_pos (BD t),B6]
  rcases Bp t ds.length with ht|ht
  ·rw[AI ht,A8]
   have ht':t<vs.length:=by rw[←k4.1];exact ht
   have:(⟨vs⟩:Array Value).getD t undef=vs[t]:=by
    rw[A0]
    simp[ht']
   rw[this]
   exact k4.2 t _ _ (AI ht) (AI ht')
  ·rw[BA ht]
   exact .undef)
 have hsz:(xs.map a.eval).size=ps.length:=by simpa using l1
 have hmap:xs.map a.eval=⟨xs.toList.map a.eval⟩:=by apply BJ;simp
 have hrunop:(execOp a.eval o).run P w=.ok (.round r fn' ((ps.zip (xs.toList.map a.eval)).foldl (fun tmps (t,a)=>tmps.setIfInBounds t a) ⟨vs⟩) asg bo) w:=by
  unfold execOp
  rw[hop]
  dsimp only[resolve]
  rw[hge]
  simp only[Deferred.ofValue,Sem.run_bind,Sem.run_pure,Result.andThen_ok,invoke,B3]
  have:=run_yield (P:=P) (args:=xs.map a.eval) k3 hsz
  rw[hmap] at this⊢
  rw[this,mY]
 refine⟨fun _ _=>trivial,?_⟩
 show o.uponIn _ 0 P a K' Q ((o.semAt ro a.eval).run P w)
 rw[Oper.semAt_eq _ _ _ (by intro c hc;rw[hop] at hc;cases hc),hrunop,Oper.uponIn_round]
 refine⟨fun e=>(by cases e),?_⟩
 refine roundIn_of_wpIn (F:={Fence.wide with round:=ro}) trivial ?_
 let C:Ctx:=⟨P,x.n,some r,[],w,F,μ,m.obs,hh.out⟩
 have hC:CtxOk C P x.round.n x.round.rnd:=⟨rfl,rfl,fun e=>by cases e⟩
 have hrel:Rel (C.at []) ((⟨[],p,m,[]⟩:FE).st x.mask) {tmps:=(ps.zip (xs.toList.map a.eval)).foldl (fun tmps (t,a)=>tmps.setIfInBounds t a) ⟨vs⟩,defers:=[]} w:=by
  refine Rel.weak (st:=⟨p,m.obs⟩) ⟨F,μ,hh,l3,Step.refl ..,Fr.refl ..,fun _ _ h=>.inl h,l2,rfl⟩ ⟨rfl,fun t=>?_⟩
  show lk (a9 x.mask ⟨[],p,m,[]⟩) t=.undef∨lk (a9 x.mask ⟨[],p,m,[]⟩) t=lk p t
  rw[bm]
  unfold rd
  rw[a7,cS,cS]
  split
  ·exact .inr rfl
  ·exact .inl rfl
 refine wpIn_mono (hD1 C hC _ w hrel) fun ex a1' w1 q=>?_
 cases ex with
 |exit i=>cases q.1
 |ret=>cases q.1
 |panic ch=>obtain⟨_,_,_,_,h1,_⟩:=q;cases h1
 |goto l=>exact q.elim
 |outgrown=>exact q.elim
 |normal=>
  obtain⟨_,F1,μ1,hq⟩:=q
  obtain⟨r1,dd1,fn1,vs1,n1,n2,n3,n4⟩:=dE hq.hr (MmOf.oth hm1 ho1)
  have hr1':r1=r:=by
   have:=hq.step.othsame id _ _ (MmOf.oth hm ho)
   rw[n1] at this
   rw[show C.μ0=μ from rfl,k1] at this
   exact AX.inj this
  subst hr1'
  obtain⟨t1,t2,t3⟩:=dA (fn:=fn1) (st':=.busy) (q':=q1) hq.hr (MmOf.oth hm1 ho1) n1 n2 n4
  rw[show(s1.st x.round.mask).ob.set id (.oth (.loop .busy q1 f1 p1 a1 b1 d1) e1)=(⟨s1.m.t.put id (.oth (.oth (.loop .busy q1 f1 p1 a1 b1 d1) e1)),s1.m.n⟩:Mm).obs from hput1.obs] at t1 t2
  refine⟨_,run_beginRound n3 rfl,?_⟩
  have hrel2:Rel (C.at s1.dd) ((⟨s1.l,s1.p,⟨s1.m.t.put id (.oth (.oth (.loop .busy q1 f1 p1 a1 b1 d1) e1)),s1.m.n⟩,s1.dd⟩:FE).st x.mask) a1' _:=
   ⟨F1,μ1,t1,fun t=>(hq.env t).step t2,hq.step.trans t2,hq.fr.trans t3,hq.col,hq.size,bS.step t2 hq.defers⟩
  refine wpIn_mono (hD2 C hC _ _ hrel2) fun ex a2' w2 q=>?_
  have fin:∀{F2:Nat→Nat→Prop}{μ2:Nat→Option Nat}{a2':Act}{w2:World},Rel0 (C.at s2.dd) F2 μ2 (s2.st x.mask) a2' w2→
    ∃v w',(Instr.endRound r1 j).run P w2=.ok v w'∧K' (a.put o.dst v) w':=by
   intro F2 μ2 a2' w2 hq2
   obtain⟨r2,dd2,fn2,vs2,m1,m2,m3,m4⟩:=dE hq2.hr (MmOf.oth hm2 ho2)
   have hr2':r2=r1:=by
    have:=hq2.step.othsame id _ _ (MmOf.oth hm ho)
    rw[m1] at this
    rw[show C.μ0=μ from rfl,k1] at this
    exact AX.inj this
   subst hr2'
   obtain⟨u1,u2,u3⟩:=dA (fn:=fn2) (st':=if j.isNone then .ready else .done) (q':=j) hq2.hr (MmOf.oth hm2 ho2) m1 m2 m4
   rw[show(s2.st x.mask).ob.set id (.oth (.loop (if j.isNone then .ready else .done) j f2 p2 a2 b2 d2) e2)=(⟨s2.m.t.put id (.oth (.oth (.loop (if j.isNone then .ready else .done) j f2 p2 a2 b2 d2) e2)),s2.m.n⟩:Mm).obs from hput2.obs] at u1 u2
   exact⟨_,_,run_endRound j m3,hk _ _ F2 μ2 ⟨u1,hq2.step.trans u2,hq2.fr.trans u3,hq2.col⟩ .bool⟩
  cases ex with
  |normal=>
   obtain⟨rfl,F2,μ2,hq2⟩:=q
   cases hj
   exact fin hq2
  |ret=>
   obtain⟨rfl,F2,μ2,hq2⟩:=q
   cases hj
   exact fin hq2
  |exit i=>
   obtain⟨rfl,F2,μ2,hq2⟩:=q
   cases hj
   exact fin hq2
  |panic ch=>obtain⟨d,v,F2,μ2,rfl,_⟩:=q;cases hj
  |goto l=>exact q.elim
  |outgrown=>exact q.elim
end
end
section
theorem kw (mask:Nat) (s:FE) (n:Nat):(dS mask n s).length=n∧∀i,i<n→(dS mask n s)[i]?=some (rd mask s i):=by
 have key:∀n t,(@Nat.rec (fun _=>Nat→List DV) (fun _=> []) (fun _ ih t=>rd mask s t::ih (B0 t)) n t:List DV)=(Dz t n).map (rd mask s):=by
  intro n
  induction n with
  |zero=>intro t;rfl
  |succ n ih=>
   intro t
   show rd mask s t::_=_
   rw[ih,DP]
   rfl
 have h:dS mask n s=(Dz 0 n).map (rd mask s):=key n 0
 rw[h]
 refine⟨by simp,fun i hi=>?_⟩
 simp[hi]
section
variable{P:Program}{L:Lay}{T:Nat→FT}
theorem ug{call:DV→List DV→Mm→CR}{x:FX}{f:FuncId}{caps:List DV}{ps:List Nat}{asg bo:Code}{s s':FE}{e:XE}{g:DV} (h:oG call x g ps asg bo s=.ok e s'):
  ∃f caps,g=.fn f caps∧x.rnd=false∧∃out m,call (.fn f caps) [.yld (B0 s.m.n)] (dj (dj s.m (.oth (.oth .defd []))) (.oth (.oth (.loop .ready none x.fid ps asg bo s.m.n) (dS x.mask x.n s))))=.ok out m∧
   ((∃d st q f1 p1 a1 b1 d1 e1,out=.ret d∧m.t.get (B0 s.m.n)=some (.oth (.oth (.loop st q f1 p1 a1 b1 d1) e1))∧st≠ .busy∧mV e=some q∧
    s'=⟨[],s.p,⟨m.t.put (B0 s.m.n) (.oth (.oth (.loop .exhausted q f1 p1 a1 b1 d1) e1)),m.n⟩,.col s.m.n::s.dd⟩)∨
   (∃d,out=.pan d∧e=.panic d∧s'=⟨[],s.p,m,.col s.m.n::s.dd⟩)):=by
 unfold oG at h
 split at h
 ·rename_i f caps
  refine⟨f,caps,rfl,?_⟩
  rw[a7] at h
  split at h<;>try cases h
  rename_i hr
  refine⟨by simpa using hr,?_⟩
  split at h
  ·rename_i d m hk
   refine⟨_,m,hk,.inl ?_⟩
   split at h<;>try cases h
   rename_i st q f1 p1 a1 b1 d1 e1 ho
   have hne:∀{r:RR},(match st with|.busy=>RR.no "rangeFunc" |_=>r)=.ok e s'→st≠ .busy∧r=.ok e s':=by
    intro r h
    cases st<;>first|exact⟨by simp,h⟩|cases h
   obtain⟨hb,h⟩:=hne h
   split at h<;>cases h
   ·exact⟨d,st,none,f1,p1,a1,b1,d1,e1,rfl,ho,hb,rfl,rfl⟩
   ·exact⟨d,st,some .ret,f1,p1,a1,b1,d1,e1,rfl,ho,hb,rfl,rfl⟩
   ·rename_i i;exact⟨d,st,some (.exit i),f1,p1,a1,b1,d1,e1,rfl,ho,hb,rfl,rfl⟩
  ·rename_i d m hk
   cases h
   exact⟨_,m,hk,.inr ⟨d,rfl,rfl,rfl⟩⟩
  ·cases h
 ·cases h
theorem x9:pL P L T:=by
 intro run hrun hcall x g ps asg bo s s' e h hm
 obtain⟨f,caps,hg,hrnd,out,m2,hk,hend⟩:=ug (f:=0) (caps:=[]) h
 rw[jw,cJ] at hg
 have hp1:=MmOf.push hm (x:=.oth (.oth .defd [])) trivial
 have hp2:=hp1.push (x:=.oth (.oth (.loop .ready none x.fid ps.toList asg bo s.m.n) (dS x.mask x.n s))) trivial
 have hn:s.m.n=s.m.obs.length:=MmOf.n hm
 obtain⟨hm2,_,hok⟩:=hcall _ _ _ _ _ hk hp2.goodm
 have hok:=hok f caps rfl
 have e2:=hp2.obs
 change _=(dj (dj s.m (.oth (.oth .defd []))) (.oth (.oth (.loop .ready none x.fid ps.toList asg bo s.m.n) (dS x.mask x.n s)))).obs at e2
 rw[←e2] at hok
 have hgood:aZ s'.m:=by
  rcases hend with⟨d,st,q,f1,p1,a1,b1,d1,e1,rfl,ho,hb,hj,rfl⟩|⟨d,rfl,rfl,rfl⟩
  ·exact(hm2.put ho (x:=.oth (.oth (.loop .exhausted q f1 p1 a1 b1 d1) e1)) trivial).goodm
  ·exact hm2
 refine⟨hgood,fun C hC a w hr=>?_⟩
 have hrd:C.rd=none:=hC.rd hrnd
 have hfe:C.fe=Fence.wide:=by
  show{Fence.wide with round:=C.rd}=Fence.wide
  rw[hrd];rfl
 have hCP:C.P=P:=hC.P
 rw[hCP,hfe]
 obtain⟨F,μ,hr⟩:=hr
 have hv:=bb hr g
 rw[show(s.st x.mask).env=a9 x.mask s from rfl,hg] at hv
 have hcap:∃vs:List Value,a.eval g=.func (.func f) #[] ⟨vs⟩∧bF w F μ s.m.obs caps vs:=by
  generalize a.eval g=v at hv
  cases hv with
  |fn hl hh=>exact⟨_,rfl,hl,hh⟩
 obtain⟨cvs,hge,hcr⟩:=hcap
 refine wpIn_rangeFunc fun fn _=>?_
 have hh:HR w F μ s.m.obs:=hr.hr
 obtain⟨u1,u2,u3⟩:=hh.pushAny (.deferred (some [])) (.oth .defd []) fun hst h1 h2=>⟨fun i hi=>by simp[OT.refs] at hi,[],⟨_,_,h1,h2,fun _=>rfl⟩,rfl,fun i d v hd _=>by simp at hd⟩
 obtain⟨w1,hw1⟩:∃w1,w1=w.alloc (.deferred (some [])):=⟨_,rfl⟩
 obtain⟨μ1,hμ1⟩:∃μ1,μ1=bd μ s.m.obs.length w.heap.size:=⟨_,rfl⟩
 rw[←hw1,←hμ1] at u1 u2 u3
 have hs1:w1.heap.size=w.heap.size+1:=by rw[hw1];simp
 have hd1:μ1 s.m.n=some w.heap.size:=by rw[hμ1,hn];simp[bd]
 obtain⟨v1,v2,v3⟩:=u1.pushAny (.loop {state:=.ready,pending:=none,fn,tmps:=a.tmps,params:=ps,assign:=asg,body:=bo,defers:=w.heap.size}) (.oth (.loop .ready none x.fid ps.toList asg bo s.m.n) (dS x.mask x.n s)) fun hst h1 h2=>by
  refine⟨fun i hi=>?_,a.tmps.toList,⟨_,w.heap.size,fn,h1,?_,h2⟩,?_,fun i d v hd hv=>?_⟩
  ·simp only[OT.refs,BX] at hi
   subst hi
   refine⟨.defd,[],?_⟩
   rw[aD,if_neg (by simp;omega),aD,if_pos hn]
  ·have:bd μ1 (s.m.obs++[Ob.oth .defd []]).length w1.heap.size s.m.n=μ1 s.m.n:=by
    simp only[bd]
    rw[if_neg (by simp;omega)]
   rw[this];exact hd1
  ·rw[(kw x.mask s x.n).1]
   have:=hr.size
   rw[show(C.at s.dd).n=C.n from rfl,hC.n] at this
   simpa using this.symm
  ·have hi:i<x.n:=by
    have:=(AH.1 hd).1
    rwa [(kw x.mask s x.n).1] at this
   rw[(kw x.mask s x.n).2 i hi] at hd
   cases hd
   have h0:=((hr.env i).step u2).step hst
   rw[show(s.st x.mask).env=a9 x.mask s from rfl,bm] at h0
   have:a.tmps.getD i undef=v:=by
    rw[A0,←Cf,hv]
    rfl
   rw[this] at h0
   exact h0
 obtain⟨w2,hw2⟩:∃w2,w2=w1.alloc (.loop {state:=.ready,pending:=none,fn,tmps:=a.tmps,params:=ps,assign:=asg,body:=bo,defers:=w.heap.size}):=⟨_,rfl⟩
 obtain⟨μ2,hμ2⟩:∃μ2,μ2=bd μ1 (s.m.obs++[Ob.oth .defd []]).length w1.heap.size:=⟨_,rfl⟩
 rw[←hw2,←hμ2] at v1 v2 v3
 have hl2:μ2 (B0 s.m.n)=some (w.heap.size+1):=by rw[hμ2];simp[bd,hn,hs1]
 have hd2:μ2 s.m.n=some w.heap.size:=by
  rw[hμ2]
  simp only[bd]
  rw[if_neg (by simp;omega)];exact hd1
 have hob2:((s.m.obs++[Ob.oth .defd []])++[Ob.oth (.loop .ready none x.fid ps.toList asg bo s.m.n) (dS x.mask x.n s)])[B0 s.m.n]?=some (Ob.oth (.loop .ready none x.fid ps.toList asg bo s.m.n) (dS x.mask x.n s)):=by
  rw[aD,if_pos (by simp;omega)]
 have hobd:((s.m.obs++[Ob.oth .defd []])++[Ob.oth (.loop .ready none x.fid ps.toList asg bo s.m.n) (dS x.mask x.n s)])[s.m.n]?=some (Ob.oth .defd []):=by
  rw[aD,if_neg (by simp;omega),aD,if_pos hn]
 refine⟨w.heap.size+1,[{target:=.collected w.heap.size,args:= #[]}],w2,{target:=.fn (.func f) ⟨cvs⟩,args:= #[.func (.yield (w.heap.size+1)) #[] #[]]},w2,f, #[.func (.yield (w.heap.size+1)) #[] #[]]++⟨cvs⟩,w2,?_,?_,fun _ _=>trivial,?_,fun e=>(by cases e),?_⟩
 ·rw[hw2,hw1];exact run_enterLoop_outer _ _ _ _ _
 ·simp only[resolve,hge]
  simp[go_sem]
 ·simp only[invoke]
  exact hok.enters _ _
 ·refine(callsIn_wide (n:=0)).2 ?_
  have hargs:bF w2 F μ2 ((s.m.obs++[Ob.oth .defd []])++[Ob.oth (.loop .ready none x.fid ps.toList asg bo s.m.n) (dS x.mask x.n s)]) ([.yld (B0 s.m.n)]++caps) ([.func (.yield (w.heap.size+1)) #[] #[]]++cvs):=by
   refine bF.append ⟨rfl,fun i d v hd hv=>?_⟩ ((hcr.step u2).step v2)
   rcases i with _|i<;>simp at hd hv
   subst hd;subst hv
   exact .yld hl2 ⟨_,_,hob2,rfl⟩
  have hc:=hok.calls w2 F μ2 _ v1 hargs
  rw[show(#[.func (.yield (w.heap.size+1)) #[] #[]]++⟨cvs⟩:Array Value)=⟨[.func (.yield (w.heap.size+1)) #[] #[]]++cvs⟩ by apply BJ;simp]
  refine hc.mono fun ee w3 he=>?_
  obtain⟨F3,μ3,v,haf,hout⟩:=he
  have hl3:μ3 (B0 s.m.n)=some (w.heap.size+1):=(haf.step.othsame _ _ _ hob2).trans hl2
  have hrel3:Rel0 (C.at (.col s.m.n::s.dd)) F3 μ3 ⟨a9 x.mask s,m2.obs⟩ {a with defers:=[{target:=.collected w.heap.size,args:= #[]}]++a.defers} w3:=by
   have st3:=(u2.trans v2).trans haf.step
   refine⟨haf.hr,fun t=>(hr.env t).step st3,hr.step.trans st3,hr.fr.trans ((u3.trans v3).trans haf.fr),fun c b hb=>(haf.col c b hb).elim (hr.col c b) (fun q=>.inr (Bl (hr.fr.trans (u3.trans v3)).size q)),hr.size,?_⟩
   refine⟨_,a.defers,rfl,?_,bS.step st3 hr.defers⟩
   obtain⟨o',ho',t',ds',rfl,hk'⟩:=haf.step.ext _ _ hobd
   obtain rfl:=OT.kind_defd hk'
   exact⟨w.heap.size,ds',(haf.step.othsame _ _ _ hobd).trans hd2,ho',rfl⟩
  have hwk:∀{ob:List Ob}{m:Mm}{dd:List DD},ob=m.obs→Weak ⟨a9 x.mask s,ob⟩ ((⟨[],s.p,m,dd⟩:FE).st x.mask):=by
   intro ob m dd hob
   refine⟨hob.symm,fun t=>?_⟩
   show lk (a9 x.mask ⟨[],s.p,m,dd⟩) t=.undef∨lk (a9 x.mask ⟨[],s.p,m,dd⟩) t=lk (a9 x.mask s) t
   rw[bm,bm]
   unfold rd
   rw[a7,a7]
   split
   ·exact .inr rfl
   ·exact .inl rfl
  rcases hend with⟨d,st,q,f1,p1,a1,b1,d1,e1,rfl,ho,hb,hj,rfl⟩|⟨d,rfl,rfl,rfl⟩
  ·obtain⟨rfl,hrep⟩:=hout
   have hput:=hm2.put ho (x:=.oth (.oth (.loop .exhausted q f1 p1 a1 b1 d1) e1)) trivial
   obtain⟨r1,dd1,fn1,vs1,n1,n2,n3,n4⟩:=dE haf.hr (MmOf.oth hm2 ho)
   rw[hl3] at n1
   obtain rfl:=AX.inj n1
   obtain⟨t1,t2,t3⟩:=dA (fn:=fn1) (st':=.exhausted) (q':=q) haf.hr (MmOf.oth hm2 ho) hl3 n2 n4
   have hobs:=hput.obs
   dsimp only[FO.ob] at hobs
   rw[hobs] at t1 t2
   have hrel4:Rel (C.at (.col s.m.n::s.dd)) ((⟨[],s.p,⟨m2.t.put (B0 s.m.n) (.oth (.oth (.loop .exhausted q f1 p1 a1 b1 d1) e1)),m2.n⟩,.col s.m.n::s.dd⟩:FE).st x.mask) {a with defers:=[{target:=.collected w.heap.size,args:= #[]}]++a.defers} _:=
    Rel.weak (st:=⟨a9 x.mask s,_⟩) ⟨F3,μ3,t1,fun t=>(hrel3.env t).step t2,hrel3.step.trans t2,hrel3.fr.trans t3,hrel3.col,hrel3.size,bS.step t2 hrel3.defers⟩ (hwk rfl)
   refine⟨q,_,run_endLoop n3 hb,?_⟩
   cases e with
   |normal=>cases hj;exact⟨rfl,hrel4⟩
   |ret=>cases hj;exact wpIn_ret ⟨rfl,hrel4⟩
   |exit i=>cases hj;exact wpIn_exit ⟨rfl,hrel4⟩
   |panic d=>cases hj
  ·obtain⟨rfl,hrep⟩:=hout
   exact⟨d,v,F3,μ3,rfl,rfl,hrel3.weak (hwk rfl),hrep⟩
end
end
section
theorem pn{f:Nat→Bool} (env:List (Nat×DV)) (t:Nat):lk (env.filter fun p=>f p.1) t=if f t=true then lk env t else .undef:=by
 by_cases h:f t=true
 ·rw[if_pos h];exact eE (f:=f) h env
 ·rw[if_neg h]
  refine po ?_
  rintro⟨d,hd⟩
  have:=(CA.1 hd).2
  exact h this
section
variable (C:Ctx) (L:Lay) (ops:Array Oper) (φ:List (List Ob)) (a:Nat) (I:List DI) (K:XE→St→Prop) (env0:List (Nat×DV))
def cE (E:Nat→List (Nat×DV)) (k:Nat):Prop:=
 k≠a∧∃o d,ops[k]?=some o∧gd ops (rst (E k) (I.getD k .none).rd) o=some true∧(I.getD k .none).eff=true∧
  bK C.P o ⟨rst (E k) (I.getD k .none).rd,φ.getD (aM I (fun _=>true) k) []⟩ (.pan d) (φ.getD (aM I (fun _=>true) k+1) [])∧K (.panic d) ⟨mG (ops.toList.map (·.dst)) env0,φ.getD (aM I (fun _=>true) k+1) []⟩
def sV (ds:Nat→DV) (k:Nat):Prop:=
 k=a∧∃o t ti,ops[k]?=some o∧o.guard=none∧o.op=.alloc t∧L t=some ti∧ti.zero.cells.length=ti.k∧(I.getD k .none).eff=true∧
  φ.getD (aM I (fun _=>true) k+1) []=φ.getD (aM I (fun _=>true) k) []++[.arr t ti.k [ti.zero]]∧ds k=.ptr (φ.getD (aM I (fun _=>true) k) []).length 1 0 0
def kK (E:Nat→List (Nat×DV)) (ds:Nat→DV) (k:Nat):Prop:=
 k≠a∧∃o,ops[k]?=some o∧
  ((gd ops (rst (E k) (I.getD k .none).rd) o=some false∧ds k=.skip∧((I.getD k .none).eff=true→φ.getD (aM I (fun _=>true) k+1) []=φ.getD (aM I (fun _=>true) k) []))∨
  (gd ops (rst (E k) (I.getD k .none).rd) o=some true∧(I.getD k .none).eff=true∧bK C.P o ⟨rst (E k) (I.getD k .none).rd,φ.getD (aM I (fun _=>true) k) []⟩ (.ret (ds k)) (φ.getD (aM I (fun _=>true) k+1) []))∨
  (gd ops (rst (E k) (I.getD k .none).rd) o=some true∧(I.getD k .none).eff=false∧∀q∈(I.getD k .none).ph,bK C.P o ⟨rst (E k) (I.getD k .none).rd,φ.getD q []⟩ (.ret (ds k)) (φ.getD q [])))
def Av (D:DI) (i p:Nat) (o:Oper) (env:List (Nat×DV)) (last:Bool) (next:DV→Prop):Prop:=
 if i=a then ∃t ti,o.guard=none∧o.op=.alloc t∧L t=some ti∧ti.zero.cells.length=ti.k∧D.eff=true∧φ.getD (p+1) []=φ.getD p []++[.arr t ti.k [ti.zero]]∧next (.ptr (φ.getD p []).length 1 0 0)
 else match gd ops (rst env D.rd) o with
 |some false=>(D.eff=true→φ.getD (p+1) []=φ.getD p [])∧next .skip
 |some true=>
  if D.eff=true then ∃out,bK C.P o ⟨rst env D.rd,φ.getD p []⟩ out (φ.getD (p+1) [])∧match out with
   |.ret d=>next d
   |.pan d=>last=true∧K (.panic d) ⟨mG (ops.toList.map (·.dst)) env0,φ.getD (p+1) []⟩
  else ∃d,(∀q∈D.ph,bK C.P o ⟨rst env D.rd,φ.getD q []⟩ (.ret d) (φ.getD q []))∧next d
 |none=>False
def fb:List DI→Nat→Nat→List Oper→List (Nat×DV)→Prop
 |_,_,p,[],env=>K .normal ⟨env,φ.getD p []⟩
 | [],_,_,_::_,_=>False
 |D::I,i,p,o::rest,env=>Av C L ops φ a K env0 D i p o env rest.isEmpty fun d=>fb I (i+1) (if D.eff then p+1 else p) rest (upo env o.dst d)
end
theorem sY{C:Ctx}{L:Lay}{ops:Array Oper}{φ:List (List Ob)}{a:Nat}{I:List DI}{K:XE→St→Prop}{env0:List (Nat×DV)}:∀(l:List Oper) (i:Nat) (env:List (Nat×DV)) (I':List DI) (p:Nat),
  i≤ops.size→ops.toList.drop i=l→I.drop i=I'→p=aM I (fun _=>true) i→fb C L ops φ a K env0 I' i p l env→
  ∃(E:Nat→List (Nat×DV)) (ds:Nat→DV),E i=env∧(∀k,i≤k→k<ops.size→E (k+1)=upo (E k) (aP ops k) (ds k)∧(sV L ops φ a I ds k∨kK C ops φ a I E ds k∨cE C ops φ a I K env0 E k))∧
   (K .normal ⟨E ops.size,φ.getD (aM I (fun _=>true) ops.size) []⟩∨∃k,i≤k∧k<ops.size∧cE C ops φ a I K env0 E k):=by
 intro l
 induction l with
 |nil=>
  intro i env I' p hi hl _ hp h
  have:ops.size≤i:=by
   have:=congrArg Cr hl
   simp at this
   omega
  obtain rfl:i=ops.size:=by omega
  refine⟨fun _=>env,fun _=>.undef,rfl,fun k a b=>by omega,.inl ?_⟩
  have:fb C L ops φ a K env0 I' ops.size p [] env=K .normal ⟨env,φ.getD p []⟩:=by cases I'<;>rfl
  rw[this,hp] at h
  exact h
 |cons o rest ih=>
  intro i env I' p hi hl hI hp h
  cases hI':I' with
  |nil=>rw[hI'] at h;exact h.elim
  |cons D J=>
   rw[hI'] at h hI
   have hlt:i<ops.size:=by
    have:=congrArg Cr hl
    simp at this
    omega
   have ho:ops[i]?=some o:=by
    have:=congrArg Di hl
    rw[Cz] at this
    simpa using this
   have hr:ops.toList.drop (i+1)=rest:=by
    have:=congrArg DR hl
    rwa [C4] at this
   have hD:I.getD i .none=D:=by
    have:=congrArg Di hI
    rw[Cz] at this
    simp only[List.head?_cons] at this
    rw[AZ,this]
    rfl
   have hJ:I.drop (i+1)=J:=by
    have:=congrArg DR hI
    rwa [C4] at this
   have hda:aP ops i=o.dst:=by simp[aP,ho]
   simp only[fb,Av] at h
   have go:∀d,fb C L ops φ a K env0 J (i+1) (if D.eff=true then p+1 else p) rest (upo env o.dst d)→(∀(E:Nat→List (Nat×DV)) (ds:Nat→DV),E i=env→ds i=d→sV L ops φ a I ds i∨kK C ops φ a I E ds i)→
     ∃(E:Nat→List (Nat×DV)) (ds:Nat→DV),E i=env∧(∀k,i≤k→k<ops.size→E (k+1)=upo (E k) (aP ops k) (ds k)∧(sV L ops φ a I ds k∨kK C ops φ a I E ds k∨cE C ops φ a I K env0 E k))∧
      (K .normal ⟨E ops.size,φ.getD (aM I (fun _=>true) ops.size) []⟩∨∃k,i≤k∧k<ops.size∧cE C ops φ a I K env0 E k):=by
    intro d hw hret
    obtain⟨E,ds,h0,h1,h2⟩:=ih (i+1) _ J _ (by omega) hr hJ (by
     simp only[aM,hD,Dc,←hp]
     split<;>rfl) hw
    have e1:∀k,i<k→(fun k=>if k=i then env else E k) k=E k:=fun k hk=>if_neg (by omega)
    have e2:∀k,i<k→(fun k=>if k=i then d else ds k) k=ds k:=fun k hk=>if_neg (by omega)
    have pan:∀k,i<k→cE C ops φ a I K env0 E k→cE C ops φ a I K env0 (fun k=>if k=i then env else E k) k:=by
     intro k hk hp
     unfold cE
     rw[e1 k hk]
     exact hp
    refine⟨fun k=>if k=i then env else E k,fun k=>if k=i then d else ds k,if_pos rfl,fun k hk hk'=>?_,?_⟩
    ·rcases Cu hk with rfl|hlt'
     ·refine⟨?_,(hret (fun k=>if k=i then env else E k) (fun k=>if k=i then d else ds k) (if_pos rfl) (if_pos rfl)).imp (fun q=>q) (fun q=>.inl q)⟩
      rw[e1 _ (by omega),h0]
      simp[hda]
     ·obtain⟨a,b⟩:=h1 k hlt' hk'
      refine⟨?_,b.imp (fun q=>?_) (fun b=>b.imp (fun q=>?_) (pan k hlt'))⟩
      ·rw[e1 _ (by omega),e1 _ hlt',e2 _ hlt',a]
      ·unfold sV
       rw[e2 k hlt']
       exact q
      ·unfold kK
       rw[e1 k hlt',e2 k hlt']
       exact q
    ·refine h2.imp (fun q=>?_) (fun⟨k,a,b,c⟩=>⟨k,by omega,b,pan k a c⟩)
     rw[e1 _ hlt]
     exact q
   split at h
   ·rename_i hia
    obtain⟨t,ti,q1,q2,q3,q4,q5,q6,q7⟩:=h
    refine go _ q7 fun E ds he hd=>.inl ⟨hia,o,t,ti,ho,q1,q2,q3,q4,by rw[hD];exact q5,?_,?_⟩
    ·rw[←hp];exact q6
    ·rw[hd,←hp]
   ·rename_i hia
    split at h
    ·rename_i hg
     refine go _ h.2 fun E ds he hd=>.inr ⟨hia,o,ho,.inl ?_⟩
     rw[he,hd,hD,←hp]
     exact⟨hg,rfl,h.1⟩
    ·rename_i hg
     split at h
     ·rename_i hE
      obtain⟨out,hdo,hm⟩:=h
      cases out with
      |ret d=>
       refine go d (by rw[if_pos hE];exact hm) fun E ds he hd=>.inr ⟨hia,o,ho,.inr (.inl ?_)⟩
       rw[he,hd,hD,←hp]
       exact⟨hg,hE,hdo⟩
      |pan d=>
       replace hm:rest.isEmpty=true∧K (.panic d) ⟨mG (ops.toList.map (·.dst)) env0,φ.getD (p+1) []⟩:=hm
       have hrest:rest=[]:=by simpa using hm.1
       rw[hrest] at hr
       have hsz:ops.size≤i+1:=by
        have:=congrArg Cr hr
        simp at this
        omega
       have hpan:cE C ops φ a I K env0 (fun k=>if k≤i then env else upo env o.dst .undef) i:=by
        refine⟨hia,o,d,ho,?_⟩
        simp only[AU,if_true,hD,←hp]
        exact⟨hg,hE,hdo,hm.2⟩
       refine⟨fun k=>if k≤i then env else upo env o.dst .undef,fun _=>.undef,if_pos (AU _),fun k a b=>?_,.inr ⟨i,AU _,hlt,hpan⟩⟩
       obtain rfl:k=i:=by omega
       refine⟨?_,.inr (.inr hpan)⟩
       dsimp only
       rw[if_neg (by omega),if_pos (AU _),hda]
     ·rename_i hE
      obtain⟨d,hdo,hm⟩:=h
      refine go d (by rw[if_neg hE];exact hm) fun E ds he hd=>.inr ⟨hia,o,ho,.inr (.inr ?_)⟩
      rw[he,hd,hD]
      exact⟨hg,by simpa using hE,hdo⟩
    ·exact h.elim
end
section
def bQ (I:List DI) (f:Nat→Bool) (a:Nat):Bool:=(Bs a).all fun k=>!((I.getD k .none).eff)||f k
theorem bE{I:List DI}{f:Nat→Bool}{a:Nat}:bQ I f a=true↔∀k,k<a→(I.getD k .none).eff=true→f k=true:=by
 simp only[bQ,AS,Cw,Cs,Cy]
 refine forall_congr' fun k=>forall_congr' fun _=>?_
 cases(I.getD k .none).eff<;>simp
def vis (I:List DI) (f:Nat→Bool) (a:Nat):Nat→Bool:=fun j=>f j&&(!(decide (j=a))||bQ I f a)
def gU (I:List DI) (f:Nat→Bool) (a:Nat):Prop:=f a=true∧bQ I f a=false
section
variable{I:List DI}
theorem dR{f:Nat→Bool}{a j:Nat} (h:j≠a):vis I f a j=f j:=by simp[vis,h]
theorem fu{f:Nat→Bool}{a:Nat}:vis I f a a=(f a&&bQ I f a):=by simp[vis]
theorem cY{f:Nat→Bool}{a j:Nat} (h:f j=false):vis I f a j=false:=by simp[vis,h]
end
section
variable{w:World}{F:Nat→Nat→Prop}{μ:Nat→Option Nat}{σ:List Ob}
theorem HR.adopt (hr:HR w F μ σ){b t k:Nat}{cur:Array Value}{fr:Nat×Nat}{xs:List DV} (hb:w.heap[b]?=some (.cells cur t fr)) (hfo:kr fr cur.size k) (hn:∀id,μ id≠some b) (hF:∀c,¬ F c b) (hk:∀y∈xs,y.cells.length=k)
  (hc:∀(j i:Nat) (y d:DV),xs[j]?=some y→y.cells[i]?=some d→∃v,cur[j*k+i]?=some v∧Rep w F μ σ d v):
  HR w F (bd μ σ.length b) (σ++[.arr t k xs])∧Step w F μ σ w F (bd μ σ.length b) (σ++[.arr t k xs]):=by
 have hst:Step w F μ σ w F (bd μ σ.length b) (σ++[.arr t k xs]):=by
  refine⟨fun _ _ _=>rfl,fun _ _ h=>h,fun i o h=>⟨o,?_,Ob.ext_refl o⟩,fun i t' k' zs us h h' he=>?_,fun i tt es h=>?_⟩
  ·have:=(AH.1 h).1
   rw[aD,if_neg (by omega)];exact h
  ·have hi:=(AH.1 h).1
   exact⟨by simp only[bd];rw[if_neg (by omega)],fun q cu fr _ hq=>⟨cu,fr,hq,rfl⟩⟩
  ·have hi:=(AH.1 h).1
   simp only[bd];rw[if_neg (by omega)]
 have hbl:=(Bm.1 hb).1
 refine⟨⟨fun i o h=>?_,fun i hi=>?_,fun i j q h h'=>?_,fun i q h=>?_,fun c q h=>⟨(hr.col c q h).1,fun id e=>?_⟩⟩,hst⟩
 ·rw[aD] at h
  by_cases hi:i=σ.length
  ·rw[if_pos hi] at h
   cases h
   subst hi
   refine⟨hk,.inr ⟨b,cur,fr,by simp[bd],hb,hfo,fun j i y d hy hd=>?_⟩⟩
   obtain⟨v,h1,h2⟩:=hc j i y d hy hd
   exact⟨v,h1,h2.step hst⟩
  ·rw[if_neg hi] at h
   have:=hr.obj i o h
   have hil:=(AH.1 h).1
   have hg:bd μ σ.length b i=μ i:=by simp only[bd];rw[if_neg (by omega)]
   cases o with
   |arr t' k' zs=>
    refine⟨this.1,?_⟩
    rcases this.2 with⟨e1,e2⟩|⟨b',cu,fr',hb',hh',hfr',hcc⟩
    ·exact .inl ⟨e1,by rw[hg];exact e2⟩
    ·refine .inr ⟨b',cu,fr',by rw[hg];exact hb',hh',hfr',fun j q x d hx hd=>?_⟩
     obtain⟨v,h1,h2⟩:=hcc j q x d hx hd
     exact⟨v,h1,h2.step hst⟩
   |oth t' ds=>exact iu.keep this hst h fun q hq=>rfl
   |dead=>show bd μ σ.length b i=none;rw[hg];exact this
 ·simp only[bd]
  rw[if_neg (by simp at hi;omega)]
  exact hr.out i (by simp at hi;omega)
 ·simp only[bd] at h h'
  split at h<;>split at h'
  ·omega
  ·cases h;exact absurd h' (hn j)
  ·cases h';exact absurd h (hn i)
  ·exact hr.inj i j q h h'
 ·simp only[bd] at h
  split at h
  ·cases h;exact hbl
  ·exact hr.lt i q h
 ·simp only[bd] at e
  split at e
  ·cases e;exact hF c h
  ·exact(hr.col c q h).2 id e
theorem Fr.adopt{w0:World}{μ0:Nat→Option Nat} (h:Fr w0 μ0 w μ){n b:Nat} (hb:w0.heap.size≤b):Fr w0 μ0 w (bd μ n b):=
 ⟨h.os,h.tape,h.output,h.size,h.keep,fun id q e=>by
  simp only[bd] at e
  split at e
  ·cases e;exact .inr hb
  ·exact h.new id q e,h.drawn⟩
end
def jD (C:Ctx) (dst:Option Nat) (t:Nat) (ti:TI) (F:Nat→Nat→Prop) (μ:Nat→Option Nat) (act:Act) (w:World):Prop:=
 ∃b z,eX z=ti.zero∧z.cells.size=ti.k∧(∀s,dst=some s→act.tmps.getD s undef=.pointer (some ⟨b,0,none⟩))∧w.heap[b]?=some (.cells z.cells t (0,0))∧C.w0.heap.size≤b∧(∀id,μ id≠some b)∧∀c,¬ F c b
theorem jD.after{C:Ctx}{dst:Option Nat}{t:Nat}{ti:TI}{F F':Nat→Nat→Prop}{μ μ':Nat→Option Nat}{act:Act}{w w':World}{σ σ':List Ob} (h:jD C dst t ti F μ act w) (haf:After w F μ σ w' F' μ' σ'){d:Option Nat}{v:Value} (hd:∀s,dst=some s→d≠some s):
  jD C dst t ti F' μ' (act.put d v) w':=by
 obtain⟨b,z,h1,h2,h3,h4,h5,h6,h7⟩:=h
 have hbl:=(Bm.1 h4).1
 refine⟨b,z,h1,h2,fun s hs=>?_,?_,h5,fun id e=>?_,fun c e=>?_⟩
 ·rw[mB]
  have:=hd s hs
  cases d with
  |none=>exact h3 s hs
  |some q=>
   dsimp only
   rw[if_neg (fun e=>this (by rw[e.1]))]
   exact h3 s hs
 ·rw[haf.fr.keep b hbl h6];exact h4
 ·rcases haf.fr.new id b e with e|e
  ·exact h6 id e
  ·omega
 ·rcases haf.col c b e with e|e
  ·exact h7 c e
  ·omega
theorem oj{e:List (Nat×DV)}{o:Option Nat}{d:DV}{t:Nat} (h:o≠some t):lk (upo e o d) t=lk e t:=by rw[g9,if_neg h]
end
theorem u7{C:Ctx}{L:Lay} (hL:af C.P L){ops:Array Oper}{φ:List (List Ob)}{a:Nat}{I:List DI}{K:XE→St→Prop}{E:Nat→List (Nat×DV)}{ds:Nat→DV}
  (hsz:ops.size=I.length) (hdst0:∀i,aP ops i=(I.getD i .none).dst) (hdir0:∀i,fA ops i=(I.getD i .none).dir) (hB:t6 I C.n a=true)
  (hE:∀k,k<ops.size→E (k+1)=upo (E k) (aP ops k) (ds k)∧(sV L ops φ a I ds k∨kK C ops φ a I E ds k∨cE C ops φ a I K (E 0) E k))
  (hK:K .normal ⟨E ops.size,φ.getD (aM I (fun _=>true) ops.size) []⟩∨∃k,k<ops.size∧cE C ops φ a I K (E 0) E k):
  ∀(fuel:Nat) (listed:Array Bool) (act:Act) (w:World),listed.size=ops.size→
   (∀i,i<ops.size→listed.getD i false=true→(∀j∈(I.getD i .none).pre,listed.getD j false=true)∧¬ cE C ops φ a I K (E 0) E i)→
   cnt (fun i=>listed.getD i false) ops.size≤fuel→
   (∃env F μ,Rel0 C F μ ⟨env,φ.getD (aM I (vis I (fun i=>listed.getD i false) a) ops.size) []⟩ act w∧
    (∀t,(gU I (fun i=>listed.getD i false) a→aP ops a≠some t)→lk env t=vAt ops (E 0) ds (vis I (fun i=>listed.getD i false) a) ops.size t)∧
    (gU I (fun i=>listed.getD i false) a→∃t ti,(∃o,ops[a]?=some o∧o.op=.alloc t)∧L t=some ti∧jD C (aP ops a) t ti F μ act w))→
   wpAnyIn C.fe 0 C.P .any ops (iM C K) fuel listed act w:=by
 simp only[t6,AS,Cw,BF] at hB
 rw[←hsz] at hB
 have hdstf:(fun i=>(I.getD i .none).dst)=aP ops:=by funext i;exact(hdst0 i).symm
 have hdirf:(fun i=>(I.getD i .none).dir)=fA ops:=by funext i;exact(hdir0 i).symm
 rw[hdstf,hdirf] at hB
 have hdirs:∀i,i<ops.size→∀j∈fA ops i,j<i:=fun i hi j hj=>by
  have:=(hB i hi).1.1.1.1
  simp only[sr,BF,AS,decide_eq_true_eq] at this
  exact this.1 j hj
 have hprelt:∀i,i<ops.size→∀j∈(I.getD i .none).pre,j<i:=fun i hi j hj=>by
  have:=(hB i hi).1.1.1.1
  simp only[sr,BF,AS,decide_eq_true_eq] at this
  exact(this.2 j hj).1
 have hpre:∀i,i<ops.size→∀j∈(I.getD i .none).pre,j∈fA ops i∨∃k∈fA ops i,j∈(I.getD k .none).pre:=fun i hi j hj=>by
  have:=(hB i hi).1.1.1.1
  simp only[sr,BF,AS,decide_eq_true_eq,Cs,List.any_eq_true,BB] at this
  exact(this.2 j hj).2
 have hlon:∀i,i<ops.size→a∈(I.getD i .none).pre→∀j,j<a→(I.getD j .none).eff=true→j∈(I.getD i .none).pre:=fun i hi hia j hj he=>by
  have hlt:=hprelt i hi a hia
  have:=(hB i hi).1.2
  simp only[zL,Cs,Nat.ble_eq,AS,Cw,Cy,List.contains_eq_mem,decide_eq_false_iff_not,decide_eq_true_eq] at this
  rcases this with(h|h)|h
  ·omega
  ·exact absurd hia h
  ·rcases h j hj with h|h
   ·rw[he] at h;cases h
   ·exact h
 have hpair:∀i j,j<i→i<ops.size→(fj (aP ops j) (I.getD i .none).rd=true∨fj (aP ops i) (I.getD j .none).rd=true∨ec (aP ops j) (aP ops i)=true∨((I.getD i .none).eff=true∧(I.getD j .none).eff=true∧i≠a))→j∈(I.getD i .none).pre:=fun i j hj hi h=>by
  have:=(hB i hi).2 j hj
  simp only[zg,Cs,Cy,Bool.or_eq_false_iff,Bool.and_eq_false_iff,BB] at this
  rcases this with⟨⟨⟨h1,h2⟩,h3⟩,h4⟩|h
  ·rcases h with h|h|h|⟨h,h',hne⟩
   ·rw[h1] at h;cases h
   ·rw[h2] at h;cases h
   ·rw[h3] at h;cases h
   ·rcases h4 with(h4|h4)|h4
    ·rw[h4] at h;cases h
    ·rw[h4] at h';cases h'
    ·simp only[Bool.not_eq_false'] at h4
     exact absurd (Ct h4) hne
  ·exact h
 have hdst:∀i,i<ops.size→∀t,aP ops i=some t→t<C.n:=fun i hi t ht=>by
  have:=(hB i hi).1.1.2
  simp only[yT,ht,decide_eq_true_eq] at this
  exact this
 have post:∀(listed:Array Bool) (act:Act) (w:World),
   (∀i,i<ops.size→listed.getD i false=true→(∀j∈(I.getD i .none).pre,listed.getD j false=true)∧¬ cE C ops φ a I K (E 0) E i)→
   (∃env F μ,Rel0 C F μ ⟨env,φ.getD (aM I (vis I (fun i=>listed.getD i false) a) ops.size) []⟩ act w∧
    (∀t,(gU I (fun i=>listed.getD i false) a→aP ops a≠some t)→lk env t=vAt ops (E 0) ds (vis I (fun i=>listed.getD i false) a) ops.size t))→
   (∀i,i<ops.size→listed.getD i false=true)→listed.size=ops.size→iM C K .normal act w:=by
  intro listed act w hinv ⟨env,F,μ,hrel,henv⟩ hall hls
  have hal:∀j,j<ops.size→vis I (fun i=>listed.getD i false) a j=true:=fun j hj=>by
   by_cases hja:j=a
   ·subst hja
    rw[fu,hall j hj,Dd]
    exact bE.2 fun k hk _=>hall k (by omega)
   ·rw[dR hja];exact hall j hj
  have hnp:¬ gU I (fun i=>listed.getD i false) a:=by
   rintro⟨h1,h2⟩
   have ha:a<ops.size:=by
    rcases Bp a ops.size with h|h
    ·exact h
    ·dsimp only at h1
     rw[A0,DU (by omega)] at h1
     cases h1
   have:=hal a ha
   rw[fu,h2,Dq] at this
   cases this
  rcases hK with hK|⟨k,hk,hp⟩
  ·refine⟨_,hK,Rel.weak ⟨F,μ,hrel⟩ ⟨?_,fun t=>.inr ?_⟩⟩
   ·dsimp only
    rw[jl (f:=vis I (fun i=>listed.getD i false) a) (g:=fun _=>true) _ fun j hj _=>hal j hj]
   ·dsimp only
    rw[henv t (fun h=>absurd h hnp),ew (g:=fun _=>true) _ fun j hj _=>hal j hj]
    exact(jN rfl _ (fun k hk=>(hE k hk).1) t).symm
  ·exact absurd hp (hinv k hk (hall k hk)).2
 intro fuel
 induction fuel with
 |zero=>
  intro listed act w hs hinv hc hrel
  have hall:=nf ops.size (by omega:cnt (fun i=>listed.getD i false) ops.size=0)
  obtain⟨env,F,μ,h1,h2,_⟩:=hrel
  refine⟨Dv.2 fun i hi=>?_,post listed act w hinv ⟨env,F,μ,h1,h2⟩ hall hs⟩
  obtain⟨h1,h2,_⟩:=eD.1 hi
  have:=hall i h1
  rw[fR (by omega) true false] at h2
  rw[h2] at this
  cases this
 |succ fuel ih=>
  intro listed act w hs hinv hc hrel
  obtain⟨env,F,μ,hr,henv,hpd⟩:=hrel
  refine⟨fun hrd=>post listed act w hinv ⟨env,F,μ,hr,henv⟩ ?_ hs,fun i hi=>?_⟩
  ·intro i
   induction i using Dh with
   |_ i ihi=>
    intro hlt
    cases hf:listed.getD i false with
    |true=>rfl
    |false=>
     have hmem:i∈Region.ready .any ops listed:=by
      refine eD.2 ⟨hlt,by rw[fR (by omega) true false];exact hf,ops[i],BG hlt,fun e he hb=>?_⟩
      have hd:e.on∈fA ops i:=by
       simp only[fA,fc,BG hlt]
       exact Ba.2 ⟨e,CA.2 ⟨he,hb⟩,rfl⟩
      exact ihi e.on (hdirs i hlt _ hd) (DS (hdirs i hlt _ hd) hlt)
     rw[hrd] at hmem
     cases hmem
  ·obtain⟨hlt,hl,o,ho,haft⟩:=eD.1 hi
   rw[fR (by omega) true false] at hl
   obtain⟨f,hf⟩:∃f:Nat→Bool,f=fun i=>listed.getD i false:=⟨_,rfl⟩
   have hfe:∀k,listed.getD k false=f k:=fun k=>by rw[hf]
   rw[←hf] at hr henv hpd hc
   have hlf:f i=false:=by rw[←hfe];exact hl
   have hinvf:∀i,i<ops.size→f i=true→(∀j∈(I.getD i .none).pre,f j=true)∧¬ cE C ops φ a I K (E 0) E i:=fun i hi h=>by
    have:=hinv i hi (by rw[hfe];exact h)
    exact⟨fun j hj=>by rw[←hfe];exact this.1 j hj,this.2⟩
   have hfout:∀k,ops.size≤k→f k=false:=fun k hk=>by
    rw[←hfe,A0,DU (by omega)];rfl
   have hdl:∀j∈fA ops i,f j=true:=by
    intro j hj
    simp only[fA,fc,ho] at hj
    obtain⟨e,he,rfl⟩:=Ba.1 hj
    obtain⟨he,hb⟩:=CA.1 he
    rw[←hfe]
    exact haft e he hb
   have hpl:∀j∈(I.getD i .none).pre,f j=true:=by
    intro j hj
    rcases hpre i hlt j hj with h|⟨k,hk,h⟩
    ·exact hdl j h
    ·exact(hinvf k (DS (hdirs i hlt k hk) hlt) (hdl k hk)).1 j h
   have hlate:∀j,j<ops.size→i∈(I.getD j .none).pre→f j=false:=by
    intro j hj hm
    cases hf:f j with
    |false=>rfl
    |true=>
     have:=(hinvf j hj hf).1 i hm
     rw[hlf] at this
     cases this
   have hda:aP ops i=o.dst:=by simp[aP,ho]
   have hplv:∀j∈(I.getD i .none).pre,vis I f a j=true:=by
    intro j hj
    by_cases hja:j=a
    ·subst hja
     rw[fu,hpl j hj,Dd]
     exact bE.2 fun k hk he=>hpl k (hlon i hlt hj k hk he)
    ·rw[dR hja];exact hpl j hj
   have hrd:∀t∈(I.getD i .none).rd,lk env t=lk (E i) t:=by
    intro t ht
    have hnp:gU I f a→aP ops a≠some t:=by
     rintro⟨p1,p2⟩ hda
     have ha:a<ops.size:=by
      rcases Bp a ops.size with h|h
      ·exact h
      ·rw[hfout a h] at p1;cases p1
     rcases Dl i a with h|h|h
     ·have:=(hinvf a ha p1).1 i (hpair a i h ha (.inr (.inl (by simp only[fj,hda];exact BB.2 ht))))
      rw[hlf] at this;cases this
     ·subst h;rw[hlf] at p1;cases p1
     ·have hap:=hpair i a h hlt (.inl (by simp only[fj,hda];exact BB.2 ht))
      have:bQ I f a=true:=bE.2 fun k hk he=>hpl k (hlon i hlt hap k hk he)
      rw[p2] at this;cases this
    rw[henv t hnp,jM (i:=i) _ (by omega),ew (g:=fun _=>true),jN rfl _ fun k hk=>(hE k (by omega)).1]
    ·intro j hj hd
     exact hplv j (hpair i j hj hlt (.inl (by simp only[fj,hd];exact BB.2 ht)))
    ·intro j hj hj' hd
     rcases Cu hj with rfl|hj
     ·exact cY hlf
     ·exact cY (hlate j hj' (hpair j i hj hj' (.inr (.inl (by simp only[fj,hd];exact BB.2 ht)))))
   have hw:Weak ⟨env,φ.getD (aM I (vis I f a) ops.size) []⟩ ⟨rst (E i) (I.getD i .none).rd,φ.getD (aM I (vis I f a) ops.size) []⟩:=
    Weak.of_agree rfl (nl hrd)
   have hr2:=hr.weak hw
   have heff:(I.getD i .none).eff=true→(i=a→bQ I f a=true)→aM I (vis I f a) ops.size=aM I (fun _=>true) i:=by
    intro he hia
    refine lJ _ (by omega) (fun j hj hej=>?_) fun j hj hj' hej=>?_
    ·by_cases hi:i=a
     ·subst hi
      rw[dR (by omega)]
      exact bE.1 (hia rfl) j hj hej
     ·exact hplv j (hpair i j hj hlt (.inr (.inr (.inr ⟨he,hej,hi⟩))))
    ·rcases Cu hj with rfl|hj
     ·exact cY hlf
     ·by_cases hja:j=a
      ·subst hja
       rw[fu]
       have:bQ I f j=false:=by
        cases hb:bQ I f j with
        |false=>rfl
        |true=>have:=bE.1 hb i hj he;rw[hlf] at this;cases this
       rw[this,Dq]
      ·exact cY (hlate j hj' (hpair j i hj hj' (.inr (.inr (.inr ⟨hej,he,hja⟩)))))
   have hd0:∀t,o.dst=some t→t<C.n:=fun t ht=>hdst i hlt t (hda.trans ht)
   obtain⟨f',hf'⟩:∃f':Nat→Bool,f'=fun k=>decide (k=i)||f k:=⟨_,rfl⟩
   have hget:(fun k=>(listed.setIfInBounds i true).getD k false)=f':=by
    rw[hf']
    funext k
    simp only[A0,Bu]
    by_cases hk:i=k
    ·subst hk
     simp[hs,hlt]
    ·rw[←hfe k,A0]
     simp[hk,show ¬ k=i from fun e=>hk e.symm]
   have hf'i:f' i=true:=by rw[hf'];simp
   have hf'k:∀k,k≠i→f' k=f k:=fun k hk=>by rw[hf'];simp[hk]
   have hbel:bQ I f a=true→bQ I f' a=true:=fun h=>bE.2 fun k hk he=>by
    by_cases hki:k=i
    ·rw[hki];exact hf'i
    ·rw[hf'k k hki];exact bE.1 h k hk he
   have last:∀(act':Act) (w':World),¬ cE C ops φ a I K (E 0) E i→
     (∃env F μ,Rel0 C F μ ⟨env,φ.getD (aM I (vis I f' a) ops.size) []⟩ act' w'∧
      (∀t,(gU I f' a→aP ops a≠some t)→lk env t=vAt ops (E 0) ds (vis I f' a) ops.size t)∧
      (gU I f' a→∃t ti,(∃o,ops[a]?=some o∧o.op=.alloc t)∧L t=some ti∧jD C (aP ops a) t ti F μ act' w'))→
     wpAnyIn C.fe 0 C.P .any ops (iM C K) fuel (listed.setIfInBounds i true) act' w':=by
    intro act' w' hnp h
    refine ih _ _ _ (by simp[hs]) ?_ ?_ (by rw[hget];exact h)
    ·intro k hk hfk
     have e:∀k,(listed.setIfInBounds i true).getD k false=f' k:=fun k=>congrFun hget k
     rw[e] at hfk
     by_cases hki:k=i
     ·subst hki
      refine⟨fun j hj=>?_,hnp⟩
      rw[e]
      by_cases hjk:j=k
      ·rw[hjk];exact hf'i
      ·rw[hf'k j hjk];exact hpl j hj
     ·rw[hf'k k hki] at hfk
      refine⟨fun j hj=>?_,(hinvf k hk hfk).2⟩
      rw[e]
      by_cases hji:j=i
      ·rw[hji];exact hf'i
      ·rw[hf'k j hji];exact(hinvf k hk hfk).1 j hj
    ·rw[hget,hf']
     have:=pE (f:=f) hlf ops.size
     rw[if_pos hlt] at this
     omega
   have hveq:(i=a→bQ I f a=true)→(gU I f a→bQ I f' a=false)→vis I f' a=fun k=>decide (k=i)||vis I f a k:=by
    intro hia hpb
    funext k
    by_cases hka:k=a
    ·subst hka
     rw[fu,fu]
     by_cases hki:k=i
     ·rw[hki,hf'i]
      simp only[decide_true,Bool.true_or,Dd]
      rw[←hki]
      exact hbel (hia hki.symm)
     ·rw[hf'k k hki]
      simp only[hki,decide_false,Dx]
      cases hfk:f k with
      |false=>rfl
      |true=>
       simp only[Dd]
       cases hb:bQ I f k with
       |true=>exact hbel hb
       |false=>exact hpb ⟨hfk,hb⟩
    ·rw[dR hka,dR hka,hf']
   have hpend:gU I f' a→(i=a→bQ I f a=true)→gU I f a∧bQ I f' a=false:=by
    rintro⟨h1,h2⟩ hia
    have hb:bQ I f a=false:=by
     cases hb:bQ I f a with
     |false=>rfl
     |true=>rw[hbel hb] at h2;cases h2
    refine⟨⟨?_,hb⟩,h2⟩
    by_cases hai:a=i
    ·have:=hia hai.symm
     rw[hb] at this;cases this
    ·rwa [hf'k a hai] at h1
   have next:∀(v:Value) (w':World) (d:DV) (F':Nat→Nat→Prop) (μ':Nat→Option Nat),¬ cE C ops φ a I K (E 0) E i→(i=a→bQ I f a=true)→d=ds i→
     Rel0 C F' μ' ⟨upo env o.dst d,φ.getD (aM I (fun k=>decide (k=i)||vis I f a k) ops.size) []⟩ (act.put o.dst v) w'→
     (gU I f a→∃t ti,(∃o,ops[a]?=some o∧o.op=.alloc t)∧L t=some ti∧jD C (aP ops a) t ti F' μ' (act.put o.dst v) w')→
     wpAnyIn C.fe 0 C.P .any ops (iM C K) fuel (listed.setIfInBounds i true) (act.put o.dst v) w':=by
    rintro v w' _ F' μ' hnp hia rfl hrel' hpd'
    refine last _ _ hnp ?_
    have hset:∀t,(gU I f a→aP ops a≠some t)→lk (upo env o.dst (ds i)) t=vAt ops (E 0) ds (fun k=>decide (k=i)||vis I f a k) ops.size t:=by
     intro t ht
     rw[oK _ hlt (fun j hj hj' hd hd'=>cY (hlate j hj' (hpair j i hj hj' (.inr (.inr (.inl (by simp only[ec,hd',hd];exact beq_self_eq_true _))))))),g9,hda,henv t ht]
    by_cases hpb:gU I f a∧bQ I f' a=true
    ·-- the allocation's block becomes an object
     obtain⟨hp,hb'⟩:=hpb
     have ha:a<ops.size:=by
      rcases Bp a ops.size with h|h
      ·exact h
      ·have h9:=hp.1;rw[hfout a h] at h9;cases h9
     have hia':i≠a:=fun e=>by rw[e] at hlf;rw[hp.1] at hlf;cases hlf
     have hila:i<a∧(I.getD i .none).eff=true:=by
      cases hb0:bQ I f a with
      |true=>rw[hp.2] at hb0;cases hb0
      |false=>
       refine Decidable.byContradiction fun hcon=>?_
       have:bQ I f a=true:=bE.2 fun k hk he=>by
        have:=bE.1 hb' k hk he
        rwa [hf'k k (fun e=>hcon ⟨by omega,by rw[←e];exact he⟩)] at this
       rw[hb0] at this;cases this
     have hlate2:∀j,j<ops.size→a∈(I.getD j .none).pre→f j=false:=fun j hj haj=>hlate j hj (hlon j hj haj i hila.1 hila.2)
     obtain⟨_,hal⟩:=hE a ha
     have hal:sV L ops φ a I ds a:=by
      rcases hal with h|h|h
      ·exact h
      ·exact absurd rfl h.1
      ·exact absurd rfl h.1
     obtain⟨_,oa,t,ti,ho',hgn,hop,ht,hk,he,hφ,hds⟩:=hal
     obtain⟨t2,ti2,⟨o2,ho2,hop2⟩,ht2,hpk⟩:=hpd' hp
     rw[ho'] at ho2;cases ho2
     rw[hop] at hop2;cases hop2
     rw[ht] at ht2;cases ht2
     obtain⟨b,z,z1,z2,z3,z4,z5,z6,z7⟩:=hpk
     have hvis':vis I f' a=fun k=>decide (k=a)||(decide (k=i)||vis I f a k):=by
      funext k
      by_cases hka:k=a
      ·subst hka
       rw[fu,hb',hf'k k (fun e=>hia' e.symm),hp.1]
       simp
      ·rw[dR hka,dR hka,hf']
       simp[hka]
     have hca:(decide (a=i)||vis I f a a)=false:=by
      rw[fu,hp.2]
      simp only[Dq,Bool.or_false,decide_eq_false_iff_not]
      exact fun e=>hia' e.symm
     have hph:aM I (fun k=>decide (k=i)||vis I f a k) ops.size=aM I (fun _=>true) a:=by
      refine lJ _ (by omega) (fun j hj hej=>?_) fun j hj hj' hej=>?_
      ·have hjf:=bE.1 hb' j hj hej
       by_cases hji:j=i
       ·simp[hji]
       ·rw[hf'k j hji] at hjf
        rw[dR (by omega),hjf]
        simp
      ·rcases Cu hj with rfl|hj
       ·exact hca
       ·have:=hila.1
        rw[dR (by omega),hlate2 j hj' (hpair j a hj hj' (.inr (.inr (.inr ⟨hej,he,by omega⟩))))]
        have:j≠i:=by omega
        simp[this]
     have hadd:aM I (vis I f' a) ops.size=aM I (fun _=>true) a+1:=by
      rw[hvis',c9 (f:=fun k=>decide (k=i)||vis I f a k) hca,if_pos ⟨he,ha⟩,hph]
     rw[hph] at hrel'
     obtain⟨g1,g2⟩:=hrel'.hr.adopt (t:=t) (k:=ti.k) (xs:=[ti.zero]) z4 (.zero _) z6 z7 (by simpa using hk) (fun j i y d hy hd=>by
      cases j with
      |zero=>
       simp only[AY,AX.injEq] at hy
       subst hy
       simp only[CT,Bc]
       exact dw (by rw[←z1];exact cn z) (by rw[z2,hk]) i d hd
      |succ j=>simp at hy)
     dsimp only at g1 g2
     rw[←hφ] at g1 g2
     rw[hadd]
     refine⟨upo (upo env o.dst (ds i)) (aP ops a) (ds a),F',bd μ' (φ.getD (aM I (fun _=>true) a) []).length b,⟨g1,fun s=>?_,hrel'.step.trans g2,hrel'.fr.adopt z5,hrel'.col,hrel'.size,bS.step g2 hrel'.defers⟩,fun s _=>?_,fun hp'=>?_⟩
     ·dsimp only
      rw[g9]
      split
      ·rename_i hs
       rw[z3 s hs,hds,hφ]
       refine .ptr ⟨t,ti.k,[ti.zero],by simp,by simp,fun _=>⟨b,by simp[bd],by simp⟩⟩
      ·exact(hrel'.env s).step g2
     ·rw[g9,hvis',oK (f:=fun k=>decide (k=i)||vis I f a k) _ ha (fun j hj hj' hd1 hd2=>?_)]
      ·split
       ·rfl
       ·rename_i hs
        exact hset s fun _=>hs
      ·have:=hila.1
       rw[dR (by omega),hlate2 j hj' (hpair j a hj hj' (.inr (.inr (.inl (by simp only[ec,hd1,hd2];exact beq_self_eq_true _)))))]
       have:j≠i:=by omega
       simp[this]
     ·obtain⟨_,h2⟩:=hp'
      rw[hb'] at h2;cases h2
    ·have hpb':gU I f a→bQ I f' a=false:=fun h=>by
      cases hb:bQ I f' a with
      |false=>rfl
      |true=>exact absurd ⟨h,hb⟩ hpb
     rw[hveq hia hpb']
     exact⟨upo env o.dst (ds i),F',μ',hrel',fun t ht=>hset t (fun h=>by
      by_cases hai:a=i
      ·have:=hia hai.symm
       rw[h.2] at this;cases this
      ·exact ht ⟨by rw[hf'k a hai];exact h.1,hpb' h⟩),fun h=>hpd' (hpend h hia).1⟩
   have hpa:∀{w':World}{F':Nat→Nat→Prop}{μ':Nat→Option Nat}{σ':List Ob}{v:Value},After w F μ (φ.getD (aM I (vis I f a) ops.size) []) w' F' μ' σ'→
     (gU I f a→∃t ti,(∃o,ops[a]?=some o∧o.op=.alloc t)∧L t=some ti∧jD C (aP ops a) t ti F' μ' (act.put o.dst v) w'):=by
    intro w' F' μ' σ' v haf hp
    obtain⟨t,ti,h1,h2,h3⟩:=hpd hp
    refine⟨t,ti,h1,h2,h3.after haf fun s hs hd=>?_⟩
    have ha:a<ops.size:=by
     rcases Bp a ops.size with h|h
     ·exact h
     ·have h9:=hp.1;rw[hfout a h] at h9;cases h9
    rw[←hda] at hd
    rcases Dl i a with h|h|h
    ·have:=(hinvf a ha hp.1).1 i (hpair a i h ha (.inr (.inr (.inl (by simp only[ec,hs,hd];exact beq_self_eq_true _)))))
     rw[hlf] at this;cases this
    ·subst h;have h9:=hp.1;rw[hlf] at h9;cases h9
    ·have hap:=hpair i a h hlt (.inr (.inr (.inl (by simp only[ec,hs,hd];exact beq_self_eq_true _))))
     have:bQ I f a=true:=bE.2 fun k hk he=>hpl k (hlon i hlt hap k hk he)
     rw[hp.2] at this;cases this
   simp only[wpOpIn,ho]
   by_cases hia:i=a
   ·-- the allocation
    have hal:sV L ops φ a I ds i:=by
     rcases(hE i hlt).2 with h|h|h
     ·exact h
     ·exact absurd hia h.1
     ·exact absurd hia h.1
    obtain⟨_,oa,t,ti,ho',hgn,hop,ht,hk,he,hφ,hds⟩:=hal
    obtain rfl:o=oa:=AX.inj (ho.symm.trans ho')
    have hnp:¬ cE C ops φ a I K (E 0) E i:=fun h=>h.1 hia
    have hg:gd ops (rst (E i) (I.getD i .none).rd) o=some true:=by unfold gd;rw[hgn]
    rw[if_pos (aK hr2 hg)]
    cases hb:bQ I f a with
    |true=>
     have hph:=heff he fun _=>hb
     have hdo:=bK.of_run (ar.alloc (P:=C.P) (o:=o) (st:=⟨rst (E i) (I.getD i .none).rd,φ.getD (aM I (fun _=>true) i) []⟩) hL hop ht hk)
     rw[hph] at hr2
     have hr':=hr
     rw[hph] at hr'
     refine hdo C.rd act w F μ _ _ hr2.hr (bb hr2) fun v w' F' μ' haf hrep=>next v w' _ F' μ' hnp (fun _=>hb) hds.symm ?_ ?_
     ·rw[c9 (f:=vis I f a) (cY hlf),if_pos ⟨he,hlt⟩,hph,hφ]
      exact⟨haf.hr,cg (C:=C) (st:=⟨env,φ.getD (aM I (fun _=>true) i) []⟩) hr'.size (fun t=>(hr'.env t).step haf.step) o.dst hd0 hrep,hr'.step.trans haf.step,hr'.fr.trans haf.fr,
       fun c b hb=>(haf.col c b hb).elim (hr'.col c b) (fun q=>.inr (Bl hr'.fr.size q)),by rw[bG];exact hr'.size,by rw[a8];exact hr'.defers.step haf.step⟩
     ·intro hp
      rw[hp.2] at hb;cases hb
    |false=>
     obtain⟨z,hz,hzs,hzo⟩:=(hL _ _ ht).zero w
     have hrun:(execOp act.eval o).run C.P w=.ok (.value (.pointer (some ⟨w.heap.size,0,none⟩))) (w.alloc (.cells z.cells t)):=by
      simp only[execOp,hop,Instr.alloc,Sem.run_bind,hz,Result.andThen_ok,jg,Sem.run_pure]
     obtain⟨g1,g2,g3⟩:=hr.hr.garbage (.cells z.cells t)
     refine bR (.inr fun c hc=>by rw[hop] at hc;cases hc) ?_
     unfold Oper.wp
     rw[hrun]
     refine last _ _ hnp ?_
     have hfa:f a=false:=by rw[←hia];exact hlf
     have hb':bQ I f' a=false:=by
      cases hb':bQ I f' a with
      |false=>rfl
      |true=>
       have:bQ I f a=true:=bE.2 fun k hk he=>by
        have:=bE.1 hb' k hk he
        rwa [hf'k k (by omega)] at this
       rw[hb] at this;cases this
     have hv:vis I f' a=vis I f a:=by
      funext k
      by_cases hka:k=a
      ·subst hka
       rw[fu,fu,hb',hb,Dq,Dq]
      ·rw[dR hka,dR hka,hf'k k (by omega)]
     rw[hv]
     have hnpf:¬ gU I f a:=fun h=>by rw[h.1] at hfa;cases hfa
     refine⟨upo env o.dst .undef,F,μ,⟨g1,cg (C:=C) (st:=⟨env,_⟩) hr.size (fun t=>(hr.env t).step g2) o.dst hd0 .undef,hr.step.trans g2,hr.fr.trans g3,hr.col,by rw[bG];exact hr.size,by rw[a8];exact hr.defers.step g2⟩,fun s hs=>?_,fun _=>?_⟩
     ·have hne:=hs ⟨by rw[←hia];exact hf'i,hb'⟩
      rw[←hia,hda] at hne
      rw[oj hne]
      exact henv s fun h=>absurd h hnpf
     ·refine⟨t,ti,⟨o,by rw[←hia];exact ho,hop⟩,ht,w.heap.size,z,hzo,hzs,fun s hs=>?_,?_,hr.fr.size,fun id e=>?_,fun c e=>?_⟩
      ·rw[←hia,hda] at hs
       rw[mB,hs]
       dsimp only
       rw[if_pos ⟨rfl,by rw[hr.size];exact hd0 s hs⟩]
      ·rw[aS,if_pos rfl]
      ·have:=hr.hr.lt _ _ e;omega
      ·have:=(hr.hr.col _ _ e).1;omega
   ·by_cases hpan:cE C ops φ a I K (E 0) E i
    ·obtain⟨_,o',d,ho',hg,he,hdo,hk⟩:=hpan
     obtain rfl:o=o':=AX.inj (ho.symm.trans ho')
     rw[if_pos (aK hr2 hg)]
     have hph:=heff he fun h=>absurd h hia
     rw[hph] at hr2
     refine(hdo C.rd act w F μ _ _ hr2.hr (bb hr2) fun v w' F' μ' haf hrep=>?_)
     refine⟨_,d,v,F',μ',hk,rfl,⟨haf.hr,fun t=>?_,hr2.step.trans haf.step,hr2.fr.trans haf.fr,
      fun c b hb=>(haf.col c b hb).elim (hr2.col c b) (fun q=>.inr (Bl hr2.fr.size q)),hr2.size,hr2.defers.step haf.step⟩,hrep⟩
     dsimp only
     unfold mG
     rw[pn (f:=gm (ops.toList.map (·.dst)))]
     split
     ·rename_i hnd
      have hno:∀j,j<ops.size→aP ops j≠some t:=by
       intro j hj hd
       simp only[gm,AS,Ba,bne_iff_ne,ne_eq,forall_exists_index,and_imp,forall_apply_eq_imp_iff₂] at hnd
       refine hnd ops[j] (by simp) ?_
       simpa[aP,hj] using hd
      have h0:lk env t=lk (E 0) t:=by
       have ha':gU I f a→aP ops a≠some t:=by
        rintro⟨p1,_⟩
        rcases Bp a ops.size with h|h
        ·exact hno a h
        ·rw[hfout a h] at p1;cases p1
       rw[henv t ha',jM (i:=0) _ (BD _) (fun j _ hj hd=>absurd hd (hno j hj))]
       rfl
      rw[←h0]
      rw[hph] at hr
      exact(hr.env t).step haf.step
     ·exact .undef
    ·have hret:kK C ops φ a I E ds i:=by
      rcases(hE i hlt).2 with h|h|h
      ·exact absurd h.1 hia
      ·exact h
      ·exact absurd h hpan
     obtain⟨_,o',ho',hret⟩:=hret
     obtain rfl:o=o':=AX.inj (ho.symm.trans ho')
     rcases hret with⟨hg,hd,he⟩|⟨hg,he,hdo⟩|⟨hg,he,hdo⟩
     ·rw[if_neg (by rw[aK hr2 hg];simp)]
      refine⟨fun _ _=>trivial,?_⟩
      refine next undef w .skip F μ hpan (fun h=>absurd h hia) hd.symm ?_ ?_
      ·have hoo:φ.getD (aM I (fun k=>decide (k=i)||vis I f a k) ops.size) []=φ.getD (aM I (vis I f a) ops.size) []:=by
        rw[c9 (f:=vis I f a) (cY hlf)]
        cases hq:(I.getD i .none).eff with
        |false=>simp
        |true=>rw[if_pos ⟨rfl,hlt⟩,heff hq (fun h=>absurd h hia)];exact he hq
       rw[hoo]
       exact⟨hr.hr,cg (C:=C) (st:=⟨env,_⟩) hr.size hr.env o.dst hd0 .skip,hr.step,hr.fr,hr.col,by rw[bG];exact hr.size,by rw[a8];exact hr.defers⟩
      ·exact hpa ⟨hr.hr,Step.refl ..,Fr.refl ..,fun _ _ h=>.inl h⟩
     ·rw[if_pos (aK hr2 hg)]
      have hph:=heff he fun h=>absurd h hia
      have hpa':= @hpa
      rw[hph] at hr2 hr hpa'
      refine(hdo C.rd act w F μ _ _ hr2.hr (bb hr2) fun v w' F' μ' haf hrep=>next v w' _ F' μ' hpan (fun h=>absurd h hia) rfl ?_ (hpa' haf))
      rw[c9 (f:=vis I f a) (cY hlf),if_pos ⟨he,hlt⟩,hph]
      exact⟨haf.hr,cg (C:=C) (st:=⟨env,φ.getD (aM I (fun _=>true) i) []⟩) hr.size (fun t=>(hr.env t).step haf.step) o.dst hd0 hrep,hr.step.trans haf.step,hr.fr.trans haf.fr,
       fun c b hb=>(haf.col c b hb).elim (hr.col c b) (fun q=>.inr (Bl hr.fr.size q)),by rw[bG];exact hr.size,by rw[a8];exact hr.defers.step haf.step⟩
     ·rw[if_pos (aK hr2 hg)]
      have hph:aM I (vis I f a) ops.size∈(I.getD i .none).ph:=by
       have:=(hB i hlt).1.1.1.2
       simp only[phB,he,Dx,AS,Cw,Cs,decide_eq_true_eq,BB] at this
       rcases this (aM I (vis I f a) ops.size) (by have:=pb (I:=I) (f:=vis I f a) ops.size;omega) with(h|h)|h
       ·refine absurd h (Du.2 ?_)
        exact dy _ fun j hj _ hc=>hplv j (BB.1 hc)
       ·refine absurd h (Du.2 ?_)
        refine dy _ fun j hj _ hc=>?_
        cases hq:(I.getD j .none).pre.contains i with
        |false=>rfl
        |true=>
         rw[cY (hlate j hj (BB.1 hq))] at hc
         cases hc
       ·exact h
      refine(hdo _ hph C.rd act w F μ _ _ hr2.hr (bb hr2) fun v w' F' μ' haf hrep=>next v w' _ F' μ' hpan (fun h=>absurd h hia) rfl ?_ (hpa haf))
      rw[c9 (f:=vis I f a) (cY hlf),if_neg (fun h=>by rw[he] at h;cases h.1),Bt]
      exact⟨haf.hr,cg (C:=C) (st:=⟨env,_⟩) hr.size (fun t=>(hr.env t).step haf.step) o.dst hd0 hrep,hr.step.trans haf.step,hr.fr.trans haf.fr,
       fun c b hb=>(haf.col c b hb).elim (hr.col c b) (fun q=>.inr (Bl hr.fr.size q)),by rw[bG];exact hr.size,by rw[a8];exact hr.defers.step haf.step⟩
section
theorem lO{f:DV→DV→Bool} (hf:∀x y,f x y=true→x=y):∀a b,gK f a b=true→a=b
 | [],[],_=>rfl
 | [],y::r,h=>by cases h
 |x::q,[],h=>by cases h
 |x::q,y::r,h=>by
  have h':bx (f x y) (gK f q r) false=true:=h
  rw[a7] at h'
  split at h'<;>try cases h'
  rename_i hx
  rw[hf x y hx,lO hf q r h']
theorem fB{a b:Nat}{c:Bool} (h:bx (A4 a b) c false=true):a=b∧c=true:=by
 rw[aN] at h
 split at h
 ·rename_i e;exact⟨e,h⟩
 ·cases h
theorem w7:∀n a b,eqd n a b=true→a=b
 |0,a,b,h=>by cases h
 |n+1,a,b,h=>by
  have ih:=w7 n
  have h':Au (eqd n) a b=true:=h
  unfold Au at h'
  split at h'
  ·obtain⟨h1,h2⟩:=fB h'
   rw[(mU _ _).1 h1,(lL _ _).1 h2]
  ·rename_i x y
   revert h'
   cases x<;>cases y<;>intro h'<;>first|rfl|cases h'
  ·rename_i x y
   have:=(lN _ _).1 h'
   rw[cw,cw] at this
   have h2:x.data.toList=y.data.toList:=by
    exact(DM (fun a b e=>UInt8.toNat_inj.1 e)).1 this
   have:x=y:=by
    cases x;cases y
    congr 1
    exact BJ h2
   rw[this]
  ·obtain⟨h1,h2⟩:=fB h'
   obtain⟨h3,h4⟩:=fB h2
   obtain⟨h5,h6⟩:=fB h4
   rw[h1,h3,h5,Ct h6]
  ·obtain⟨h1,h2⟩:=fB h'
   obtain⟨h3,h4⟩:=fB h2
   obtain⟨h5,h6⟩:=fB h4
   rw[h1,h3,h5,Ct h6]
  all_goals first
   |rfl
   |(rw[Ct h'];done)
   |(rw[lO ih _ _ h'];done)
   |(obtain⟨h1,h2⟩:=fB h';rw[h1,lO ih _ _ h2];done)
   |(obtain⟨h1,h2⟩:=fB h';rw[h1,ih _ _ h2];done)
   |(obtain⟨h1,h2⟩:=fB h';obtain⟨h3,h4⟩:=fB h2;rw[h1,h3,lO ih _ _ h4];done)
   |cases h'
section
variable{P:Program}{L:Lay}{mask:Nat}{call:DV→List DV→Mm→CR}
theorem zA{env:List (Nat×DV)}{mask:Nat}{s:FE} (h:∀t,lk env t=rd mask s t) (l:List Nat):co (fun t=>(t,rd mask s t)) l=rst env l:=by
 rw[cw]
 unfold rst
 exact Db fun t _=>by rw[h t]
theorem nh (env:List (Nat×DV)) (x:Operand):(cel x).f env=ev env x:=by
 rw[xl]
 cases x with
 |tmp t=>exact cS _ _
 |_=>rfl
theorem tk{φ:List Mm}{r:RR}:∀(log:List DLog){e:XE}{s:FE},zo L φ r log=.ok e s→r=.ok e s∧∀g∈log,pU L φ g=true
 | [],e,s,h=>⟨h,by simp⟩
 |g::log,e,s,h=>by
  have h':bx (pU L φ g) (zo L φ r log) (.no g.pos)=.ok e s:=h
  rw[a7] at h'
  split at h'<;>try cases h'
  rename_i hg
  obtain⟨h1,h2⟩:=tk log h'
  refine⟨h1,fun q hq=>?_⟩
  rcases Bh.1 hq with rfl|hq
  ·exact hg
  ·exact h2 q hq
theorem s9{m m':Mm}{t:Nat}{d:DV} (h:kT L m t=some (d,m')):∃ti,L t=some ti∧ti.zero.cells.length=ti.k∧d=.ptr m.n 1 0 0∧m'=dj m (.arr t ti.k 1 (fC DV.one ti.zero.cells) [ti.zero]):=by
 unfold kT at h
 split at h<;>try cases h
 rename_i ti ht
 rw[aN,dB] at h
 split at h<;>cases h
 rename_i hk
 exact⟨ti,ht,hk,rfl,rfl⟩
end
theorem lZ{L:Lay}{mask:Nat}{ops:List Oper}{call:DV→List DV→Mm→CR}{o:Oper}{rest:List Oper}{D:DI}{I':List DI}{s:FE}:
 dZ L mask ops call (o::rest) (D::I') s=match xgd ops (lkb (co (fun t=>(t,rd mask s t)) D.rd)) o with
  |some false=>bx D.eff ((dZ L mask ops call rest I' (wr mask s o.dst .skip)).at s.m) (dZ L mask ops call rest I' (wr mask s o.dst .skip))
  |some true=>bx D.eff
   (match o.op with
   |.call {callee:=.value g,args:=xs,..}=>match call ((cel g).f (co (fun t=>(t,rd mask s t)) D.rd)) (co (fun x=>(cel x).f (co (fun t=>(t,rd mask s t)) D.rd)) xs.toList) s.m with
    |.ok (.ret d) m'=>(dZ L mask ops call rest I' (wr mask ⟨s.l,s.p,m',s.dd⟩ o.dst d)).at s.m
    |.ok (.pan d) m'=>match rest with
     | []=>⟨.ok (.panic d) ⟨[],mG (ops.map (·.dst)) s.p,m',s.dd⟩,[s.m,m'],[]⟩
     |_=>⟨.no o.pos,[s.m],[]⟩
    |.no p=>⟨.no p,[s.m],[]⟩
   |op=>match(cop L cel op).f (co (fun t=>(t,rd mask s t)) D.rd) s.m with
    |some (d,m')=>(dZ L mask ops call rest I' (wr mask ⟨s.l,s.p,m',s.dd⟩ o.dst d)).at s.m
    |none=>⟨.no o.pos,[s.m],[]⟩)
   (match dY L (evl (lkb (co (fun t=>(t,rd mask s t)) D.rd))) o.op with
   |some d=>dZ L mask ops call rest I' (wr mask s o.dst d)
   |none=>match jF L (evl (lkb (co (fun t=>(t,rd mask s t)) D.rd))) s.m o.op with
    |some d=>match dZ L mask ops call rest I' (wr mask s o.dst d) with
     |⟨r,φ,log⟩=>⟨r,φ,⟨co (fun t=>(t,rd mask s t)) D.rd,o.op,d,D.ph,o.pos⟩::log⟩
    |none=>⟨.no o.pos,[s.m],[]⟩)
  |none=>⟨.no o.pos,[s.m],[]⟩:=rfl
def DrK (mask:Nat) (e:XE) (s':FE):XE→St→Prop:=fun e' st=>e'=e∧Weak st (s'.st mask)
section
variable{C:Ctx}{L:Lay}{mask:Nat}{call:DV→List DV→Mm→CR}{arr:Array Oper}{φ:List Mm}{a:Nat}{env0:List (Nat×DV)}{e:XE}{s':FE}
theorem bI{p:Nat}{m:Mm} (h:φ[p]?=some m):(φ.map Mm.obs).getD p []=m.obs:=by
 rw[AZ,AQ,h];rfl
theorem pV (hL:af C.P L) (hc:cr C.P call) (hgood:∀m∈φ,aZ m):∀(l:List Oper) (I:List DI) (i p:Nat) (s:FE) (env:List (Nat×DV)) (k:DRun),
  dZ L mask arr.toList call l I s=k→k.r=.ok e s'→φ.drop p=k.φ→(∀g∈k.log,pU L φ g=true)→aZ s.m→arr.toList.drop i=l→
  (i≤a→a<arr.size→∃o D,arr.toList[a]?=some o∧iH o=true∧I[a-i]?=some D∧D.eff=true)→(∀t,lk env t=rd mask s t)→(∀t,gm (arr.toList.map (·.dst)) t=true→lk env t=lk env0 t)→
  fb C L arr (φ.map Mm.obs) a (DrK mask e s') env0 I i p l env∧φ[p]?=some s.m∧s'.dd=s.dd∧aZ s'.m:=by
 intro l
 induction l with
 |nil=>
  intro I i p s env k hk hr hφ hlog hm hl ha henv h0
  subst hk
  have hr':RR.ok .normal ⟨[],s.p,s.m,s.dd⟩=RR.ok e s':=hr
  cases hr'
  have hφ':φ.drop p=[s.m]:=hφ
  have hp:φ[p]?=some s.m:=by
   have:=congrArg Di hφ'
   rw[Cz] at this
   simpa using this
  refine⟨?_,hp,rfl,hm⟩
  have hd:fb C L arr (φ.map Mm.obs) a (DrK mask .normal ⟨[],s.p,s.m,s.dd⟩) env0 I i p [] env=DrK mask .normal ⟨[],s.p,s.m,s.dd⟩ .normal ⟨env,(φ.map Mm.obs).getD p []⟩:=by cases I<;>rfl
  rw[hd,bI hp]
  refine⟨rfl,rfl,fun t=>?_⟩
  show lk (a9 mask ⟨[],s.p,s.m,s.dd⟩) t=.undef∨lk (a9 mask ⟨[],s.p,s.m,s.dd⟩) t=lk env t
  rw[bm,henv t]
  unfold rd
  rw[a7,a7]
  split
  ·exact .inr rfl
  ·exact .inl rfl
 |cons o rest ih=>
  intro I i p s env k hk hr hφ hlog hm hl ha henv h0
  cases I with
  |nil=>subst hk;cases hr
  |cons D I'=>
   have ho:arr.toList[i]?=some o:=by
    have:=congrArg Di hl
    rw[Cz] at this
    simpa using this
   have hl':arr.toList.drop (i+1)=rest:=by
    have:=congrArg DR hl
    rwa [C4] at this
   have ha':i+1≤a→a<arr.size→∃o D,arr.toList[a]?=some o∧iH o=true∧I'[a-(i+1)]?=some D∧D.eff=true:=by
    intro h1 h2
    obtain⟨o',D',q1,q2,q3,q4⟩:=ha (by omega) h2
    refine⟨o',D',q1,q2,?_,q4⟩
    rw[show a-i=(a-(i+1))+1 by omega] at q3
    simpa using q3
   have hrs:=zA henv D.rd
   rw[lZ,hrs] at hk
   have hevl:evl (lkb (rst env D.rd))=ev (rst env D.rd):=by
    funext x
    rw[←xl,nh]
   rw[hevl] at hk
   have hdn:∀t,gm (arr.toList.map (·.dst)) t=true→o.dst≠some t:=by
    intro t h1 h2
    simp only[gm,AS,Ba,bne_iff_ne,ne_eq,forall_exists_index,and_imp,forall_apply_eq_imp_iff₂] at h1
    exact h1 o (AM ho) h2
   have henv':∀(d:DV) (m':Mm) (t:Nat),lk (upo env o.dst d) t=rd mask (wr mask ⟨s.l,s.p,m',s.dd⟩ o.dst d) t:=by
    intro d m' t
    rw[g9,ze,henv t]
    rfl
   have h0':∀(d:DV) (t:Nat),gm (arr.toList.map (·.dst)) t=true→lk (upo env o.dst d) t=lk env0 t:=by
    intro d t ht
    rw[oj (hdn t ht)]
    exact h0 t ht
   have hsm:∀d,wr mask s o.dst d=wr mask ⟨s.l,s.p,s.m,s.dd⟩ o.dst d:=fun _=>rfl
   have goE:∀{d:DV}{m':Mm}{k1:DRun},dZ L mask arr.toList call rest I' (wr mask ⟨s.l,s.p,m',s.dd⟩ o.dst d)=k1→k=k1.at s.m→aZ m'→
     fb C L arr (φ.map Mm.obs) a (DrK mask e s') env0 I' (i+1) (p+1) rest (upo env o.dst d)∧φ[p]?=some s.m∧φ[p+1]?=some m'∧s'.dd=s.dd∧aZ s'.m:=by
    intro d m' k1 hk1 hkk hm'
    subst hkk
    have hφ':φ.drop p=s.m::k1.φ:=hφ
    have hp:φ[p]?=some s.m:=by
     have:=congrArg Di hφ'
     rw[Cz] at this
     simpa using this
    have hφ2:φ.drop (p+1)=k1.φ:=by
     have:=congrArg DR hφ'
     rw[C4] at this
     exact this
    obtain⟨g1,g2,g3,g4⟩:=ih I' (i+1) (p+1) _ (upo env o.dst d) k1 hk1 hr hφ2 hlog (by rw[iJ];exact hm') hl' ha' (henv' d m') (h0' d)
    rw[iJ] at g2
    rw[pW] at g3
    exact⟨g1,hp,g2,g3,g4⟩
   have goP:∀{d:DV}{k1:DRun},dZ L mask arr.toList call rest I' (wr mask s o.dst d)=k1→k.r=k1.r→k.φ=k1.φ→(∀g∈k1.log,g∈k.log)→
     fb C L arr (φ.map Mm.obs) a (DrK mask e s') env0 I' (i+1) p rest (upo env o.dst d)∧φ[p]?=some s.m∧s'.dd=s.dd∧aZ s'.m:=by
    intro d k1 hk1 hkr hkφ hkl
    obtain⟨g1,g2,g3,g4⟩:=ih I' (i+1) p _ (upo env o.dst d) k1 hk1 (by rw[←hkr];exact hr) (by rw[←hkφ];exact hφ) (fun g hg=>hlog g (hkl g hg)) (by rw[iJ];exact hm) hl' ha' (henv' d s.m) (h0' d)
    rw[iJ] at g2
    rw[pW] at g3
    exact⟨g1,g2,g3,g4⟩
   simp only[fb,Av]
   by_cases hia:i=a
   ·-- the allocation
    have hasz:a<arr.size:=by
     have:=(AH.1 ho).1
     rw[←hia];simpa using this
    obtain⟨o',D',q1,q2,q3,q4⟩:=ha (by omega) hasz
    rw[←hia,ho] at q1
    cases q1
    rw[hia,B7] at q3
    have:D'=D:=by simpa using q3.symm
    subst this
    unfold iH at q2
    split at q2<;>try cases q2
    rename_i t hop hgn
    have hg:xgd arr.toList (lkb (rst env D'.rd)) o=some true:=by unfold xgd;rw[hgn]
    rw[hg] at hk
    dsimp only at hk
    rw[a7,if_pos q4,hop] at hk
    dsimp only at hk
    split at hk
    ·rename_i d m' hk1
     have hx:=pC hk1
     have hx':kT L s.m t=some (d,m'):=by
      unfold xop at hx
      simpa[dY,jF,vC] using hx
     obtain⟨ti,ht,hkk,rfl,rfl⟩:=s9 hx'
     have hpush:=hm.push (x:=.arr t ti.k 1 (fC DV.one ti.zero.cells) [ti.zero]) ⟨rfl,jA⟩
     obtain⟨g1,g2,g3,g4⟩:=goE rfl hk.symm hpush.goodm
     rw[if_pos hia,if_pos q4]
     refine⟨⟨t,ti,hgn,hop,ht,hkk,q4,?_,?_⟩,g2,g4⟩
     ·rw[bI g3,bI g2]
      exact hpush.obs.symm
     ·rw[bI g2,←MmOf.n hm]
      exact g1
    ·subst hk;cases hr
   ·rw[if_neg hia]
    have hxg:∀{b},xgd arr.toList (lkb (rst env D.rd)) o=some b→gd arr (rst env D.rd) o=some b:=fun h=>lY (fun t=>cS _ _) h
    split at hk
    ·rename_i hg
     rw[hxg hg]
     dsimp only
     rw[a7] at hk
     split at hk
     ·rename_i hE
      rw[hsm] at hk
      obtain⟨g1,g2,g3,g4⟩:=goE rfl hk.symm hm
      rw[if_pos hE]
      refine⟨⟨fun _=>?_,g1⟩,g2,g4⟩
      rw[bI g3,bI g2]
     ·rename_i hE
      obtain⟨g1,g2,g3⟩:=goP rfl (by rw[←hk]) (by rw[←hk]) (by rw[←hk];exact fun g h=>h)
      rw[if_neg hE]
      exact⟨⟨fun h=>absurd h hE,g1⟩,g2,g3⟩
    ·rename_i hg
     rw[hxg hg]
     dsimp only
     rw[a7] at hk
     split at hk
     ·rename_i hE
      rw[if_pos hE,if_pos hE]
      split at hk
      ·rename_i g xs ts hop
       have ha2:co (fun x=>(cel x).f (rst env D.rd)) xs.toList=xs.toList.map (ev (rst env D.rd)):=by
        rw[cw]
        exact Db fun x _=>nh _ _
       rw[ha2,nh] at hk
       split at hk
       ·rename_i d m' hkc
        obtain⟨c1,c2,_⟩:=hc _ _ _ _ _ hkc hm
        obtain⟨g1,g2,g3,g4⟩:=goE rfl hk.symm c1
        refine⟨⟨.ret d,?_,g1⟩,g2,g4⟩
        rw[bI g2,bI g3]
        exact c2 o ⟨rst env D.rd,s.m.obs⟩ g xs ts hop rfl rfl rfl
       ·rename_i d m' hkc
        obtain⟨c1,c2,_⟩:=hc _ _ _ _ _ hkc hm
        split at hk
        ·subst hk
         have hr':RR.ok (.panic d) ⟨[],mG (arr.toList.map (·.dst)) s.p,m',s.dd⟩=RR.ok e s':=hr
         cases hr'
         have hφ':φ.drop p=[s.m,m']:=hφ
         have hp:φ[p]?=some s.m:=by
          have:=congrArg Di hφ'
          rw[Cz] at this
          simpa using this
         have hp1:φ[p+1]?=some m':=by
          have:=congrArg (fun l=>l[1]?) hφ'
          simpa[Bk] using this
         refine⟨⟨.pan d,?_,rfl,rfl,?_,fun t=>?_⟩,hp,rfl,c1⟩
         ·rw[bI hp,bI hp1]
          exact c2 o ⟨rst env D.rd,s.m.obs⟩ g xs ts hop rfl rfl rfl
         ·rw[bI hp1];rfl
         ·show lk (a9 mask ⟨[],mG (arr.toList.map (·.dst)) s.p,m',s.dd⟩) t=.undef∨lk (a9 mask ⟨[],mG (arr.toList.map (·.dst)) s.p,m',s.dd⟩) t=lk (mG (arr.toList.map (·.dst)) env0) t
          rw[bm]
          unfold rd
          rw[a7,cS,cS]
          split
          ·rename_i hpm
           unfold mG
           rw[pn (f:=gm (arr.toList.map (·.dst))),pn (f:=gm (arr.toList.map (·.dst)))]
           split
           ·rename_i hnd
            right
            rw[←h0 t hnd,henv t]
            unfold rd
            rw[a7,if_pos hpm,cS]
           ·exact .inl rfl
          ·exact .inl rfl
        ·subst hk;cases hr
       ·subst hk;cases hr
      ·split at hk
       ·rename_i d m' hk1
        have hx:=pC hk1
        have he:(fun x=>(cel x).f (rst env D.rd))=ev (rst env D.rd):=by funext x;exact nh _ _
        rw[he] at hx
        obtain⟨σ',c1,c2⟩:=iw hL hm hx
        obtain rfl:=c2.obs
        obtain⟨g1,g2,g3,g4⟩:=goE rfl hk.symm c2.goodm
        refine⟨⟨.ret d,?_,g1⟩,g2,g4⟩
        rw[bI g2,bI g3]
        exact bK.of_run c1
       ·subst hk;cases hr
     ·rename_i hE
      rw[if_neg hE,if_neg hE]
      split at hk
      ·rename_i d hx
       obtain⟨g1,g2,g3⟩:=goP rfl (by rw[←hk]) (by rw[←hk]) (by rw[←hk];exact fun g h=>h)
       exact⟨⟨d,fun q _=>bK.of_run (kX hL hx _),g1⟩,g2,g3⟩
      ·split at hk
       ·rename_i d hx
        obtain⟨k1,hk1⟩:∃k1,k1=dZ L mask arr.toList call rest I' (wr mask s o.dst d):=⟨_,rfl⟩
        rw[←hk1] at hk
        cases k1 with
        |mk r φ1 log1=>
         dsimp only at hk
         obtain⟨g1,g2,g3⟩:=goP hk1.symm (by rw[←hk]) (by rw[←hk]) (by rw[←hk];exact fun g h=>List.mem_cons_of_mem _ h)
         refine⟨⟨d,fun q hq=>?_,g1⟩,g2,g3⟩
         have hlg:=hlog ⟨rst env D.rd,o.op,d,D.ph,o.pos⟩ (by rw[←hk];exact List.mem_cons_self ..)
         unfold pU at hlg
         rw[fq,AS] at hlg
         have hq':=hlg q hq
         split at hq'<;>try cases hq'
         rename_i mq hmq
         rw[gZ] at hmq
         split at hq'<;>try cases hq'
         rename_i dq hdq
         obtain rfl:=w7 _ _ _ hq'
         rw[bI hmq]
         rw[hevl] at hdq
         exact bK.of_run (kW hL (hgood mq (AM hmq)) hdq)
       ·subst hk;cases hr
    ·subst hk;cases hr
end
end
section
section
variable{P:Program}{L:Lay}{mask:Nat}{call:DV→List DV→Mm→CR}
theorem rP (hL:af P L) (hc:cr P call){ops:List Oper}:∀(l:List Oper) (I:List DI) (s:FE) (k:DRun) (e:XE) (s':FE),dZ L mask ops call l I s=k→k.r=.ok e s'→aZ s.m→∀m∈k.φ,aZ m:=by
 intro l
 induction l with
 |nil=>
  intro I s k e s' hk hr hm m hmm
  subst hk
  have hmm':m∈ [s.m]:=hmm
  obtain rfl:=BX.1 hmm'
  exact hm
 |cons o rest ih=>
  intro I s k e s' hk hr hm
  cases I with
  |nil=>subst hk;cases hr
  |cons D I'=>
   rw[lZ] at hk
   have goE:∀{d:DV}{m':Mm},(dZ L mask ops call rest I' (wr mask ⟨s.l,s.p,m',s.dd⟩ o.dst d)).at s.m=k→aZ m'→∀m∈k.φ,aZ m:=by
    intro d m' hkk hm' m hmm
    subst hkk
    have hmm':m∈s.m::(dZ L mask ops call rest I' (wr mask ⟨s.l,s.p,m',s.dd⟩ o.dst d)).φ:=hmm
    rcases Bh.1 hmm' with rfl|hmm'
    ·exact hm
    ·exact ih _ _ _ _ _ rfl hr (by rw[iJ];exact hm') m hmm'
   split at hk
   ·rw[a7] at hk
    split at hk
    ·exact goE hk hm
    ·subst hk
     exact ih _ _ _ _ _ rfl hr (by rw[iJ];exact hm)
   ·rw[a7] at hk
    split at hk
    ·split at hk
     ·split at hk
      ·rename_i d m' hkc
       exact goE hk (hc _ _ _ _ _ hkc hm).1
      ·rename_i d m' hkc
       split at hk
       ·subst hk
        intro m hmm
        have hmm':m∈ [s.m,m']:=hmm
        rcases Bh.1 hmm' with rfl|hmm'
        ·exact hm
        ·obtain rfl:=BX.1 hmm'
         exact(hc _ _ _ _ _ hkc hm).1
       ·subst hk;cases hr
      ·subst hk;cases hr
     ·split at hk
      ·rename_i d m' hk1
       have hx:=pC hk1
       have he:(fun x=>(cel x).f (co (fun t=>(t,rd mask s t)) D.rd))=ev (co (fun t=>(t,rd mask s t)) D.rd):=by funext x;exact nh _ _
       rw[he] at hx
       obtain⟨σ',c1,c2⟩:=iw hL hm hx
       exact goE hk c2.goodm
      ·subst hk;cases hr
    ·split at hk
     ·subst hk
      exact ih _ _ _ _ _ rfl hr (by rw[iJ];exact hm)
     ·split at hk
      ·rename_i d hx
       obtain⟨k1,hk1⟩:∃k1,k1=dZ L mask ops call rest I' (wr mask s o.dst d):=⟨_,rfl⟩
       rw[←hk1] at hk
       cases k1 with
       |mk r φ1 log1=>
        subst hk
        exact ih I' (wr mask s o.dst d) ⟨r,φ1,log1⟩ e s' hk1.symm hr (by rw[iJ];exact hm)
      ·subst hk;cases hr
   ·subst hk;cases hr
theorem yp{ops:List Oper}{I:List DI} (h:nF ops I<I.length):∃o D,ops[nF ops I]?=some o∧iH o=true∧I[nF ops I]?=some D∧D.eff=true:=by
 unfold nF at h⊢
 split at h
 ·rename_i i hi
  have:=List.find?_some hi
  simp only[BF] at this
  obtain⟨⟨⟨h1,h2⟩,_⟩,_⟩:=this
  split at h1<;>try cases h1
  rename_i o ho
  refine⟨o,I[i],ho,h1,by simp[h],?_⟩
  rw[AZ,AI h] at h2
  exact h2
 ·omega
theorem yV (hL:af P L) (hmx:P.follows .mixedOrders=true):pO P L:=by
 intro call hc x id ops I s s' e h hcode hm
 simp only[BF] at hcode
 obtain⟨hmap,hF⟩:=hcode
 have hmap:=eq_of_beq hmap
 have hsz:ops.size=I.length:=by simpa using congrArg Cr hmap
 have hi:∀i:Nat,(ops.toList[i]?.map fun o=>(o.dst,fc o))=I[i]?.map fun D:DI=>(D.dst,D.dir):=fun(i:Nat)=>by
  have:=congrArg (fun(q:List (Option Tmp×List Nat))=>q[i]?) hmap
  simpa only[AQ] using this
 have h1:∀i,aP ops i=(I.getD i .none).dst:=by
  intro i
  have:=hi i
  simp only[aP,←Cf,AZ]
  cases hx:ops.toList[i]?<;>cases hy:I[i]?<;>rw[hx,hy] at this<;>simp at this⊢
  ·rfl
  ·exact this.1
 have h2:∀i,fA ops i=(I.getD i .none).dir:=by
  intro i
  have:=hi i
  simp only[fA,←Cf,AZ]
  cases hx:ops.toList[i]?<;>cases hy:I[i]?<;>rw[hx,hy] at this<;>simp at this⊢
  ·rfl
  ·exact this.2
 unfold oJ at h
 split at h<;>try cases h
 rename_i e1 s1 φ log hk
 obtain⟨he,hlog⟩:=tk log h
 cases he
 have hgood:∀m∈φ,aZ m:=rP hL hc _ _ _ _ _ _ hk rfl hm
 have ha:nF ops.toList I<ops.size→∃o D,ops.toList[nF ops.toList I]?=some o∧iH o=true∧I[nF ops.toList I]?=some D∧D.eff=true:=by
  intro h
  rw[hsz] at h
  exact yp h
 obtain⟨a,hae⟩:∃a,a=nF ops.toList I:=⟨_,rfl⟩
 rw[←hae] at ha hF
 have key:∀C:Ctx,C.P=P→fb C L ops (φ.map Mm.obs) a (DrK x.mask e s') (a9 x.mask s) I 0 0 ops.toList (a9 x.mask s)∧φ[0]?=some s.m∧s'.dd=s.dd∧aZ s'.m:=by
  intro C hCP
  subst hCP
  exact pV hL hc hgood ops.toList I 0 0 s (a9 x.mask s) ⟨.ok e s',φ,log⟩ hk rfl rfl hlog hm rfl (fun _ h=>ha h) (fun t=>bm _ _ _) fun t _=>rfl
 have hg':aZ s'.m:=by
  obtain⟨_,_,_,g⟩:=pV (C:=⟨P,0,none,[],default,fun _ _=>False,fun _=>none,[],fun _ _=>rfl⟩) hL hc hgood ops.toList I 0 0 s (a9 x.mask s) ⟨.ok e s',φ,log⟩ hk rfl rfl hlog hm rfl (fun _ h=>ha h) (fun t=>bm _ _ _) fun t _=>rfl
  exact g
 refine⟨hg',fun C hC act w hr=>?_⟩
 obtain⟨hdw,hφ0,hdd,_⟩:=key (C.at s.dd) hC.P
 obtain⟨E,ds,q0,q1,q2⟩:=sY (I:=I) ops.toList 0 (a9 x.mask s) I 0 (BD _) rfl rfl rfl hdw
 have hf:(fun i=>(BI ops.size false).getD i false)=fun _=>false:=by
  funext i
  rw[A0]
  rw[De]
  split<;>rfl
 have hvf:vis I (fun _=>false) a=fun _=>false:=by funext k;exact cY rfl
 have hn:∀n,aM I (fun _=>false) n=0:=by
  intro n
  induction n with
  |zero=>rfl
  |succ n ih=>simp[aM,ih]
 have hv:∀n t,vAt ops (E 0) ds (fun _=>false) n t=lk (E 0) t:=by
  intro n t
  induction n with
  |zero=>rfl
  |succ n ih=>simp[vAt,ih]
 have hCP:C.P=P:=hC.P
 have hpost:(Code.region id ops true).wpIn C.fe 0 C.P (iM (C.at s.dd) (DrK x.mask e s')) act w:=by
  refine wpIn_region_any (by rw[hCP];exact hmx) ?_
  obtain⟨F,μ,hr⟩:=Rel.drew hr (w.drawn+1) (DN _)
  refine u7 (C:=C.at s.dd) (by show af C.P L;rw[hCP];exact hL) (I:=I) (φ:=φ.map Mm.obs) (a:=a) (E:=E) (ds:=ds) hsz h1 h2 (by rw[show(C.at s.dd).n=C.n from rfl,hC.n];exact hF)
   (fun k hk=>by rw[q0];exact q1 k (BD _) hk) (by rw[q0];exact q2.imp (fun h=>h) fun⟨k,_,b,c⟩=>⟨k,b,c⟩) _ _ act _ (by simp) ?_ ?_ ?_
  ·intro i hi hl
   rw[show(BI ops.size false).getD i false=false from congrFun hf i] at hl
   cases hl
  ·rw[hf]
   exact pF _
  ·rw[hf,hvf,hn]
   refine⟨a9 x.mask s,F,μ,?_,fun t _=>?_,fun h=>by cases h.1⟩
   ·rw[bI hφ0]
    exact hr
   ·rw[hv,q0]
 refine wpIn_mono hpost fun ex act' w' hp=>?_
 cases ex with
 |normal=>
  obtain⟨st,⟨rfl,hw⟩,hr'⟩:=hp
  exact⟨rfl,by rw[hdd];exact hr'.weak hw⟩
 |exit i=>
  obtain⟨st,⟨rfl,hw⟩,hr'⟩:=hp
  exact⟨rfl,by rw[hdd];exact hr'.weak hw⟩
 |ret=>
  obtain⟨st,⟨rfl,hw⟩,hr'⟩:=hp
  exact⟨rfl,by rw[hdd];exact hr'.weak hw⟩
 |panic ch=>
  obtain⟨st,d,v,F,μ,⟨rfl,hw⟩,h1,h2,h3⟩:=hp
  refine⟨d,v,F,μ,rfl,h1,?_,?_⟩
  ·rw[hdd];exact h2.weak hw
  ·rw[hw.ob];exact h3
 |goto l=>exact hp.elim
 |outgrown=>exact hp.elim
end
theorem zy{P:Program}{L:Lay}{T:Nat→FT} (hL:af P L) (hmx:P.follows .mixedOrders=true) (hT:TabOk P T) (n:Nat):i9 P (cL L T n)∧cr P (im L T (cL L T n)):=by
 have hC:lR P L T:=y6 hL hT (wG hL hT) (wd hT)
 have hr:=vB hL (yV hL hmx) x9 hC n
 exact⟨hr,hC _ hr⟩
theorem sO{P:Program}{L:Lay}{T:Nat→FT} (hL:af P L) (hmx:P.follows .mixedOrders=true) (hT:TabOk P T) (n:Nat){f:Nat}{args:List DV}{m m':Mm}{out:Out} (h:im L T (cL L T n) (.fn f []) args m=.ok out m') (hm:aZ m):
  aZ m'∧Ok P f args m.obs out m'.obs:=by
 obtain⟨g1,_,g2⟩:=(zy hL hmx hT n).2 _ _ _ _ _ h hm
 have:=g2 f [] rfl
 rw[AK] at this
 exact⟨g1,this⟩
end
section
noncomputable def mz1 (f:DV→DV→Bool) (m:Mm) (c:Nat) (d D:DV):Bool:=match d,D with
 |.int k x,.int k' y=>bx (A4 (kJ k) (kJ k')) (eqx x y) false
 |.bool x,.bool y=>bx x y (kB y)
 |.str x,.str y=>eqs (co UInt8.toNat x.data.toList) (co UInt8.toNat y.data.toList)
 |.nils,.nils=>true
 |.nilp,.nilp=>true
 |.nili,.nili=>true
 |.nilf,.nilf=>true
 |.nils,.vec c' k []=>A4 c c'
 |.emp,.vec c' k []=>A4 c c'
 |.agg xs,.agg ys=>gK f xs ys
 |.tup xs,.tup ys=>gK f xs ys
 |.fn g xs,.fn g' ys=>bx (A4 g g') (gK f xs ys) false
 |.iface t x,.iface t' y=>bx (A4 t t') (f x y) false
 |.sl id g off l,.vec c' k ys=>bx (A4 c c') (match m.t.get id with
  |some (.arr _ k' ln _ xs)=>bx (A4 k k') (bx (A4 g ln) (gK (fun x y=>gK f x.cells y.cells) (gy l (iW off xs)) ys) false) false
  |_=>false) false
 |.ptr id g j o,.vptr c' ys=>bx (A4 c c') (match m.t.get id with
  |some (.arr _ k' ln _ xs)=>bx (A4 g ln) (match nth xs j with
   |some x=>gK f (iW o x.cells) ys
   |none=>false) false
  |_=>false) false
 |.vec c1 k xs,.vec c2 k' ys=>bx (A4 c1 c2) (bx (A4 k k') (gK (fun x y=>gK f x.cells y.cells) xs ys) false) false
 |_,_=>false
noncomputable def mz (n:Nat) (m:Mm) (c:Nat):DV→DV→Bool:= @Nat.rec (fun _=>DV→DV→Bool) (fun _ _=>false) (fun _ f=>mz1 f m c) n
theorem dg{f:DV→DV→Bool}:∀(a b:List DV),gK f a b=true→a.length=b.length∧∀(i:Nat) (x y:DV),a[i]?=some x→b[i]?=some y→f x y=true
 | [],[],_=>⟨rfl,fun i x y h=>by simp at h⟩
 | [],y::r,h=>by cases h
 |x::q,[],h=>by cases h
 |x::q,y::r,h=>by
  have h':bx (f x y) (gK f q r) false=true:=h
  rw[a7] at h'
  split at h'
  ·rename_i hx
   obtain⟨h1,h2⟩:=dg q r h'
   refine⟨by simp[h1],fun i a b ha hb=>?_⟩
   cases i with
   |zero=>simp at ha hb;subst ha;subst hb;exact hx
   |succ i=>exact h2 i a b (by simpa using ha) (by simpa using hb)
  ·cases h'
section
variable{w:World}{F F':Nat→Nat→Prop}{μ μ':Nat→Option Nat}{m:Mm}{σ0:List Ob}{c:Nat}
theorem kH{f:DV→DV→Bool} (hf:∀d D v,f d D=true→Rep w F μ m.obs d v→Rep w F' μ' σ0 D v){xs ys:List DV}{vs:List Value} (h:gK f xs ys=true) (hl:xs.length=vs.length)
  (hr:∀(i:Nat) (d:DV) (v:Value),xs[i]?=some d→vs[i]?=some v→Rep w F μ m.obs d v):ys.length=vs.length∧∀(i:Nat) (d:DV) (v:Value),ys[i]?=some d→vs[i]?=some v→Rep w F' μ' σ0 d v:=by
 obtain⟨h1,h2⟩:=dg _ _ h
 refine⟨by omega,fun i d v hd hv=>?_⟩
 have hi:=(AH.1 hd).1
 have hx:xs[i]?=some xs[i]:=AI (by omega)
 exact hf _ _ _ (h2 i _ _ hx hd) (hr i _ _ hx hv)
theorem zi (hg:aZ m) (hr:HR w F μ m.obs) (hF:∀c b,F c b→F' c b) (hμ:∀id b,μ id=some b→F' c b):∀n d D v,mz n m c d D=true→Rep w F μ m.obs d v→Rep w F' μ' σ0 D v
 |0,d,D,v,h,_=>by cases h
 |n+1,d,D,v,h,hv=>by
  have ih:=zi hg hr hF hμ n
  have h':mz1 (mz n m c) m c d D=true:=h
  unfold mz1 at h'
  split at h'
  ·obtain⟨h1,h2⟩:=fB h'
   rw[(mU _ _).1 h1,(lL _ _).1 h2] at hv
   cases hv;exact .int
  ·rename_i x y
   have:x=y:=by
    revert h'
    cases x<;>cases y<;>intro h'<;>first|rfl|cases h'
   subst this
   cases hv;exact .bool
  ·rename_i x y
   have:=(lN _ _).1 h'
   rw[cw,cw] at this
   have h2:x.data.toList=y.data.toList:=(DM (fun a b e=>UInt8.toNat_inj.1 e)).1 this
   have:x=y:=by
    cases x;cases y
    congr 1
    exact BJ h2
   subst this
   cases hv;exact .str
  ·cases hv;exact .nils
  ·cases hv;exact .nilp
  ·cases hv;exact .nili
  ·cases hv;exact .nilf
  ·cases hv
   exact .vec (A:=none) (cap:=0) (fun _ _=>undef) (by simp) (by simp) (fun h=>by simp at h) (fun x hx=>by simp at hx) (fun j i x d hx=>by simp at hx)
  ·cases hv
   exact .vec (cap:=0) (fun _ _=>undef) (by simp) (by simp) (fun h=>by simp at h) (fun x hx=>by simp at hx) (fun j i x d hx=>by simp at hx)
  ·cases hv with
   |agg hl hh=>
    obtain⟨h1,h2⟩:=kH ih h' hl hh
    exact .agg h1 h2
  ·cases hv with
   |tup hl hh=>
    obtain⟨h1,h2⟩:=kH ih h' hl hh
    exact .tup h1 h2
  ·obtain⟨e,h2⟩:=fB h'
   replace h':=h2;clear h2
   subst e
   cases hv with
   |fn hl hh=>
    obtain⟨h1,h2⟩:=kH ih h' hl hh
    exact .fn h1 h2
  ·obtain⟨e,h2⟩:=fB h'
   replace h':=h2;clear h2
   subst e
   cases hv with
   |iface hh=>exact .iface (ih _ _ _ h' hh)
  ·-- a slice
   rename_i id g off l c' k ys
   obtain⟨e,h2⟩:=fB h'
   replace h':=h2;clear h2
   subst e
   split at h'<;>try cases h'
   rename_i t k' ln on xs ho
   obtain⟨e,h2⟩:=fB h'
   replace h':=h2;clear h2
   subst e
   obtain⟨e,h2⟩:=fB h'
   replace h':=h2;clear h2
   subst e
   rw[gL,ik] at h'
   obtain⟨ho1,hln⟩:=MmOf.arr hg ho
   obtain⟨e1,e2⟩:=dg _ _ h'
   cases hv with
   | @sl _ _ _ _ A cap hs=>
    obtain⟨t2,k2,xs2,ho2,q1,q2,q3,q4,q5⟩:=hs
    rw[ho1] at ho2
    cases ho2
    have hlen:ys.length=l:=by
     rw[←e1];simp;omega
    obtain⟨hk1,hor⟩:=hr.obj _ _ ho1
    rcases q5 hln with⟨g0,rfl,rfl,hmu⟩|⟨b,cur,fr,hmu,hh,hsz,hAs,hA⟩
    ·have:l=0:=by omega
     subst this
     have hy:ys=[]:=B1.1 hlen
     subst hy
     exact .vec (A:=none) (cap:=0) (fun _ _=>undef) (by simp) (by simp) (fun h=>by simp at h) (fun x hx=>by simp at hx) (fun j i x d hx=>by simp at hx)
    ·rcases hor with⟨rfl,hmu'⟩|⟨b',cur',fr',hmu',hh',hfr',hcells⟩
     ·rw[hmu] at hmu';cases hmu'
     rw[hmu] at hmu';cases hmu'
     rw[hh] at hh';cases hh'
     have key:∀(j i:Nat) (y D:DV),ys[j]?=some y→y.cells[i]?=some D→∃x d,xs[off+j]?=some x∧x.cells.length=y.cells.length∧x.cells[i]?=some d∧mz n m c d D=true:=by
      intro j i y D hy hD
      have hj:=(AH.1 hy).1
      have hx:((xs.drop off).take l)[j]?=some (((xs.drop off).take l)[j]'(by omega)):=AI _
      have hxy:=e2 j _ _ hx hy
      obtain⟨f1,f2⟩:=dg _ _ hxy
      have hi:=(AH.1 hD).1
      refine⟨_,_,?_,f1,AI (by omega),f2 i _ _ (AI (by omega)) hD⟩
      rw[CY,if_pos (by omega),Bk] at hx
      exact hx
     have:=Rep.vec (w:=w) (F:=F') (μ:=μ') (σ:=σ0) (c:=c) (k:=k) (xs:=ys) (A:=A) (cap:=cap) (fun j i=>(cur[(off+j)*k+i]?).getD undef) (by omega) q4 (fun h0=>by
      refine⟨_,hA (.inl (by omega)),hμ _ _ hmu,fun j i hj hi=>?_⟩
      have hy:ys[j]?=some ys[j]:=AI hj
      have hx:((xs.drop off).take l)[j]?=some (((xs.drop off).take l)[j]'(by omega)):=AI _
      have hxk:=hk1 _ (By (Bz (AM hx)))
      rw[CY,if_pos (by omega),Bk] at hx
      obtain⟨vv,g1,g2⟩:=hcells (off+j) i _ _ hx (AI (show i<_ by rw[hxk];exact hi))
      rw[g1]
      rw[cj]
      unfold World.cell?
      rw[hh]
      dsimp only
      rw[show off*k+(j*k+i)=(off+j)*k+i by rw[Bx];omega,g1]
      rfl) (fun y hy=>by
      obtain⟨j,hj⟩:=Cc hy
      have hjl:=(AH.1 hj).1
      have hx:((xs.drop off).take l)[j]?=some (((xs.drop off).take l)[j]'(by omega)):=AI _
      rw[←(dg _ _ (e2 j _ _ hx hj)).1]
      exact hk1 _ (By (Bz (AM hx)))) (fun j i y D hy hD=>by
      obtain⟨x,d,f1,f2,f3,f4⟩:=key j i y D hy hD
      obtain⟨vv,g1,g2⟩:=hcells (off+j) i x d f1 f3
      rw[g1]
      exact ih _ _ _ f4 g2)
     rwa [hlen] at this
  ·-- a pointer
   rename_i id g j o c' ys
   obtain⟨e,h2⟩:=fB h'
   replace h':=h2;clear h2
   subst e
   split at h'<;>try cases h'
   rename_i t k' ln on xs ho
   obtain⟨e,h2⟩:=fB h'
   replace h':=h2;clear h2
   subst e
   split at h'<;>try cases h'
   rename_i x hx
   rw[gZ] at hx
   rw[ik] at h'
   obtain⟨ho1,hln⟩:=MmOf.arr hg ho
   obtain⟨e1,e2⟩:=dg _ _ h'
   cases hv with
   | @ptr _ _ _ _ a hp=>
    obtain⟨t2,k2,xs2,ho2,q1,q2⟩:=hp
    rw[ho1] at ho2
    cases ho2
    obtain⟨b,hb,rfl⟩:=q2 hln
    obtain⟨hk1,hor⟩:=hr.obj _ _ ho1
    rcases hor with⟨rfl,hmu'⟩|⟨b',cur,fr,hmu',hh,hfr,hcells⟩
    ·rw[hb] at hmu';cases hmu'
    rw[hb] at hmu';cases hmu'
    have key:∀(i:Nat) (D:DV),ys[i]?=some D→∃d,x.cells[o+i]?=some d∧mz n m c d D=true:=by
     intro i D hD
     have hi:=(AH.1 hD).1
     have hd:(x.cells.drop o)[i]?=some ((x.cells.drop o)[i]'(by omega)):=AI _
     refine⟨_,?_,e2 i _ _ hd hD⟩
     rw[Bk] at hd
     exact hd
    refine .vptr (fun i=>(cur[j*k'+(o+i)]?).getD undef) (hμ _ _ hb) (fun i hi=>?_) (fun i D hD=>?_)
    ·obtain⟨d,f1,_⟩:=key i _ (AI hi)
     obtain⟨vv,g1,_⟩:=hcells j (o+i) x d hx f1
     rw[g1,cj]
     unfold World.cell?
     rw[hh]
     dsimp only
     rw[C0,g1]
     rfl
    ·obtain⟨d,f1,f2⟩:=key i D hD
     obtain⟨vv,g1,g2⟩:=hcells j (o+i) x d hx f1
     rw[g1]
     exact ih _ _ _ f2 g2
  ·-- what nobody writes
   rename_i c1 k xs c2 k' ys
   obtain⟨e,h2⟩:=fB h'
   replace h':=h2;clear h2
   subst e
   obtain⟨e,h2⟩:=fB h'
   replace h':=h2;clear h2
   subst e
   obtain⟨e1,e2⟩:=dg _ _ h'
   cases hv with
   | @vec _ _ _ A cap u hc hm ha hk hrr=>
    have:=Rep.vec (w:=w) (F:=F') (μ:=μ') (σ:=σ0) (c:=c1) (k:=k) (xs:=ys) (A:=A) (cap:=cap) u (by omega) hm (fun h0=>by
     obtain⟨a,f1,f2,f3⟩:=ha (by omega)
     exact⟨a,f1,hF _ _ f2,fun j i hj hi=>f3 j i (by omega) hi⟩) (fun y hy=>by
     obtain⟨j,hj⟩:=Cc hy
     have hjl:=(AH.1 hj).1
     have hx:xs[j]?=some (xs[j]'(by omega)):=AI _
     rw[←(dg _ _ (e2 j _ _ hx hj)).1]
     exact hk _ (AM hx)) (fun j i y D hy hD=>by
     have hjl:=(AH.1 hy).1
     have hx:xs[j]?=some (xs[j]'(by omega)):=AI _
     obtain⟨f1,f2⟩:=dg _ _ (e2 j _ _ hx hy)
     have hi:=(AH.1 hD).1
     have hd:(xs[j]'(by omega)).cells[i]?=some ((xs[j]'(by omega)).cells[i]'(by omega)):=AI _
     exact ih _ _ _ (f2 i _ _ hd hD) (hrr j i _ _ hx hd))
    rwa [←e1] at this
  ·cases h'
end
theorem HR.empty{w:World}{F:Nat→Nat→Prop}{μ:Nat→Option Nat}{σ:List Ob} (hr:HR w F μ σ):HR w F (fun _=>none) []:=
 ⟨fun id o h=>(by simp at h),fun _ _=>rfl,fun _ _ _ h=>(by cases h),fun _ _ h=>(by cases h),fun c b h=>⟨(hr.col c b h).1,fun _ e=>(by cases e)⟩⟩
theorem cI{n:Nat}{x:DV} (h:Low n x){i:Nat}{d:DV} (hd:x.cells[i]?=some d):Low n d:=by
 cases x with
 |agg cs=>exact(aH cs).1 h d (AM hd)
 |_=>
  cases i with
  |zero=>simp only[DV.cells,AY,AX.injEq] at hd;subst hd;exact h
  |succ i=>simp[DV.cells] at hd
theorem Rep.low0{w:World}{F:Nat→Nat→Prop}{μ μ':Nat→Option Nat}{σ σ':List Ob}{d:DV}{v:Value} (h:Rep w F μ σ d v):Low 0 d→Rep w F μ' σ' d v:=by
 induction h with
 |int=>intro _;exact .int
 |bool=>intro _;exact .bool
 |str=>intro _;exact .str
 |vec u hc hm ha hk hr ih=>
  intro hl
  exact .vec u hc hm ha hk fun j i x d hx hd=>ih j i x d hx hd (cI ((iD _ _ _).1 hl x (AM hx)) hd)
 |agg hl h ih=>intro h0;exact .agg hl fun i d v hd hv=>ih i d v hd hv ((aH _).1 h0 d (AM hd))
 |tup hl h ih=>intro h0;exact .tup hl fun i d v hd hv=>ih i d v hd hv ((eh _).1 h0 d (AM hd))
 |ptr h=>intro h0;exact absurd ((fm _ _ _ _).1 h0) (by omega)
 |vptr u hF hu hr ih=>intro h0;exact .vptr u hF hu fun i d hd=>ih i d hd ((mR _ _).1 h0 d (AM hd))
 |sl h=>intro h0;exact absurd ((da _ _ _ _).1 h0) (by omega)
 |slx h=>intro h0;exact absurd ((pf _ _ _ _ _).1 h0) (by omega)
 |nils=>intro _;exact .nils
 |nilp=>intro _;exact .nilp
 |fn hl h ih=>intro h0;exact .fn hl fun i d v hd hv=>ih i d v hd hv ((pj _ _).1 h0 d (AM hd))
 |nilf=>intro _;exact .nilf
 |iface h ih=>intro h0;exact .iface (ih ((dz _ _).1 h0))
 |nili=>intro _;exact .nili
 |mp h ho=>intro h0;exact absurd ((pi _).1 h0) (by omega)
 |it h ho=>intro h0;exact absurd ((sQ _).1 h0) (by omega)
 |yld h ho=>intro h0;exact absurd ((pe _).1 h0) (by omega)
 |emp=>intro _;exact .emp
 |undef=>intro _;exact .undef
 |skip=>intro _;exact .skip
theorem HR.keepAll{w w':World}{F F':Nat→Nat→Prop}{μ:Nat→Option Nat}{σ:List Ob} (hr:HR w F μ σ) (hk:∀b,b<w.heap.size→w'.heap[b]?=w.heap[b]?) (hF:∀c b,F c b→F' c b) (hF':∀c b,F' c b→F c b∨(w.heap.size≤b∧b<w'.heap.size)) (hs:w.heap.size≤w'.heap.size):
  HR w' F' μ σ∧Step w F μ σ w' F' μ σ:=by
 have hst:Step w F μ σ w' F' μ σ:=by
  refine⟨fun c b h=>hk b (hr.col c b h).1,hF,fun id o h=>⟨o,h,Ob.ext_refl o⟩,fun id t k xs ys h h' hl=>⟨rfl,fun b cur fr hm hh=>⟨cur,fr,by rw[hk b (hr.lt _ _ hm)];exact hh,rfl⟩⟩,fun _ _ _ _=>rfl⟩
 refine⟨⟨fun id o h=>?_,hr.out,hr.inj,fun id b h=>DJ (hr.lt id b h) hs,fun c b h=>?_⟩,hst⟩
 ·have:=hr.obj id o h
  cases o with
  |arr t k xs=>
   refine⟨this.1,?_⟩
   rcases this.2 with⟨e1,e2⟩|⟨b,cu,fr,hb,hh,hfr,hcc⟩
   ·exact .inl ⟨e1,e2⟩
   ·refine .inr ⟨b,cu,fr,hb,by rw[hk b (hr.lt _ _ hb)];exact hh,hfr,fun j q x d hx hd=>?_⟩
    obtain⟨v,h1,h2⟩:=hcc j q x d hx hd
    exact⟨v,h1,h2.step hst⟩
  |oth t ds=>exact iu.keep this hst h fun b hb=>hk b (hr.lt _ _ hb)
  |dead=>exact this
 ·rcases hF' c b h with h|⟨h1,h2⟩
  ·exact⟨DJ (hr.col c b h).1 hs,(hr.col c b h).2⟩
  ·exact⟨h2,fun id e=>by have:=hr.lt id b e;omega⟩
theorem Ok.freeze{P:Program}{f:FuncId}{args:List DV}{d D:DV}{m:Mm} (h:Ok P f args [] (.ret d) m.obs) (hg:aZ m){n c:Nat} (hz:mz n m c d D=true) (ha:∀x∈args,Low 0 x) (σ:List Ob):Ok P f args σ (.ret D) σ:=by
 refine⟨h.enters,fun w F μ vs hr hv=>?_⟩
 have hv0:bF w F (fun _=>none) [] args vs:=⟨hv.1,fun i d v hd hv'=>(hv.2 i d v hd hv').low0 (ha d (AM hd))⟩
 refine(h.calls w F _ vs hr.empty hv0).mono fun e w' he=>?_
 obtain⟨F1,μ1,v,haf,rfl,hrep⟩:=he
 have hk:∀b,b<w.heap.size→w'.heap[b]?=w.heap[b]?:=fun b hb=>haf.fr.keep b hb fun _ e=>by cases e
 have hnew:∀id b,μ1 id=some b→w.heap.size≤b:=fun id b e=>by
  rcases haf.fr.new id b e with e|e
  ·cases e
  ·exact e
 obtain⟨k1,k2⟩:=hr.keepAll (F':=fun c' b=>F1 c' b∨(c'=c∧∃id,μ1 id=some b)) hk (fun c b h=>.inl (haf.step.col c b h)) (fun c' b h=>by
  rcases h with h|⟨_,id,h⟩
  ·rcases haf.col c' b h with h2|h2
   ·exact .inl h2
   ·exact .inr ⟨h2,(haf.hr.col c' b h).1⟩
  ·exact .inr ⟨hnew id b h,haf.hr.lt id b h⟩) haf.fr.size
 refine⟨_,μ,v,⟨k1,k2,⟨haf.fr.os,haf.fr.tape,haf.fr.output,haf.fr.size,fun b hb _=>hk b hb,fun id b e=>.inl e,haf.fr.drawn⟩,fun c' b h=>?_⟩,rfl,?_⟩
 ·rcases h with h|⟨_,id,h⟩
  ·exact haf.col c' b h
  ·exact .inr (hnew id b h)
 ·exact zi hg haf.hr (fun c b h=>.inl h) (fun id b e=>.inr ⟨rfl,id,e⟩) n d D v hz hrep
end
theorem ar.capNil{P:Program}{L:Lay} (hL:af P L){o:Oper}{st:St}{x:Operand}{t e:TypeId}{q:Bool}{k b:Nat}{z:DV} (ho:o.op=.call {callee:=.builtin .cap,args:= #[x],argTypes:= #[t]}) (ht:L t=some ⟨q,k,b,.slice e,z⟩) (hx:ev st.env x=.nils):
  ar P o st (.int .i64 0) st.ob:=by
 refine ar.pure fun a w F μ hr he=>?_
 have hv:=he x
 rw[hx] at hv
 obtain⟨desc,hu,rfl⟩:=(hL _ _ ht).und
 generalize hq:a.eval x=v at hv
 cases hv
 refine⟨.int .i64 0,?_,.int⟩
 simp[execOp,ho,resolve,Sem.run_bind,Sem.run_pure,Result.andThen_ok,invoke,Go.builtin,Builtin.cap_,run_underlying hu,goInt,hq]
theorem ag.trunc{C:Ctx}{σ:List Ob}{t k:Nat}{xs:List DV} (hσ:C.σ0=σ) (hf:gF σ) (hdd:C.dd=[]:=by assumption):ag C (.sl σ.length xs.length 0 0) (σ++[.arr t k xs]) (.sl σ.length 0 0 0) (σ++[.arr t k []]):=by
 intro a w v F μ h r
 have hno:∀d v,bj σ.length d→Rep w F μ (σ++[.arr t k xs]) d v→Rep w F μ (σ++[.arr t k []]) d v:=by
  intro d v hn h
  have:=Rep.fz (F':=F) (μ':=μ) (σ':=σ++[.arr t k []]) (id:=σ.length) (N:=xs.length) (r:=fun _ _=>.undef) (fun _ _=>rfl) (fun _ _ h=>h) (fun _ _=>rfl) (fun i o hi ho=>by
   rw[aD,if_neg hi] at ho
   exact⟨o,by rw[aD,if_neg hi];exact ho,by
    cases o with
    |arr t k xs=>exact⟨xs,rfl,rfl⟩
    |oth t ds=>exact⟨ds,rfl⟩
    |dead=>rfl⟩) (fun _ _ _ _ _=>.undef) h
  rwa [hn] at this
 have hst:∀(i:Nat) (o:Ob),σ[i]?=some o→(σ++[Ob.arr t k []])[i]?=some o:=fun i o ho=>by
  have:=(AH.1 ho).1
  rw[aD,if_neg (by omega)];exact ho
 have hob:HR w F μ (σ++[.arr t k []]):=by
  refine⟨fun i o ho=>?_,fun i hi=>h.hr.out i (by simp at hi⊢;omega),h.hr.inj,h.hr.lt,h.hr.col⟩
  rw[aD] at ho
  by_cases hi:i=σ.length
  ·rw[if_pos hi] at ho
   cases ho
   subst hi
   obtain⟨_,h2⟩:=h.hr.obj σ.length (.arr t k xs) (by rw[aD,if_pos rfl])
   refine⟨by simp,?_⟩
   rcases h2 with⟨_,hmu⟩|⟨b,cur,fr,h3,h4,h5,_⟩
   ·exact .inl ⟨rfl,hmu⟩
   ·exact .inr ⟨b,cur,fr,h3,h4,h5,fun j i x d hx=>by simp at hx⟩
  ·rw[if_neg hi] at ho
   have hil:=(AH.1 ho).1
   have hold:=h.hr.obj i o (by rw[aD,if_neg hi];exact ho)
   have hfo:∀N r,dW σ.length N r o=o:=fun N r=>by
    have:=congrArg (fun l=>l[i]?) (hf σ.length (AU _) N r)
    simp only[AQ,ho,AW,AX.injEq] at this
    exact this
   cases o with
   |arr t' k' zs=>
    have hz:∀x∈zs,bj σ.length x:=jk.1 hfo
    refine⟨hold.1,?_⟩
    rcases hold.2 with e|⟨b,cur,fr,h3,h4,h5,h6⟩
    ·exact .inl e
    ·refine .inr ⟨b,cur,fr,h3,h4,h5,fun j i x d hx hd=>?_⟩
     obtain⟨v,g1,g2⟩:=h6 j i x d hx hd
     refine⟨v,g1,hno d v ?_ g2⟩
     have hxn:=hz x (AM hx)
     cases x with
     |agg cs=>exact(eY cs).1 hxn d (AM hd)
     |_=>
      cases i with
      |zero=>simp only[DV.cells,AY,AX.injEq] at hd;subst hd;exact hxn
      |succ i=>simp[DV.cells] at hd
   |oth t' ds=>
    have hz:∀x∈ds,bj σ.length x:=mK.1 hfo
    obtain⟨h1,vs,h2,h3,h4⟩:=hold
    refine⟨fun q hq=>?_,vs,h2,h3,fun q d v hd hv=>hno d v (hz d (AM hd)) (h4 q d v hd hv)⟩
    obtain⟨t2,es,g⟩:=h1 q hq
    rw[aD] at g
    by_cases hqs:q=σ.length
    ·rw[if_pos hqs] at g;cases g
    ·rw[if_neg hqs] at g
     exact⟨t2,es,hst _ _ g⟩
   |dead=>exact hold
 refine⟨F,μ,⟨hob,fun _=>.undef,⟨h.step.imm,h.step.col,fun i o ho=>?_,fun i t' k' zs ys hz hy he=>?_,fun i tt es hi=>h.step.othsame i tt es hi⟩,h.fr,h.col,h.size,?_⟩,?_⟩
 ·rw[hσ] at ho
  exact⟨o,hst i o ho,Ob.ext_refl o⟩
 ·have hz':=hz
  rw[hσ] at hz'
  have hil:=(AH.1 hz').1
  refine h.step.same i t' k' zs ys hz ?_ he
  rw[aD,if_neg (by omega)] at hy⊢
  exact hy
 ·rw[hdd]
  have:=h.defers
  rw[hdd] at this
  exact this
 ·cases r with
  | @sl _ _ _ _ A cap hs=>
   refine .sl ?_
   obtain⟨t2,k2,xs2,ho2,q1,q2,q3,q4,q5⟩:=hs
   rw[aD,if_pos rfl] at ho2
   cases ho2
   refine⟨t,k,[],by rw[aD,if_pos rfl],by omega,by omega,q3,q4,fun _=>?_⟩
   rcases q5 rfl with⟨_,f2,f3,f4⟩|⟨b,cur,fr,f1,f2,f3,f4,f5⟩
   ·exact .inl ⟨rfl,f2,f3,f4⟩
   ·exact .inr ⟨b,cur,fr,f1,f2,f3,f4,f5⟩
noncomputable def tX (e:Nat) (args:List DV) (m:Mm):Option (Out×Mm):=match args with
 | [.nils,.int .i64 (.ofNat n)]=>bx (A4 n 0) (some (.ret .nils,m)) (bx (BR n 1048576) (some (.ret (.sl m.n 0 0 0),dj m (.arr e 1 0 true []))) none)
 |_=>none
theorem q9{P:Program}{f e:Nat} (h0:∀σ,Ok P f [.nils,.int .i64 0] σ (.ret .nils) σ) (h1:∀(n:Nat) σ,0<n→n≤1048576→Ok P f [.nils,.int .i64 (n:Int)] σ (.ret (.sl σ.length 0 0 0)) (σ++[.arr e 1 []])){args:List DV}{m m':Mm}{out:Out}
  (h:tX e args m=some (out,m')) (hm:aZ m):aZ m'∧Ok P f args m.obs out m'.obs:=by
 unfold tX at h
 split at h
 ·rename_i n
  rw[aN] at h
  split at h
  ·rename_i hn
   subst hn
   cases h
   exact⟨hm,h0 _⟩
  ·rename_i hn
   rw[bv] at h
   split at h<;>cases h
   rename_i hle
   have hp:=MmOf.push hm (x:=.arr e 1 0 true []) ⟨rfl,fun _=>rfl⟩
   refine⟨hp.goodm,?_⟩
   have:=h1 n m.obs (by omega) hle
   rw[show m.n=m.obs.length from MmOf.n hm]
   rw[show(dj m (.arr e 1 0 true [])).obs=m.obs++[.arr e 1 []] from hp.obs.symm]
   exact this
 ·cases h
def fV{α:Type} (p:Nat→α→Prop):Tr α→(Nat→Nat)→Prop
 |.e,_=>True
 |.n o l r,g=>p (g 0) o∧fV p l (fun j=>g (2*j+1))∧fV p r (fun j=>g (2*j+2))
theorem fV.get{α:Type}{p:Nat→α→Prop}:∀(t:Tr α) (g:Nat→Nat),fV p t g→∀(i:Nat) (x:α),t.get i=some x→p (g i) x
 |.e,g,_,i,x,h=>by cases h
 |.n o l r,g,⟨h0,h1,h2⟩,i,x,h=>by
  rw[Tr.get_n] at h
  by_cases hi:i=0
  ·subst hi
   rw[if_pos rfl] at h
   cases h
   exact h0
  ·rw[if_neg hi] at h
   by_cases hm:i%2=1
   ·rw[if_pos hm] at h
    have:=fV.get l _ h1 _ x h
    simpa only[show 2*(i/2)+1=i by omega] using this
   ·rw[if_neg hm] at h
    have:=fV.get r _ h2 _ x h
    simpa only[show 2*(i/2-1)+2=i by omega] using this
def FtOk (P:Program) (f:Nat):FT→Prop
 |.code x=>FnOk P f x
 |.nat g=>∀(args:List DV) (m:Mm) (out:Out) (m':Mm),g args m=some (out,m')→aZ m→aZ m'∧Ok P f args m.obs out m'.obs
 |.none=>True
noncomputable def tw (t:Tr FT):Nat→FT:=fun f=>match t.get f with
 |some x=>x
 |none=>.none
theorem vS{P:Program}{t:Tr FT} (h:fV (FtOk P) t (fun j=>j)):TabOk P (tw t):=by
 refine⟨fun f x hx=>?_,fun f g args m out m' hg hr hm=>?_⟩
 ·unfold tw at hx
  split at hx
  ·rename_i y hy
   subst hx
   exact fV.get t _ h f _ hy
  ·cases hx
 ·unfold tw at hg
  split at hg
  ·rename_i y hy
   subst hg
   exact fV.get t _ h f _ hy args m out m' hr hm
  ·cases hg
noncomputable def wJ (t:Tr (Option TI)):Lay:=fun k=>match t.get k with
 |some (some i)=>some i
 |_=>none
theorem wH{P:Program}{t:Tr (Option TI)} (h:fV (fun k (i:Option TI)=>∀x,i=some x→TOk P k x) t (fun j=>j)):af P (wJ t):=by
 intro k i hk
 unfold wJ at hk
 split at hk
 ·rename_i y hy
  cases hk
  exact fV.get t _ h k _ hy i rfl
 ·cases hk
noncomputable def oZ (L:Lay) (T:Nat→FT) (fuel:Nat) (f:Nat) (args:List DV) (D:DV):Bool:=match im L T (cL L T fuel) (.fn f []) args ⟨.e,0⟩ with
 |.ok (.ret d) m=>mz 12 m 0 d D
 |_=>false
theorem good0:aZ ⟨.e,0⟩:=by
 have h:MmOf ⟨.e,0⟩ []:=⟨rfl,rfl,fun i=>rfl,fun i o h=>by cases h⟩
 exact h.goodm
theorem obs0:(⟨.e,0⟩:Mm).obs=[]:=rfl
theorem gj{P:Program}{L:Lay}{T:Nat→FT} (hL:af P L) (hmx:P.follows .mixedOrders=true) (hT:TabOk P T){fuel f:Nat}{args:List DV}{D:DV} (h:oZ L T fuel f args D=true) (ha:∀x∈args,Low 0 x) (σ:List Ob):Ok P f args σ (.ret D) σ:=by
 unfold oZ at h
 split at h
 ·rename_i d m hk
  obtain⟨g1,g2⟩:=sO hL hmx hT fuel hk good0
  rw[obs0] at g2
  exact Ok.freeze g2 g1 h ha σ
 ·cases h
end Go.VL
