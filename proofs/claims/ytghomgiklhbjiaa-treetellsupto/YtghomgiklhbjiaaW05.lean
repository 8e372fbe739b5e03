/- Proved: TreeTells: whatever tree, root, key and number come in (together of bulk at most 1048576), the call returns true and they read as they did; no other condition. This text is part 5 of 18. -/
import Derived.Test.YtghomgiklhbjiaaW04
import Derived.Scope
import Derived.RangeFuncRecord
import Derived.Recover
set_option linter.unusedSimpArgs false
set_option linter.unusedVariables false
section
namespace Go.VL
open Go
structure FE where
  l:List (Nat × DV)
  p:List (Nat × DV)
  m:Mm
  dd:List DD
inductive RR where
  | ok (e:XE) (s:FE)
  | no (p:String)
inductive CR where
  | ok (o:Out) (m:Mm)
  | no (p:String)
structure FX where
  mask:Nat
  n:Nat
  body:Code
  res:List ResultVar
  dis:List (Nat × List DI)
  rnd:Bool
  fid:Nat
inductive FT where
  | code (x:FX)
  | nat (g:List DV→Mm→Option (Out × Mm))
  | none
noncomputable section
def isP (mask t:Nat):Bool:=Nat.beq (Nat.mod (Nat.shiftRight mask t) 2) 1
def rd (mask:Nat) (s:FE) (t:Nat):DV:=bx (isP mask t) (lkb s.p t) (lkb s.l t)
def wr (mask:Nat) (s:FE) (o:Option Nat) (d:DV):FE:=match o with
  | none=>s
  | some t=>bx (isP mask t) ⟨s.l,upb s.p t d,s.m,s.dd⟩ ⟨(t,d) :: s.l,s.p,s.m,s.dd⟩
def evl (e:Nat→DV):Operand→DV
  | .tmp t=>e t
  | .const v=>ofVal v
  | .global _=>.undef
  | .func f=>.fn f []
def xgd (ops:List Oper) (e:Nat→DV) (o:Oper):Option Bool:=match o.guard with
  | none=>some true
  | some (j,want)=>match nth ops j with
    | some q=>match q.dst with
      | some t=>match e t with
        | .bool b=>some (bx b want (notx want))
        | .skip=>some false
        | _=>none
      | none=>none
    | none=>none
structure CE (E:Type) where
  f:E→DV
structure CB where
  f:DV→DV→Option DV
structure CI where
  f:IntKind→Int→Int→Option DV
structure CU where
  f:DV→Option DV
structure CM where
  f:Mm→DV→Option DV
structure CS where
  f:Mm→DV→DV→Option Mm
structure CX where
  f:Mm→DV→DV→Option DV
structure CO (E:Type) where
  f:E→Mm→Option (DV × Mm)
structure CW where
  f:FE→DV→FE
def cev (mask:Nat):Operand→CE FE
  | .tmp t=>bx (isP mask t) ⟨fun s=>lkb s.p t⟩ ⟨fun s=>lkb s.l t⟩
  | .const v=>⟨fun _=>ofVal v⟩
  | .global _=>⟨fun _=>.undef⟩
  | .func f=>⟨fun _=>.fn f []⟩
def cel:Operand→CE (List (Nat × DV))
  | .tmp t=>⟨fun r=>lkb r t⟩
  | .const v=>⟨fun _=>ofVal v⟩
  | .global _=>⟨fun _=>.undef⟩
  | .func f=>⟨fun _=>.fn f []⟩
def cwr (mask:Nat):Option Nat→CW
  | none=>⟨fun s _=>s⟩
  | some t=>bx (isP mask t) ⟨fun s d=>⟨s.l,upb s.p t d,s.m,s.dd⟩⟩ ⟨fun s d=>⟨(t,d) :: s.l,s.p,s.m,s.dd⟩⟩
def cint:BinOp→CI
  | .add=>⟨fun k a b=>some (.int k (wrapx k (Int.add a b)))⟩
  | .sub=>⟨fun k a b=>some (.int k (wrapx k (Int.sub a b)))⟩
  | .mul=>⟨fun k a b=>some (.int k (wrapx k (Int.mul a b)))⟩
  | .and=>⟨fun k a b=>some (.int k (bitx .and k a b))⟩
  | .or=>⟨fun k a b=>some (.int k (bitx .or k a b))⟩
  | .xor=>⟨fun k a b=>some (.int k (bitx .xor k a b))⟩
  | .eql=>⟨fun k a b=>some (.bool (eqx a b))⟩
  | .neq=>⟨fun k a b=>some (.bool (notx (eqx a b)))⟩
  | .lss=>⟨fun k a b=>some (.bool (ltx a b))⟩
  | .leq=>⟨fun k a b=>some (.bool (notx (ltx b a)))⟩
  | .gtr=>⟨fun k a b=>some (.bool (ltx b a))⟩
  | .geq=>⟨fun k a b=>some (.bool (notx (ltx a b)))⟩
  | op=>⟨fun k a b=>binInt op k a b⟩
def cbin (L:Lay) (op:BinOp) (t:Nat):CB:=match op with
  | .shl=>⟨fun a b=>binD L .shl t a b⟩
  | .shr=>⟨fun a b=>binD L .shr t a b⟩
  | op=>⟨fun a b=>match a,b with
    | .int k x,.int k' y=>bx (Nat.beq (kidx k) (kidx k')) ((cint op).f k x y) none
    | a,b=>binD L op t a b⟩
def cload (L:Lay) (t:Nat):CM:=match L t with
  | some ti=>match ti.d.isAgg with
    | true=>⟨fun m d=>match cellsX m d with
      | some cs=>bx (Nat.ble ti.k (len cs)) (some (.agg (taken ti.k cs))) none
      | none=>none⟩
    | false=>⟨fun m d=>match cellsX m d with
      | some cs=>nth cs 0
      | none=>none⟩
  | none=>⟨fun _ _=>none⟩
def cfa (L:Lay) (t f:Nat):CU:=match L t with
  | some { d:=.struct fs,.. }=>match nth fs f with
    | some (off,ft)=>match L ft with
      | some ti=>bx (Nat.beq ti.k 0) ⟨fun _=>none⟩ ⟨fun d=>match d with
        | .ptr id g j o=>some (.ptr id g j (Nat.add o off))
        | .vptr c cs=>some (.vptr c (cs.drop off))
        | _=>none⟩
      | none=>⟨fun _=>none⟩
    | none=>⟨fun _=>none⟩
  | _=>⟨fun _=>none⟩
def cia (L:Lay) (t:Nat):CX:=match L t with
  | some { d:=.slice e,.. }=>match L e with
    | some te=>⟨fun m d i=>match i with
      | .int _ (.ofNat q)=>match d with
        | .sl id g off l=>match m.t.get id with
          | some (.arr _ k ln _ _)=>bx (Nat.beq te.k k) (bx (Nat.beq g ln) (bx (Nat.ble (Nat.succ q) l) (some (.ptr id g (Nat.add off q) 0)) none) none) none
          | _=>none
        | d=>iaX L m t d i
      | _=>none⟩
    | none=>⟨fun m d i=>iaX L m t d i⟩
  | _=>⟨fun m d i=>iaX L m t d i⟩
def cconv (L:Lay) (s t:Nat):CU:=match L t with
  | some { d:=.int k,.. }=>match L s with
    | some _=>⟨fun d=>match d with
      | .int _ n=>some (.int k (wrapx k n))
      | _=>none⟩
    | none=>⟨fun _=>none⟩
  | _=>⟨fun _=>none⟩
def clen (L:Lay) (t:Nat):CU:=match L t with
  | some { d:=.slice _,.. }=>⟨fun d=>match d with
    | .sl _ _ _ l=>some (.int .i64 (.ofNat l))
    | .nils=>some (.int .i64 (.ofNat 0))
    | .emp=>some (.int .i64 (.ofNat 0))
    | _=>none⟩
  | _=>⟨fun _=>none⟩
def cop1 {E:Type} (L:Lay) (ce:Operand→CE E):Op→CO E
  | .move x=>⟨fun s m=>some ((ce x).f s,m)⟩
  | .assign x=>⟨fun s m=>some ((ce x).f s,m)⟩
  | .binOp op t x y _=>⟨fun s m=>match (cbin L op t).f ((ce x).f s) ((ce y).f s) with
    | some d=>some (d,m)
    | none=>none⟩
  | .load t x=>⟨fun s m=>match (cload L t).f m ((ce x).f s) with
    | some d=>some (d,m)
    | none=>none⟩
  | .fieldAddr t x f=>⟨fun s m=>match (cfa L t f).f ((ce x).f s) with
    | some d=>some (d,m)
    | none=>none⟩
  | .indexAddr t x i=>⟨fun s m=>match (cia L t).f m ((ce x).f s) ((ce i).f s) with
    | some d=>some (d,m)
    | none=>none⟩
  | .convert a t x=>⟨fun s m=>match (cconv L a t).f ((ce x).f s) with
    | some d=>some (d,m)
    | none=>none⟩
  | .extract x i=>⟨fun s m=>match (ce x).f s with
    | .tup xs=>match nth xs i with
      | some d=>some (d,m)
      | none=>none
    | _=>none⟩
  | .nilCheck x=>⟨fun s m=>match (ce x).f s with
    | .ptr id g j o=>some (.ptr id g j o,m)
    | _=>none⟩
  | .store t p x=>⟨fun s m=>match storeX L m t ((ce p).f s) ((ce x).f s) with
    | some m'=>some (.undef,m')
    | none=>none⟩
  | .call { callee:=.builtin .len,args,argTypes }=>match args.toList,argTypes.toList with
    | [x],[t]=>⟨fun s m=>match (clen L t).f ((ce x).f s) with
      | some d=>some (d,m)
      | none=>none⟩
    | _,_=>⟨fun _ _=>none⟩
  | _=>⟨fun _ _=>none⟩
def cop {E:Type} (L:Lay) (ce:Operand→CE E) (op:Op):CO E:=⟨fun s m=>match (cop1 L ce op).f s m with
  | some r=>some r
  | none=>xop L (fun x=>(ce x).f s) m op⟩
structure CR1 where
  f:(DV→List DV→Mm→CR)→FE→RR
def cstep1 (L:Lay) (rnd:Bool) (mask:Nat) (o:Oper) (ih:CR1):CR1:=match o.op with
  | .call { callee:=.value g,args:=xs,.. }=>⟨fun call s=>match call ((cev mask g).f s) (mapx (fun x=>(cev mask x).f s) xs.toList) s.m with
    | .ok (.ret d) m'=>ih.f call ((cwr mask o.dst).f ⟨s.l,s.p,m',s.dd⟩ d)
    | .ok (.pan d) m'=>.ok (.panic d) ⟨s.l,s.p,m',s.dd⟩
    | .no p=>.no p⟩
  | .defer { callee:=.value g,args:=xs,.. }=>⟨fun call s=>match xs.toList with
    | []=>match (cev mask g).f s with
      | .fn f caps=>bx rnd (.no o.pos) (ih.f call ((cwr mask o.dst).f ⟨s.l,s.p,s.m,.fn f caps :: s.dd⟩ .undef))
      | _=>.no o.pos
    | _=>.no o.pos⟩
  | .panic x=>⟨fun _ s=>match (cev mask x).f s with
    | .iface t d=>.ok (.panic (.iface t d)) s
    | _=>.no o.pos⟩
  | op=>⟨fun call s=>match (cop L (cev mask) op).f s s.m with
    | some (d,m')=>ih.f call ((cwr mask o.dst).f ⟨s.l,s.p,m',s.dd⟩ d)
    | none=>.no o.pos⟩
def cstep (L:Lay) (rnd:Bool) (mask:Nat) (ops:List Oper) (o:Oper) (ih:CR1):CR1:=match o.guard with
  | none=>cstep1 L rnd mask o ih
  | some _=>⟨fun call s=>match xgd ops (rd mask s) o with
    | some true=>(cstep1 L rnd mask o ih).f call s
    | some false=>ih.f call (wr mask s o.dst .skip)
    | none=>.no o.pos⟩
def cops (L:Lay) (rnd:Bool) (mask:Nat) (ops l:List Oper):CR1 :=
  @List.rec Oper (fun _=>CR1) ⟨fun _ s=>.ok .normal ⟨[],s.p,s.m,s.dd⟩⟩ (fun o _ ih=>cstep L rnd mask ops o ih) l
def eqds (f:DV→DV→Bool) (a:List DV):List DV→Bool:=@List.rec DV (fun _=>List DV→Bool) (fun b=>match b with
    | []=>true
    | _=>false) (fun x _ ih b=>match b with
    | []=>false
    | y :: r=>bx (f x y) (ih r) false) a
def eqd1 (f:DV→DV→Bool) (a b:DV):Bool:=match a,b with
  | .int k x,.int k' y=>bx (Nat.beq (kidx k) (kidx k')) (eqx x y) false
  | .bool x,.bool y=>bx x y (notx y)
  | .str x,.str y=>eqs (mapx UInt8.toNat x.data.toList) (mapx UInt8.toNat y.data.toList)
  | .ptr id g j o,.ptr id' g' j' o'=>bx (Nat.beq id id') (bx (Nat.beq g g') (bx (Nat.beq j j') (Nat.beq o o') false) false) false
  | .sl id g j o,.sl id' g' j' o'=>bx (Nat.beq id id') (bx (Nat.beq g g') (bx (Nat.beq j j') (Nat.beq o o') false) false) false
  | .nils,.nils=>true
  | .emp,.emp=>true
  | .nilp,.nilp=>true
  | .nili,.nili=>true
  | .nilf,.nilf=>true
  | .mp id,.mp id'=>Nat.beq id id'
  | .agg xs,.agg ys=>eqds f xs ys
  | .tup xs,.tup ys=>eqds f xs ys
  | .fn g xs,.fn g' ys=>bx (Nat.beq g g') (eqds f xs ys) false
  | .iface t x,.iface t' y=>bx (Nat.beq t t') (f x y) false
  | .vec c k xs,.vec c' k' ys=>bx (Nat.beq c c') (bx (Nat.beq k k') (eqds f xs ys) false) false
  | .vptr c xs,.vptr c' ys=>bx (Nat.beq c c') (eqds f xs ys) false
  | _,_=>false
def eqd (n:Nat):DV→DV→Bool:=@Nat.rec (fun _=>DV→DV→Bool) (fun _ _=>false) (fun _ f=>eqd1 f) n
def notDst (l:List (Option Nat)) (t:Nat):Bool:=l.all fun o=>o != some t
def outs (l:List (Option Nat)) (env:List (Nat × DV)):List (Nat × DV):=env.filter fun p=>notDst l p.1
structure DLog where
  r:List (Nat × DV)
  op:Op
  d:DV
  ph:List Nat
  pos:String
structure DRun where
  r:RR
  φ:List Mm
  log:List DLog
def DRun.at (m:Mm) (k:DRun):DRun:=⟨k.r,m :: k.φ,k.log⟩
def xdraw (L:Lay) (mask:Nat) (ops:List Oper) (call:DV→List DV→Mm→CR) (l:List Oper):List DI→FE→DRun :=
  @List.rec Oper (fun _=>List DI→FE→DRun) (fun _ s=>⟨.ok .normal ⟨[],s.p,s.m,s.dd⟩,[s.m],[]⟩) (fun o rest ih I s=>match I with
    | []=>⟨.no o.pos,[s.m],[]⟩
    | D :: I'=>match xgd ops (lkb (mapx (fun t=>(t,rd mask s t)) D.rd)) o with
      | some false=>bx D.eff ((ih I' (wr mask s o.dst .skip)).at s.m) (ih I' (wr mask s o.dst .skip))
      | some true=>bx D.eff
          (match o.op with
          | .call { callee:=.value g,args:=xs,.. }=>match call ((cel g).f (mapx (fun t=>(t,rd mask s t)) D.rd)) (mapx (fun x=>(cel x).f (mapx (fun t=>(t,rd mask s t)) D.rd)) xs.toList) s.m with
            | .ok (.ret d) m'=>(ih I' (wr mask ⟨s.l,s.p,m',s.dd⟩ o.dst d)).at s.m
            | .ok (.pan d) m'=>match rest with
              | []=>⟨.ok (.panic d) ⟨[],outs (ops.map (·.dst)) s.p,m',s.dd⟩,[s.m,m'],[]⟩
              | _=>⟨.no o.pos,[s.m],[]⟩
            | .no p=>⟨.no p,[s.m],[]⟩
          | op=>match (cop L cel op).f (mapx (fun t=>(t,rd mask s t)) D.rd) s.m with
            | some (d,m')=>(ih I' (wr mask ⟨s.l,s.p,m',s.dd⟩ o.dst d)).at s.m
            | none=>⟨.no o.pos,[s.m],[]⟩)
          (match xpure L (evl (lkb (mapx (fun t=>(t,rd mask s t)) D.rd))) o.op with
          | some d=>ih I' (wr mask s o.dst d)
          | none=>match xread L (evl (lkb (mapx (fun t=>(t,rd mask s t)) D.rd))) s.m o.op with
            | some d=>match ih I' (wr mask s o.dst d) with
              | ⟨r,φ,log⟩=>⟨r,φ,⟨mapx (fun t=>(t,rd mask s t)) D.rd,o.op,d,D.ph,o.pos⟩ :: log⟩
            | none=>⟨.no o.pos,[s.m],[]⟩)
      | none=>⟨.no o.pos,[s.m],[]⟩) l
def xlog1 (L:Lay) (φ:List Mm) (g:DLog):Bool:=allx (fun q=>match nth φ q with
  | some m=>match xread L (evl (lkb g.r)) m g.op with
    | some d=>eqd 4 g.d d
    | none=>false
  | none=>false) g.ph
def xlog (L:Lay) (φ:List Mm) (r:RR) (log:List DLog):RR:=@List.rec DLog (fun _=>RR) r (fun g _ ih=>bx (xlog1 L φ g) ih (.no g.pos)) log
def disAt (l:List (Nat × List DI)) (id:Nat):Option (List DI):=@List.rec (Nat × List DI) (fun _=>Option (List DI)) none (fun p _ ih=>bx (Nat.beq p.1 id) (some p.2) ih) l
def xdrawn (L:Lay) (mask:Nat) (call:DV→List DV→Mm→CR) (ops:List Oper) (I:List DI) (s:FE):RR:=match xdraw L mask ops call ops I s with
  | ⟨.ok e s',φ,log⟩=>xlog L φ (.ok e s') log
  | ⟨.no p,_,_⟩=>.no p
def slotsx (ds:List DV):List (Nat × DV):=@List.rec DV (fun _=>Nat→List (Nat × DV)) (fun _=>[]) (fun d _ ih n=>(n,d) :: ih (Nat.succ n)) ds 0
def xres1 (L:Lay) (mask:Nat) (s:FE):ResultVar→Option DV
  | .tmp t=>some (rd mask s t)
  | .cell a t=>loadX L s.m t (rd mask s a)
def xresl (L:Lay) (mask:Nat) (s:FE) (rs:List ResultVar):Option (List DV):=@List.rec ResultVar (fun _=>Option (List DV)) (some []) (fun r _ ih=>match xres1 L mask s r with
  | some d=>match ih with
    | some ds=>some (d :: ds)
    | none=>none
  | none=>none) rs
def xres (L:Lay) (mask:Nat) (s:FE) (rs:List ResultVar):Option DV:=match xresl L mask s rs with
  | some [d]=>some d
  | some ds=>some (.tup ds)
  | none=>none
def xfin (L:Lay) (mask:Nat) (res:List ResultVar) (s:FE):CR:=match xres L mask s res with
  | some d=>.ok (.ret d) s.m
  | none => .no "results"
inductive Md where
  | ret
  | pan (d:DV)
  | rcv (d:DV)
inductive QR where
  | ok (stop:Bool) (md:Md) (s:FE)
  | no (p:String)
def rcvOf:Md→DV × Md
  | .pan d=>(d,.rcv d)
  | md=>(.nili,md)
def xstepR (L:Lay) (mask:Nat) (ops:List Oper) (call:DV→List DV→Mm→CR) (o:Oper) (ih:Md→FE→QR) (md:Md) (s:FE):QR:=match xgd ops (rd mask s) o with
  | some true=>match o.op with
    | .call { callee:=.builtin .recover,.. }=>ih (rcvOf md).2 (wr mask s o.dst (rcvOf md).1)
    | .call { callee:=.value g,args:=xs,.. }=>match evl (rd mask s) g with
      | .fn f caps=>match call (.fn f caps) (mapx (evl (rd mask s)) xs.toList) s.m with
        | .ok (.ret d) m'=>ih md (wr mask ⟨s.l,s.p,m',s.dd⟩ o.dst d)
        | _=>.no o.pos
      | _=>.no o.pos
    | op=>match xop L (evl (rd mask s)) s.m op with
      | some (d,m')=>ih md (wr mask ⟨s.l,s.p,m',s.dd⟩ o.dst d)
      | none=>.no o.pos
  | some false=>ih md (wr mask s o.dst .skip)
  | none=>.no o.pos
def xopsR (L:Lay) (mask:Nat) (ops:List Oper) (call:DV→List DV→Mm→CR) (l:List Oper):Md→FE→QR :=
  @List.rec Oper (fun _=>Md→FE→QR) (fun md s=>.ok false md ⟨[],s.p,s.m,s.dd⟩) (fun o _ ih=>xstepR L mask ops call o ih) l
def xrec (L:Lay) (x:FX) (call:DV→List DV→Mm→CR) (fuel:Nat):Code→Md→FE→QR :=
  @Nat.rec (fun _ => Code → Md → FE → QR) (fun _ _ _ => .no "fuel") (fun _ run c md s => match c with
    | .skip=>.ok false md s
    | .ret=>.ok true md s
    | .seq a b=>match run a md s with
      | .ok false md' s'=>run b md' s'
      | r=>r
    | .cond q a b=>match evl (rd x.mask s) q with
      | .bool true=>run a md s
      | .bool false=>run b md s
      | _ => .no "cond"
    | .region id ops false=>xopsR L x.mask ops.toList call ops.toList md s
    | _ => .no "rec") fuel
def Md.settle:Md→Md
  | .ret=>.ret
  | .pan d=>.pan d
  | .rcv _=>.ret
def pairA (dst:Nat→Option Nat) (I:List DI) (a j i:Nat):Bool :=
  !(rdDst (dst j) (I.getD i .none).rd || rdDst (dst i) (I.getD j .none).rd || sameDst (dst j) (dst i) || (((I.getD i .none).eff && (I.getD j .none).eff) && !(Nat.beq i a))) || (I.getD i .none).pre.contains j
def lonA (I:List DI) (a i:Nat):Bool:=Nat.ble i a || !((I.getD i .none).pre.contains a) || (List.range a).all fun j=>!((I.getD j .none).eff) || (I.getD i .none).pre.contains j
def drawA (I:List DI) (m a:Nat):Bool :=
  (List.range I.length).all fun i=>preB (fun i=>(I.getD i .none).dir) I i && phB I I.length i && dstB (fun i=>(I.getD i .none).dst) m i && lonA I a i && (List.range i).all fun j=>pairA (fun i=>(I.getD i .none).dst) I a j i
def isAlloc (o:Oper):Bool:=match o.op,o.guard with
  | .alloc _,none=>true
  | _,_=>false
def laOf (ops:List Oper) (I:List DI):Nat:=match (List.range I.length).find? (fun i=>(match ops[i]? with
    | some o=>isAlloc o
    | none=>false) && (I.getD i .none).eff && (I.getD i .none).pre.isEmpty && (List.range I.length).all fun k=>lonA I i k) with
  | some i=>i
  | none=>I.length
def codeOk (x:FX):Code→Bool
  | .region id ops false=>dstOk x.n ops.toList
  | .region id ops true=>match disAt x.dis id with
    | some I=>(ops.toList.map fun o=>(o.dst,dirsO o)) == (I.map fun D:DI=>(D.dst,D.dir)) && drawA I x.n (laOf ops.toList I)
    | none=>true
  | .seq a b=>codeOk x a && codeOk x b
  | .cond _ a b=>codeOk x a && codeOk x b
  | .block _ b=>codeOk x b
  | .loop b=>codeOk x b
  | .scope b=>codeOk x b
  | .rangeFunc _ ps a b=>codeOk x a && codeOk x b
  | _=>true
def xdefer (L:Lay) (T:Nat→FT) (call:DV→List DV→Mm→CR) (f:Nat) (caps:List DV) (md:Md) (m:Mm):Option (Md × Mm):=match T f with
  | .code y=>bx (Nat.ble (len caps) y.n) (match xrec L y call 100 y.body md ⟨[],slotsx caps,m,[]⟩ with
    | .ok _ md' s'=>match xfin L y.mask y.res s' with
      | .ok _ m'=>some (md'.settle,m')
      | .no _=>none
    | .no p=>none) none
  | _=>none
def xleaveC (L:Lay) (x:FX) (s:FE) (dd:List DD):Md→Mm→CR :=
  @List.rec DD (fun _=>Md→Mm→CR) (fun md m=>match md with
    | .ret=>xfin L x.mask x.res ⟨s.l,s.p,m,[]⟩
    | .pan d=>.ok (.pan d) m
    | .rcv _ => .no "leave") (fun q _ ih md m => match q with
    | .col D=>match m.t.get D with
      | some (.oth (.oth .defd []))=>ih md ⟨m.t.put D (.oth (.oth .defd [.bool true])),m.n⟩
      | _ => .no "mark"
    | .fn _ _ => .no "mark") dd
def xleaveF (L:Lay) (T:Nat→FT) (call:DV→List DV→Mm→CR) (x:FX) (s:FE) (dd:List DD):Md→Mm→CR :=
  @List.rec DD (fun _=>Md→Mm→CR) (fun md m=>match md with
    | .ret=>xfin L x.mask x.res ⟨s.l,s.p,m,[]⟩
    | .pan d=>.ok (.pan d) m
    | .rcv _ => .no "leave") (fun q _ ih md m => match q with
    | .col _ => .no "mark"
    | .fn f caps=>match xdefer L T call f caps md m with
      | some (md',m')=>ih md' m'
      | none => .no "defer") dd
def xleave (L:Lay) (T:Nat→FT) (call:DV→List DV→Mm→CR) (x:FX) (s:FE) (dd:List DD) (md:Md) (m:Mm):CR:=match dd with
  | .col D :: r=>xleaveC L x s (.col D :: r) md m
  | dd=>xleaveF L T call x s dd md m
def setl (n:Nat) (ps:List Nat):List DV→List (Nat × DV)→Option (List (Nat × DV)) :=
  @List.rec Nat (fun _=>List DV→List (Nat × DV)→Option (List (Nat × DV))) (fun args p=>match args with
    | []=>some p
    | _=>none) (fun t _ ih args p=>match args with
    | d :: r=>bx (Nat.ble (Nat.succ t) n) (ih r (upb p t d)) none
    | []=>none) ps
def jumpOf:XE→Option (Option Code)
  | .normal=>some none
  | .ret=>some (some .ret)
  | .exit i=>some (some (.exit i))
  | .panic _=>none
def FX.round (x:FX):FX:=⟨x.mask,x.n,x.body,x.res,x.dis,true,x.fid⟩
def endRound (id:Nat) (e:XE) (m:Mm):CR:=match m.t.get id with
  | some (.oth (.oth (.loop _ _ fn ps asg bo did) ds))=>match jumpOf e with
    | some none=>.ok (.ret (.bool true)) ⟨m.t.put id (.oth (.oth (.loop .ready none fn ps asg bo did) ds)),m.n⟩
    | some (some c)=>.ok (.ret (.bool false)) ⟨m.t.put id (.oth (.oth (.loop .done (some c) fn ps asg bo did) ds)),m.n⟩
    | none => .no "round"
  | _ => .no "round"
def xround (T:Nat→FT) (run:FX→Code→FE→RR) (id:Nat) (args:List DV) (m:Mm):CR:=match m.t.get id with
  | some (.oth (.oth (.loop _ _ fn ps asg bo _) ds))=>match T fn with
    | .code x=>bx (codeOk x asg) (bx (codeOk x bo) (match setl x.n ps args (slotsx ds) with
      | some p=>bx (Nat.beq (len ds) x.n) (match run x.round asg ⟨[],p,m,[]⟩ with
        | .ok .normal s1=>match s1.m.t.get id with
          | some (.oth (.oth (.loop .ready q1 f1 p1 a1 b1 d1) e1))=>match run x.round bo ⟨s1.l,s1.p,⟨s1.m.t.put id (.oth (.oth (.loop .busy q1 f1 p1 a1 b1 d1) e1)),s1.m.n⟩,s1.dd⟩ with
            | .ok e s2=>endRound id e s2.m
            | .no p=>.no p
          | _ => .no "round"
        | .ok _ _ => .no "round"
        | .no p => .no p) (.no "round")
      | none => .no "round") (.no "round")) (.no "round")
    | _ => .no "round"
  | _ => .no "round"
def xcall (L:Lay) (T:Nat→FT) (run:FX→Code→FE→RR) (call:DV→List DV→Mm→CR) (f:Nat) (args:List DV) (m:Mm):CR:=match T f with
  | .code x=>bx (Nat.ble (len args) x.n) (match run x x.body ⟨[],slotsx args,m,[]⟩ with
    | .ok .normal s=>xleave L T call x s s.dd .ret s.m
    | .ok .ret s=>xleave L T call x s s.dd .ret s.m
    | .ok (.panic d) s=>xleave L T call x s s.dd (.pan d) s.m
    | .ok (.exit _) _ => .no "exit"
    | .no p => .no p) (.no "arguments")
  | .nat g=>match g args m with
    | some (o,m')=>.ok o m'
    | none => .no "native"
  | .none => .no "function"
def xval (L:Lay) (T:Nat→FT) (run:FX→Code→FE→RR) (call:DV→List DV→Mm→CR) (g:DV) (args:List DV) (m:Mm):CR:=match g with
  | .fn f caps=>xcall L T run call f (appx args caps) m
  | .yld id=>xround T run id args m
  | _ => .no "callee"
def call1 (L : Lay) (T : Nat → FT) (run : FX → Code → FE → RR) : DV → List DV → Mm → CR := xval L T run (xval L T run fun _ _ _ => .no "nested")
def tmpsOf (mask n:Nat) (s:FE):List DV:=@Nat.rec (fun _=>Nat→List DV) (fun _=>[]) (fun _ ih t=>rd mask s t :: ih (Nat.succ t)) n 0
def xrange (call:DV→List DV→Mm→CR) (x:FX) (g:DV) (ps:List Nat) (asg bo:Code) (s:FE):RR:=match g with
  | .fn f caps => bx x.rnd (.no "rangeFunc") (match call (.fn f caps) [.yld (Nat.succ s.m.n)] (pushX (pushX s.m (.oth (.oth .defd []))) (.oth (.oth (.loop .ready none x.fid ps asg bo s.m.n) (tmpsOf x.mask x.n s)))) with
    | .ok (.ret _) m=>match m.t.get (Nat.succ s.m.n) with
      | some (.oth (.oth (.loop st q f1 p1 a1 b1 d1) e1))=>match st with
        | .busy => .no "rangeFunc"
        | _=>match q with
          | none=>.ok .normal ⟨[],s.p,⟨m.t.put (Nat.succ s.m.n) (.oth (.oth (.loop .exhausted q f1 p1 a1 b1 d1) e1)),m.n⟩,.col s.m.n :: s.dd⟩
          | some .ret=>.ok .ret ⟨[],s.p,⟨m.t.put (Nat.succ s.m.n) (.oth (.oth (.loop .exhausted q f1 p1 a1 b1 d1) e1)),m.n⟩,.col s.m.n :: s.dd⟩
          | some (.exit i)=>.ok (.exit i) ⟨[],s.p,⟨m.t.put (Nat.succ s.m.n) (.oth (.oth (.loop .exhausted q f1 p1 a1 b1 d1) e1)),m.n⟩,.col s.m.n :: s.dd⟩
          | _ => .no "rangeFunc"
      | _ => .no "rangeFunc"
    | .ok (.pan d) m=>.ok (.panic d) ⟨[],s.p,m,.col s.m.n :: s.dd⟩
    | .no p=>.no p)
  | _ => .no "rangeFunc"
structure CC where
  f:(FX→Code→FE→RR)→FE→RR
def ccode (L:Lay) (T:Nat→FT) (x:FX) (c:Code):CC :=
  @Code.rec (fun _=>CC)
    ⟨fun _ s=>.ok .normal s⟩
    (fun id ops dr=>match dr with
      | false=>⟨fun run s=>(cops L x.rnd x.mask ops.toList ops.toList).f (call1 L T run) s⟩
      | true=>match disAt x.dis id with
        | some I=>⟨fun run s=>xdrawn L x.mask (call1 L T run) ops.toList I s⟩
        | none => ⟨fun _ _ => .no "region"⟩)
    (fun _ _ ia ib=>⟨fun run s=>match ia.f run s with
      | .ok .normal s'=>ib.f run s'
      | r=>r⟩)
    (fun q _ _ ia ib=>⟨fun run s=>match (cev x.mask q).f s with
      | .bool b=>bx b (ia.f run s) (ib.f run s)
      | _ => .no "cond"⟩)
    (fun id _ ib=>⟨fun run s=>match ib.f run s with
      | .ok (.exit i) s'=>bx (Nat.beq i id) (.ok .normal s') (.ok (.exit i) s')
      | r=>r⟩)
    (fun b ib=>⟨fun run s=>match ib.f run s with
      | .ok .normal s'=>run x (.loop b) s'
      | r=>r⟩)
    (fun g ps asg bo _ _=>⟨fun run s=>xrange (call1 L T run) x ((cev x.mask g).f s) ps.toList asg bo s⟩)
    (fun i=>⟨fun _ s=>.ok (.exit i) s⟩)
    (fun _ ib => ⟨fun run s => bx x.rnd (.no "scope") (ib.f run s)⟩)
    (fun _=>⟨fun _ s=>.ok .normal s⟩)
    (fun _ => ⟨fun _ _ => .no "goto"⟩)
    ⟨fun _ s=>.ok .ret s⟩
    (fun _ => ⟨fun _ _ => .no "refuse"⟩) c
def xexec (L:Lay) (T:Nat→FT) (fuel:Nat):FX→Code→FE→RR :=
  @Nat.rec (fun _ => FX → Code → FE → RR) (fun _ _ _ => .no "fuel") (fun _ run x c s => (ccode L T x c).f run s) fuel
end
end Go.VL
end
section
namespace Go.VL
open Go
section
theorem cev_eq (mask:Nat) (x:Operand) (s:FE):(cev mask x).f s = evl (rd mask s) x:=by
  cases x with
  | tmp t =>
    show (bx (isP mask t) (⟨fun s=>lkb s.p t⟩:CE FE) ⟨fun s=>lkb s.l t⟩).f s = bx (isP mask t) (lkb s.p t) (lkb s.l t)
    cases isP mask t <;> rfl
  | const v=>rfl
  | global g=>rfl
  | func f=>rfl
theorem cel_eq (x:Operand) (r:List (Nat × DV)):(cel x).f r = evl (lkb r) x:=by cases x <;> rfl
theorem cwr_eq (mask:Nat) (o:Option Nat) (s:FE) (d:DV):(cwr mask o).f s d = wr mask s o d:=by
  cases o with
  | none=>rfl
  | some t =>
    show (bx (isP mask t) (⟨fun s d=>⟨s.l,upb s.p t d,s.m,s.dd⟩⟩:CW) ⟨fun s d=>⟨(t,d) :: s.l,s.p,s.m,s.dd⟩⟩).f s d = bx (isP mask t) ⟨s.l,upb s.p t d,s.m,s.dd⟩ ⟨(t,d) :: s.l,s.p,s.m,s.dd⟩
    cases isP mask t <;> rfl
theorem cint_eq (op:BinOp) (k:IntKind) (a b:Int):(cint op).f k a b = binx op k a b:=by cases op <;> rfl
theorem cbin_eq (L:Lay) (op:BinOp) (t:Nat) (a b:DV):(cbin L op t).f a b = binD L op t a b:=by
  have key:op ≠ .shl→op ≠ .shr→(match a,b with
    | .int k x,.int k' y=>bx (Nat.beq (kidx k) (kidx k')) ((cint op).f k x y) none
    | a,b=>binD L op t a b) = binD L op t a b:=by
    intro h1 h2
    split
    · rw [cint_eq]
      unfold binD
      cases op <;> first | rfl | exact absurd rfl h1 | exact absurd rfl h2
    · rfl
  cases op <;> first
    | rfl
    | exact key (by simp) (by simp)
theorem cload_ok {L:Lay} {m:Mm} {t:Nat} {d d':DV} (h:(cload L t).f m d = some d'):loadX L m t d = some d':=by
  unfold cload at h
  unfold loadX
  cases ht:L t with
  | none=>rw [ht] at h; cases h
  | some ti =>
    rw [ht] at h
    dsimp only at h ⊢
    cases hc:cellsX m d with
    | none=>cases ha:ti.d.isAgg <;> rw [ha] at h <;> dsimp only at h <;> rw [hc] at h <;> cases h
    | some cs=>cases ha:ti.d.isAgg <;> rw [ha] at h <;> dsimp only at h ⊢ <;> rw [hc] at h <;> (first | rw [ha] | skip) <;> exact h
theorem cfa_ok {L:Lay} {t f:Nat} {d d':DV} {e:Operand→DV} {x:Operand} (hx:e x = d) (h:(cfa L t f).f d = some d'):xpure L e (.fieldAddr t x f) = some d':=by
  unfold cfa at h
  simp only [xpure,hx]
  split at h <;> try cases h
  rename_i q0 k0 b0 fs z ht
  simp only [ht]
  split at h <;> try cases h
  rename_i off ft hf
  simp only [hf]
  split at h <;> try cases h
  rename_i ti hti
  simp only [hti]
  revert h
  cases Nat.beq ti.k 0 with
  | true=>intro h; cases h
  | false=>exact fun h=>h
theorem cia_ok {L:Lay} {m:Mm} {t:Nat} {d i d':DV} (h:(cia L t).f m d i = some d'):iaX L m t d i = some d':=by
  unfold cia at h
  split at h
  · rename_i q0 k0 b0 e z ht
    split at h
    · rename_i te hte
      dsimp only at h
      split at h <;> try cases h
      rename_i k q
      split at h
      · unfold iaX
        simp only [ht,hte]
        exact h
      · exact h
    · exact h
  · exact h
theorem cconv_ok {L:Lay} {s t:Nat} {d d':DV} {e:Operand→DV} {x:Operand} (hx:e x = d) (h:(cconv L s t).f d = some d'):xpure L e (.convert s t x) = some d':=by
  unfold cconv at h
  simp only [xpure,hx]
  split at h <;> try cases h
  rename_i q0 b0 k0 k z ht
  split at h <;> try cases h
  rename_i hs
  dsimp only at h
  split at h <;> cases h
  simp only [ht,hs]
theorem clen_ok {L:Lay} {t:Nat} {d d':DV} (h:(clen L t).f d = some d'):lenDV L t d = some d':=by
  unfold clen at h
  split at h <;> try cases h
  rename_i q0 k0 b0 e z ht
  dsimp only at h
  split at h <;> cases h
  · simp only [lenDV,ht]; rfl
  · simp only [lenDV,ht]; rfl
  · simp only [lenDV,ht]; rfl
theorem xop_pure {L:Lay} {e:Operand→DV} {m:Mm} {op:Op} {d:DV} (h:xpure L e op = some d):xop L e m op = some (d,m):=by
  unfold xop
  rw [h]
theorem xop_read {L:Lay} {e:Operand→DV} {m:Mm} {op:Op} {d:DV} (h0:xpure L e op = none) (h:xread L e m op = some d):xop L e m op = some (d,m):=by
  unfold xop
  rw [h0,h]
theorem cop1_ok {E:Type} {L:Lay} {ce:Operand→CE E} {op:Op} {s:E} {m:Mm} {r:DV × Mm} (h:(cop1 L ce op).f s m = some r):xop L (fun x=>(ce x).f s) m op = some r:=by
  unfold cop1 at h
  split at h
  case h_1 x=>cases h; exact xop_pure rfl
  case h_2 x=>cases h; exact xop_pure rfl
  case h_3 bop t x y yt =>
    dsimp only at h
    split at h <;> cases h
    rename_i hd
    rw [cbin_eq] at hd
    exact xop_pure hd
  case h_4 t x =>
    dsimp only at h
    split at h <;> cases h
    rename_i hd
    exact xop_read rfl (cload_ok hd)
  case h_5 t x f =>
    dsimp only at h
    split at h <;> cases h
    rename_i hd
    exact xop_pure (cfa_ok rfl hd)
  case h_6 t x i =>
    dsimp only at h
    split at h <;> cases h
    rename_i hd
    exact xop_read rfl (cia_ok hd)
  case h_7 a t x =>
    dsimp only at h
    split at h <;> cases h
    rename_i hd
    exact xop_pure (cconv_ok rfl hd)
  case h_8 x i =>
    dsimp only at h
    split at h <;> try cases h
    rename_i xs hx
    split at h <;> cases h
    rename_i hd
    refine xop_pure ?_
    simp only [xpure,hx]
    exact hd
  case h_9 x =>
    dsimp only at h
    split at h <;> cases h
    rename_i hx
    refine xop_pure ?_
    simp only [xpure,hx]
  case h_10 t p x =>
    dsimp only at h
    split at h <;> cases h
    rename_i hd
    show xop L _ m _ = _
    unfold xop
    simp only [xpure,xread,xeff,hd]
  case h_11 args ts =>
    split at h <;> try cases h
    rename_i x t ha ht
    dsimp only at h
    split at h <;> cases h
    rename_i hd
    refine xop_pure ?_
    simp only [xpure,ha,ht]
    exact clen_ok hd
  case h_12=>cases h
theorem cop_ok {E:Type} {L:Lay} {ce:Operand→CE E} {op:Op} {s:E} {m:Mm} {r:DV × Mm} (h:(cop L ce op).f s m = some r):xop L (fun x=>(ce x).f s) m op = some r:=by
  unfold cop at h
  dsimp only at h
  split at h
  · rename_i hd; cases h; exact cop1_ok hd
  · exact h
noncomputable def Mm.obs (m:Mm):List Ob:=(List.range m.n).map fun i=>match m.t.get i with
  | some o=>o.ob
  | none=>.dead
def Good (m:Mm):Prop:=MmOf m m.obs
theorem MmOf.obs {m:Mm} {σ:List Ob} (h:MmOf m σ):σ = m.obs:=by
  apply List.ext_getElem?
  intro i
  unfold Mm.obs
  rw [List.getElem?_map,← h.get]
  by_cases hi:i < m.n
  · rw [List.getElem?_range hi]
    have:i < σ.length:=by rw [← h.n]; exact hi
    have h1:=h.get i
    rw [List.getElem?_eq_getElem this] at h1
    cases hg:m.t.get i with
    | none=>rw [hg] at h1; cases h1
    | some o=>simp only [Option.map_some,hg]
  · have h1:=h.get i
    rw [List.getElem?_eq_none (by rw [← h.n]; omega)] at h1
    rw [h1,List.getElem?_eq_none (by simp; omega)]
    rfl
theorem MmOf.goodm {m:Mm} {σ:List Ob} (h:MmOf m σ):Good m:=by have:=h; rw [h.obs] at this; exact this
def envOf (mask:Nat) (s:FE):List (Nat × DV):=s.p.filter (fun p=>isP mask p.1) ++ s.l.filter (fun p=>!isP mask p.1)
open Classical in
theorem lk_app (a b:List (Nat × DV)) (t:Nat):lk (a ++ b) t = if (∃ d,(t,d) ∈ a) then lk a t else lk b t:=by
  induction a with
  | nil=>simp [lk]
  | cons p r ih =>
    obtain ⟨q,d⟩:=p
    simp only [List.cons_append,lk]
    by_cases h:q = t
    · subst h
      rw [if_pos rfl,if_pos rfl,if_pos ⟨d,by simp⟩]
    · rw [if_neg h,if_neg h,ih]
      have:(∃ d',(t,d') ∈ (q,d) :: r) ↔ ∃ d',(t,d') ∈ r:=by
        constructor
        · rintro ⟨d',h'⟩
          rcases List.mem_cons.1 h' with e | h'
          · cases e; exact absurd rfl h
          · exact ⟨d',h'⟩
        · rintro ⟨d',h'⟩; exact ⟨d',by simp [h']⟩
      simp only [this]
theorem lk_none {a:List (Nat × DV)} {t:Nat} (h:¬ ∃ d,(t,d) ∈ a):lk a t = .undef:=by
  induction a with
  | nil=>rfl
  | cons p r ih =>
    obtain ⟨q,d⟩:=p
    simp only [lk]
    by_cases hq:q = t
    · subst hq; exact absurd ⟨d,by simp⟩ h
    · rw [if_neg hq]; exact ih fun ⟨d',h'⟩=>h ⟨d',by simp [h']⟩
theorem lk_filter {f:Nat→Bool} {t:Nat} (h:f t = true):∀ (a:List (Nat × DV)),lk (a.filter fun p=>f p.1) t = lk a t
  | []=>rfl
  | (q,d) :: r=>by
    by_cases hq:q = t
    · subst hq
      simp only [List.filter_cons,h,if_true,lk]
    · by_cases hf:f q = true
      · simp only [List.filter_cons,hf,if_true,lk,if_neg hq]
        exact lk_filter h r
      · simp only [List.filter_cons,hf,lk,if_neg hq]
        exact lk_filter h r
theorem lk_envOf (mask:Nat) (s:FE) (t:Nat):lk (envOf mask s) t = rd mask s t:=by
  unfold envOf rd
  rw [lk_app,lkb_eq,lkb_eq,bx_if]
  cases hp:isP mask t with
  | true =>
    rw [if_pos rfl]
    by_cases hm:∃ d,(t,d) ∈ s.p.filter fun p=>isP mask p.1
    · rw [if_pos hm]; exact lk_filter (f:=isP mask) hp _
    · rw [if_neg hm]
      have h1:lk (s.p.filter fun p=>isP mask p.1) t = .undef:=lk_none hm
      rw [lk_filter (f:=isP mask) hp] at h1
      rw [h1]
      refine lk_none ?_
      rintro ⟨d,hd⟩
      have:=(List.mem_filter.1 hd).2
      simp [hp] at this
  | false =>
    have hn:¬ ∃ d,(t,d) ∈ s.p.filter fun p=>isP mask p.1:=by
      rintro ⟨d,hd⟩
      have:=(List.mem_filter.1 hd).2
      simp [hp] at this
    rw [if_neg hn,if_neg (show ¬ (false = true) by simp)]
    exact lk_filter (f:=fun t=>!isP mask t) (by simp [hp]) _
theorem evl_envOf (mask:Nat) (s:FE) (x:Operand):evl (rd mask s) x = ev (envOf mask s) x:=by
  cases x with
  | tmp t=>exact (lk_envOf mask s t).symm
  | _=>rfl
theorem rd_wr (mask:Nat) (s:FE) (o:Option Nat) (d:DV) (t:Nat):rd mask (wr mask s o d) t = if o = some t then d else rd mask s t:=by
  cases o with
  | none=>simp [wr]
  | some q =>
    simp only [wr,Option.some.injEq]
    unfold rd
    rw [bx_if,bx_if,bx_if]
    cases hq:isP mask q
    · simp only [Bool.false_eq_true,if_false]
      by_cases h:q = t
      · subst h
        simp only [hq,Bool.false_eq_true,if_false,if_true,lkb_eq,lk]
      · rw [if_neg h]
        simp only [lkb_eq,lk,if_neg h]
    · simp only [if_true]
      by_cases h:q = t
      · subst h
        simp only [hq,if_true,lkb_eq,upb_eq,lk_up]
      · rw [if_neg h]
        simp only [lkb_eq,upb_eq,lk_up,if_neg h]
theorem wr_m (mask:Nat) (s:FE) (o:Option Nat) (d:DV):(wr mask s o d).m = s.m:=by
  cases o with
  | none=>rfl
  | some q=>simp only [wr]; rw [bx_if]; split <;> rfl
theorem wr_dd (mask:Nat) (s:FE) (o:Option Nat) (d:DV):(wr mask s o d).dd = s.dd:=by
  cases o with
  | none=>rfl
  | some q=>simp only [wr]; rw [bx_if]; split <;> rfl
end
end Go.VL
end
section
namespace Go.VL
open Go
@[reducible] def Ctx.at (C:Ctx) (dd:List DD):Ctx:={ C with dd:=dd }
def Fin (C:Ctx) (e:XE) (st:St):Exit→Act→World→Prop
  | .normal,a,w=>e = .normal∧Rel C st a w
  | .exit i,a,w=>e = .exit i∧Rel C st a w
  | .ret,a,w=>e = .ret∧Rel C st a w
  | .panic ch,a,w=>∃ d v F μ,e = .panic d∧ch = [{ v,recovered:=false }]∧Rel0 C F μ st a w∧Rep w F μ st.ob d v
  | _,_,_=>False
theorem Fin.weak {C:Ctx} {e:XE} {st st':St} (k:Weak st st') {x:Exit} {a:Act} {w:World} (h:Fin C e st x a w):Fin C e st' x a w:=by
  cases x with
  | normal=>exact ⟨h.1,h.2.weak k⟩
  | exit i=>exact ⟨h.1,h.2.weak k⟩
  | ret=>exact ⟨h.1,h.2.weak k⟩
  | panic ch =>
    obtain ⟨d,v,F,μ,h1,h2,h3,h4⟩:=h
    exact ⟨d,v,F,μ,h1,h2,h3.weak k,by rw [k.ob]; exact h4⟩
  | goto l=>exact h.elim
  | outgrown=>exact h.elim
def Does (C:Ctx) (c:Code) (st:St) (dd:List DD) (e:XE) (st':St) (dd':List DD):Prop :=
  ∀ a w,Rel (C.at dd) st a w→c.wpIn C.fe 0 C.P (Fin (C.at dd') e st') a w
def DoesL (C:Ctx) (ops:Array Oper) (rest:List Oper) (st:St) (dd:List DD) (Q:Exit→Act→World→Prop):Prop :=
  ∀ a w,Rel (C.at dd) st a w→wpListIn C.fe 0 C.P ops Q rest a w
theorem DoesL.weak {C:Ctx} {ops:Array Oper} {rest:List Oper} {st st':St} {dd:List DD} {Q:Exit→Act→World→Prop} (k:Weak st st') (h:DoesL C ops rest st' dd Q):DoesL C ops rest st dd Q :=
  fun a w hr=>h a w (hr.weak k)
theorem DoesL.nil {C:Ctx} {ops:Array Oper} {st:St} {dd:List DD}:DoesL C ops [] st dd (Fin (C.at dd) .normal st):=fun _ _ hr=>⟨rfl,hr⟩
theorem OpDo.of_run {P:Program} {o:Oper} {st:St} {d:DV} {ob':List Ob} (h:OpRun P o st d ob'):OpDo P o st (.ret d) ob':=by
  intro ro a w F μ K' Q hh he hk
  obtain ⟨r,w',μ',v,hrun,hv,hh',hst,hfr,hrep⟩:=h a w F μ hh he
  have:=hk v w' F μ' ⟨hh',hst,hfr,fun c b h=>.inl h⟩ hrep
  refine wpIn_of_wp (.inr fun c hc=>?_) ?_
  · obtain ⟨d',rfl⟩:=execOp_defer hc hrun
    rcases hv with e | ⟨e,_⟩ <;> cases e
  unfold Oper.wp
  rw [hrun]
  rcases hv with rfl | ⟨rfl,rfl⟩
  · exact this
  · exact this
theorem OpDo.panic {P:Program} {o:Oper} {st:St} {x:Operand} {t:Nat} {d:DV} (ho:o.op = .panic x) (hx:ev st.env x = .iface t d):OpDo P o st (.pan (.iface t d)) st.ob:=by
  intro ro a w F μ K' Q hh he hk
  have hv:=he x
  rw [hx] at hv
  have hv':∃ v,a.eval x = .iface t v∧Rep w F μ st.ob d v:=by
    generalize a.eval x = v at hv
    cases hv with
    | iface h=>exact ⟨_,rfl,h⟩
  obtain ⟨v,hv1,hv2⟩:=hv'
  have hrun:(execOp a.eval o).run P w = .halt (.panic (.iface t v)) w:=by
    simp [execOp,ho,hv1,Instr.panic,goPanic]
  refine wpIn_of_wp (.inr fun c hc=>by rw [ho] at hc; cases hc) ?_
  unfold Oper.wp
  rw [hrun,Oper.upon_panic]
  exact hk _ w F μ ⟨hh,Step.refl ..,Fr.refl ..,fun _ _ h=>.inl h⟩ (.iface hv2)
section
variable {C:Ctx} {ops:Array Oper} {rest:List Oper} {o:Oper} {st:St} {dd:List DD} {Q:Exit→Act→World→Prop}
theorem rel0_after {F F':Nat→Nat→Prop} {μ μ':Nat→Option Nat} {a:Act} {w w':World} {ob':List Ob} {v:Value} {d:DV} (hr:Rel0 (C.at dd) F μ st a w) (haf:After w F μ st.ob w' F' μ' ob') (hd:∀ t,o.dst = some t→t < C.n)
    (hrep:Rep w' F' μ' ob' d v):Rel0 (C.at dd) F' μ' ⟨upo st.env o.dst d,ob'⟩ (a.put o.dst v) w' :=
  ⟨haf.hr,env_put (C:=C.at dd) (st:=st) hr.size (fun t=>(hr.env t).step haf.step) o.dst hd hrep,hr.step.trans haf.step,hr.fr.trans haf.fr,
    fun c b hb=>(haf.col c b hb).elim (hr.col c b) (fun q=>.inr (Nat.le_trans hr.fr.size q)),by rw [put_size]; exact hr.size,by rw [put_defers]; exact hr.defers.step haf.step⟩
theorem DoesL.op {d:DV} {ob':List Ob} (hg:gd ops st.env o = some true) (hd:∀ t,o.dst = some t→t < C.n) (hop:OpDo C.P o st (.ret d) ob') (h:DoesL C ops rest ⟨upo st.env o.dst d,ob'⟩ dd Q):DoesL C ops (o :: rest) st dd Q:=by
  rintro a w ⟨F,μ,hr⟩
  refine wpListIn_step fun K' hK=>?_
  rw [if_pos (gd_wanted hr hg)]
  exact hop C.rd a w F μ K' _ hr.hr (rep_ev hr) fun v w' F' μ' haf hrep=>hK _ _ (h _ _ ⟨F',μ',rel0_after hr haf hd hrep⟩)
theorem DoesL.pan {d:DV} {ob':List Ob} (hg:gd ops st.env o = some true) (hop:OpDo C.P o st (.pan d) ob'):DoesL C ops (o :: rest) st dd (Fin (C.at dd) (.panic d) ⟨st.env,ob'⟩):=by
  rintro a w ⟨F,μ,hr⟩
  refine wpListIn_step fun K' hK=>?_
  rw [if_pos (gd_wanted hr hg)]
  exact hop C.rd a w F μ K' _ hr.hr (rep_ev hr) fun v w' F' μ' haf hrep =>
    ⟨d,v,F',μ',rfl,rfl,⟨haf.hr,fun t=>(hr.env t).step haf.step,hr.step.trans haf.step,hr.fr.trans haf.fr,
      fun c b hb=>(haf.col c b hb).elim (hr.col c b) (fun q=>.inr (Nat.le_trans hr.fr.size q)),hr.size,hr.defers.step haf.step⟩,hrep⟩
theorem DoesL.pass (hg:gd ops st.env o = some false) (hd:∀ t,o.dst = some t→t < C.n) (h:DoesL C ops rest ⟨upo st.env o.dst .skip,st.ob⟩ dd Q):DoesL C ops (o :: rest) st dd Q:=by
  rintro a w ⟨F,μ,hr⟩
  refine wpListIn_step fun K' hK=>?_
  rw [if_neg (by rw [gd_wanted hr hg]; simp)]
  refine ⟨fun _ _=>trivial,?_⟩
  refine hK _ _ (h _ _ ⟨F,μ,hr.hr,?_,hr.step,hr.fr,hr.col,by rw [put_size]; exact hr.size,by rw [put_defers]; exact hr.defers⟩)
  exact env_put (C:=C.at dd) (st:=st) hr.size hr.env o.dst hd .skip
theorem DoesL.defer {g:Operand} {xs:Array Operand} {ts:Array TypeId} {f:FuncId} {caps:List DV} (hrd:C.rd = none) (hg:gd ops st.env o = some true) (hd:∀ t,o.dst = some t→t < C.n)
    (ho:o.op = .defer { callee:=.value g,args:=xs,argTypes:=ts }) (hxs:xs.toList = []) (hf:ev st.env g = .fn f caps) (h:DoesL C ops rest ⟨upo st.env o.dst .undef,st.ob⟩ (.fn f caps :: dd) Q):DoesL C ops (o :: rest) st dd Q:=by
  rintro a w ⟨F,μ,hr⟩
  refine wpListIn_step fun K' hK=>?_
  rw [if_pos (gd_wanted hr hg)]
  have hv:=rep_ev hr g
  rw [hf] at hv
  have hcap:∃ vs:List Value,a.eval g = .func (.func f) #[] ⟨vs⟩∧Reps w F μ st.ob caps vs:=by
    generalize a.eval g = v at hv
    cases hv with
    | fn hl hh=>exact ⟨_,rfl,hl,hh⟩
  obtain ⟨cvs,hge,hcr⟩:=hcap
  have hx0:xs = #[]:=by apply Array.ext'; simpa using hxs
  subst hx0
  have hrun:(execOp a.eval o).run C.P w = .ok (.defer { target:=.fn (.func f) ⟨cvs⟩,args:=#[] }) w:=by
    unfold execOp
    rw [ho]
    dsimp only [resolve]
    rw [hge]
    simp [Deferred.ofValue,Sem.run_bind,Sem.run_pure,Result.andThen_ok]
  have hfe:C.fe = { Fence.wide with round:=C.rd }:=rfl
  rw [hfe]
  refine wpIn_of_wp (.inl hrd) ?_
  unfold Oper.wp
  rw [hrun]
  refine hK _ _ (h _ _ ⟨F,μ,hr.hr,?_,hr.step,hr.fr,hr.col,by rw [put_size]; exact hr.size,?_⟩)
  · exact env_put (C:=C.at dd) (st:=st) (a:={ a with defers:={ target:=.fn (.func f) ⟨cvs⟩,args:=#[] } :: a.defers }) hr.size hr.env o.dst hd .undef
  · rw [put_defers]
    exact ⟨_,_,rfl,⟨cvs,hcr,rfl⟩,hr.defers⟩
end
theorem Does.region {C:Ctx} {id:Nat} {ops:Array Oper} {st st':St} {dd dd':List DD} {e:XE} (h:DoesL C ops ops.toList st dd (Fin (C.at dd') e st')):Does C (.region id ops false) st dd e st' dd' :=
  fun a w hr=>wpIn_region_list (h a w hr)
end Go.VL
end
section
namespace Go.VL
open Go
noncomputable def FE.st (mask:Nat) (s:FE):St:=⟨envOf mask s,s.m.obs⟩
def CallDo (P:Program) (g:DV) (args:List DV) (σ:List Ob) (out:Out) (σ':List Ob):Prop :=
  ∀ (o:Oper) (st:St) (gop:Operand) (xs:Array Operand) (ts:Array TypeId),o.op = .call { callee:=.value gop,args:=xs,argTypes:=ts }→ev st.env gop = g→xs.toList.map (ev st.env) = args→st.ob = σ→OpDo P o st out σ'
def CallOk (P:Program) (call:DV→List DV→Mm→CR):Prop :=
  ∀ g args m out m',call g args m = .ok out m'→Good m→Good m'∧CallDo P g args m.obs out m'.obs∧∀ f caps,g = .fn f caps→Ok P f (args ++ caps) m.obs out m'.obs
structure CtxOk (C:Ctx) (P:Program) (n:Nat) (rnd:Bool):Prop where
  P:C.P = P
  n:C.n = n
  rd:rnd = false→C.rd = none
def RunOk (P:Program) (run:FX→Code→FE→RR):Prop :=
  ∀ x c s e s',run x c s = .ok e s'→codeOk x c = true→Good s.m→Good s'.m∧∀ C,CtxOk C P x.n x.rnd→Does C c (s.st x.mask) s.dd e (s'.st x.mask) s'.dd
theorem xgd_ok {arr:Array Oper} {e:Nat→DV} {env:List (Nat × DV)} {o:Oper} {b:Bool} (he:∀ t,e t = lk env t) (h:xgd arr.toList e o = some b):gd arr env o = some b:=by
  unfold xgd at h
  unfold gd
  split at h
  · rename_i hg; rw [hg]; exact h
  · rename_i j want hg
    rw [hg]
    dsimp only
    split at h <;> try cases h
    rename_i q hq
    rw [nth_eq] at hq
    have hq':arr[j]? = some q:=by simpa using hq
    rw [hq']
    dsimp only [Option.bind_some]
    split at h <;> try cases h
    rename_i t ht
    rw [ht]
    dsimp only
    rw [← he t]
    split at h <;> try cases h
    · rename_i b' hb
      rw [hb]
      cases b' <;> cases want <;> rfl
    · rename_i hb
      rw [hb]
theorem weak_wr {mask:Nat} {s:FE} {o:Option Nat} {d:DV} {m':Mm} {dd:List DD}:Weak ⟨upo (envOf mask s) o d,m'.obs⟩ ((wr mask ⟨s.l,s.p,m',dd⟩ o d).st mask):=by
  refine ⟨by simp only [FE.st,wr_m],fun t=>.inr ?_⟩
  simp only [FE.st]
  rw [lk_envOf,rd_wr,lk_upo]
  congr 1
  rw [lk_envOf]
  rfl
theorem weak_cut {mask:Nat} {s:FE}:Weak (s.st mask) ((⟨[],s.p,s.m,s.dd⟩:FE).st mask):=by
  refine ⟨rfl,fun t=>?_⟩
  simp only [FE.st]
  rw [lk_envOf,lk_envOf]
  unfold rd
  rw [bx_if,bx_if]
  split
  · exact .inr rfl
  · exact .inl rfl
theorem dst_lt {n:Nat} {o:Oper} {l:List Oper} (h:dstOk n (o :: l) = true):(∀ t,o.dst = some t→t < n)∧dstOk n l = true:=by
  simp only [dstOk,List.all_cons,Bool.and_eq_true] at h
  refine ⟨fun t ht=>?_,h.2⟩
  have:=h.1
  rw [ht] at this
  simpa using this
section
variable {P:Program} {L:Lay} {mask n:Nat} {rnd:Bool} {call:DV→List DV→Mm→CR} {arr:Array Oper}
def TailOk (P:Program) (mask n:Nat) (rnd:Bool) (arr:Array Oper) (call:DV→List DV→Mm→CR) (k:CR1) (l:List Oper):Prop :=
  ∀ s e s',k.f call s = .ok e s'→Good s.m→Good s'.m∧∀ C,CtxOk C P n rnd→DoesL C arr l (s.st mask) s.dd (Fin (C.at s'.dd) e (s'.st mask))
theorem cstep1_ok (hL:LayOk P L) (hc:CallOk P call) {o:Oper} {l:List Oper} {ih:CR1} (hih:TailOk P mask n rnd arr call ih l) (hd:∀ t,o.dst = some t→t < n) {s s':FE} {e:XE}
    (hg:gd arr (envOf mask s) o = some true) (h:(cstep1 L rnd mask o ih).f call s = .ok e s') (hm:Good s.m):Good s'.m∧∀ C,CtxOk C P n rnd→DoesL C arr (o :: l) (s.st mask) s.dd (Fin (C.at s'.dd) e (s'.st mask)):=by
  -- what comes behind an operation that gives d and m'
  have go:∀ {d:DV} {m':Mm},Good m'→OpDo P o (s.st mask) (.ret d) m'.obs→ih.f call (wr mask ⟨s.l,s.p,m',s.dd⟩ o.dst d) = .ok e s' →
      Good s'.m∧∀ C,CtxOk C P n rnd→DoesL C arr (o :: l) (s.st mask) s.dd (Fin (C.at s'.dd) e (s'.st mask)):=by
    intro d m' hm' hop hk
    obtain ⟨g1,g2⟩:=hih _ _ _ hk (by rw [wr_m]; exact hm')
    refine ⟨g1,fun C hC=>DoesL.op hg (by rw [hC.n]; exact hd) (by rw [hC.P]; exact hop) ?_⟩
    have:=g2 C hC
    rw [wr_dd] at this
    exact this.weak weak_wr
  unfold cstep1 at h
  split at h
  case h_1 g xs ts ho =>
    dsimp only at h
    have ha:mapx (fun x=>(cev mask x).f s) xs.toList = xs.toList.map (ev (envOf mask s)):=by
      rw [mapx_eq]
      refine List.map_congr_left fun x _=>?_
      rw [cev_eq,evl_envOf]
    rw [ha,cev_eq,evl_envOf] at h
    split at h
    · rename_i d m' hk
      rw [cwr_eq] at h
      obtain ⟨g1,g2,_⟩:=hc _ _ _ _ _ hk hm
      exact go g1 (g2 o (s.st mask) g xs ts ho rfl rfl rfl) h
    · rename_i d m' hk
      cases h
      obtain ⟨g1,g2,_⟩:=hc _ _ _ _ _ hk hm
      exact ⟨g1,fun C hC=>DoesL.pan hg (by rw [hC.P]; exact g2 o (s.st mask) g xs ts ho rfl rfl rfl)⟩
    · cases h
  case h_2 g xs ts ho =>
    dsimp only at h
    split at h <;> try cases h
    rename_i hxs
    split at h <;> try cases h
    rename_i f caps hf
    rw [cev_eq,evl_envOf] at hf
    rw [bx_if] at h
    split at h <;> try cases h
    rename_i hr
    rw [cwr_eq] at h
    obtain ⟨g1,g2⟩:=hih _ _ _ h (by rw [wr_m]; exact hm)
    refine ⟨g1,fun C hC=>DoesL.defer (hC.rd (by simpa using hr)) hg (by rw [hC.n]; exact hd) ho hxs hf ?_⟩
    have:=g2 C hC
    rw [wr_dd] at this
    exact this.weak weak_wr
  case h_3 x ho =>
    dsimp only at h
    split at h <;> cases h
    rename_i t d hx
    rw [cev_eq,evl_envOf] at hx
    exact ⟨hm,fun C hC=>DoesL.pan hg (by rw [hC.P]; exact OpDo.panic ho hx)⟩
  case h_4 =>
    dsimp only at h
    split at h <;> try cases h
    rename_i d m' hk
    rw [cwr_eq] at h
    have hk':=cop_ok hk
    have he:(fun x=>(cev mask x).f s) = ev (envOf mask s):=by
      funext x
      rw [cev_eq,evl_envOf]
    rw [he] at hk'
    obtain ⟨σ',g1,g2⟩:=xop_sound hL hm hk'
    obtain rfl:=g2.obs
    exact go g2.goodm (OpDo.of_run g1) h
theorem cops_ok (hL:LayOk P L) (hc:CallOk P call):∀ (l:List Oper),dstOk n l = true→TailOk P mask n rnd arr call (cops L rnd mask arr.toList l) l
  | [],_=>by
    intro s e s' h hm
    cases h
    exact ⟨hm,fun C hC a w hr=>Fin.weak weak_cut (DoesL.nil (ops:=arr) a w hr)⟩
  | o :: l,hl=>by
    obtain ⟨hd,hl'⟩:=dst_lt hl
    have ih:=cops_ok hL hc l hl'
    intro s e s' h hm
    have h':(cstep L rnd mask arr.toList o (cops L rnd mask arr.toList l)).f call s = .ok e s':=h
    unfold cstep at h'
    split at h'
    · rename_i hg
      exact cstep1_ok hL hc ih hd (by unfold gd; rw [hg]) h' hm
    · dsimp only at h'
      have he:∀ t,rd mask s t = lk (envOf mask s) t:=fun t=>(lk_envOf mask s t).symm
      split at h'
      · rename_i hg
        exact cstep1_ok hL hc ih hd (xgd_ok he hg) h' hm
      · rename_i hg
        obtain ⟨g1,g2⟩:=ih _ _ _ h' (by rw [wr_m]; exact hm)
        refine ⟨g1,fun C hC=>DoesL.pass (xgd_ok he hg) (by rw [hC.n]; exact hd) ?_⟩
        have:=g2 C hC
        rw [wr_dd] at this
        exact this.weak (weak_wr (s:=s) (m':=s.m) (dd:=s.dd))
      · cases h'
end
end Go.VL
end
section
namespace Go.VL
open Go
section
variable {C:Ctx} {st st1 st2:St} {dd dd1 dd2:List DD} {e:XE}
theorem Does.weak {c:Code} {st':St} (k:Weak st st') (h:Does C c st' dd e st2 dd2):Does C c st dd e st2 dd2:=fun a w hr=>h a w (hr.weak k)
theorem Does.skip:Does C .skip st dd .normal st dd:=fun _ _ hr=>wpIn_skip ⟨rfl,hr⟩
theorem Does.label {l:Nat}:Does C (.label l) st dd .normal st dd:=fun _ _ hr=>wpIn_label ⟨rfl,hr⟩
theorem Does.exit {i:Nat}:Does C (.exit i) st dd (.exit i) st dd:=fun _ _ hr=>wpIn_exit ⟨rfl,hr⟩
theorem Does.ret:Does C .ret st dd .ret st dd:=fun _ _ hr=>wpIn_ret ⟨rfl,hr⟩
theorem Does.seq {x y:Code} (h:Does C x st dd .normal st1 dd1) (k:Does C y st1 dd1 e st2 dd2):Does C (.seq x y) st dd e st2 dd2:=by
  intro a w hr
  refine wpIn_seq (wpIn_mono (h a w hr) fun e a w q=>?_)
  cases e with
  | normal=>exact k a w q.2
  | exit i=>cases q.1
  | ret=>cases q.1
  | panic ch=>obtain ⟨_,_,_,_,h1,_⟩:=q; cases h1
  | goto l=>exact q.elim
  | outgrown=>exact q.elim
theorem Does.seqOut {x y:Code} (he:e ≠ .normal) (h:Does C x st dd e st1 dd1):Does C (.seq x y) st dd e st1 dd1:=by
  intro a w hr
  refine wpIn_seq (wpIn_mono (h a w hr) fun e' a w q=>?_)
  cases e' with
  | normal=>exact absurd q.1 he
  | exit i=>exact q
  | ret=>exact q
  | panic ch=>exact q
  | goto l=>exact q.elim
  | outgrown=>exact q.elim
theorem Does.cond {c:Operand} {x y:Code} {b:Bool} (hc:ev st.env c = .bool b) (ht:b = true→Does C x st dd e st2 dd2) (hf:b = false→Does C y st dd e st2 dd2):Does C (.cond c x y) st dd e st2 dd2:=by
  intro a w hr
  obtain ⟨F,μ,h⟩:=hr
  have hv:=rep_ev h c
  rw [hc] at hv
  have hv':a.eval c = .bool b:=by
    generalize a.eval c = v at hv
    cases hv; rfl
  exact wpIn_cond_split hv' (fun e=>ht e a w ⟨F,μ,h⟩) (fun e=>hf e a w ⟨F,μ,h⟩)
def blockE (id:Nat):XE→XE
  | .exit i=>if i = id then .normal else .exit i
  | e=>e
theorem Does.block {id:Nat} {c:Code} (h:Does C c st dd e st2 dd2):Does C (.block id c) st dd (blockE id e) st2 dd2:=by
  intro a w hr
  refine wpIn_block (wpIn_mono (h a w hr) fun e' a w q=>?_)
  cases e' with
  | normal=>obtain ⟨rfl,q⟩:=q; exact ⟨rfl,q⟩
  | exit i =>
    obtain ⟨rfl,q⟩:=q
    simp only [Exit.inBlock,blockE]
    split
    · exact ⟨rfl,q⟩
    · exact ⟨rfl,q⟩
  | ret=>obtain ⟨rfl,q⟩:=q; exact ⟨rfl,q⟩
  | panic ch=>obtain ⟨d,v,F,μ,rfl,q⟩:=q; exact ⟨d,v,F,μ,rfl,q⟩
  | goto l=>exact q.elim
  | outgrown=>exact q.elim
theorem Does.loop {c:Code} (I:Nat→St→List DD→Prop) (n:Nat) (h0:I n st dd)
    (h:∀ n st dd,I n st dd→(∃ m st1 dd1,m < n∧I m st1 dd1∧Does C c st dd .normal st1 dd1)∨(e ≠ .normal∧Does C c st dd e st2 dd2)):Does C (.loop c) st dd e st2 dd2:=by
  intro a w hr b k cs hro hb hrm
  have key:∀ n st dd a w,I n st dd→Rel (C.at dd) st a w →
      ∃ e' a' w',Fin (C.at dd2) e st2 e' a' w'∧ArrivesIn (Machine.fenced C.P C.fe) C.P (lone (b.atR a (.code c :: .inLoop c :: k)) cs w) b k cs e' a' w':=by
    intro n
    induction n using Nat.strongRecOn with
    | _ n ih =>
      intro st dd a w hI hr
      rcases h n st dd hI with ⟨m,st1,dd1,hlt,hI₁,hd⟩ | ⟨hne,hd⟩
      · obtain ⟨e',a₁,w₁,hq,harr⟩:=hd a w hr b (.inLoop c :: k) cs hro hb hrm
        cases e' with
        | normal =>
          obtain ⟨e₂,a₂,w₂,hq₂,harr₂⟩:=ih m hlt st1 dd1 a₁ w₁ hI₁ hq.2
          exact ⟨e₂,a₂,w₂,hq₂,.of_steps (StepsIn.trans harr (.one (fenced_calm hb hrm rfl) stepR_inLoop)) harr₂⟩
        | exit i=>cases hq.1
        | ret=>cases hq.1
        | panic ch=>obtain ⟨_,_,_,_,h1,_⟩:=hq; cases h1
        | goto l=>exact hq.elim
        | outgrown=>exact hq.elim
      · obtain ⟨e',a₁,w₁,hq,harr⟩:=hd a w hr b (.inLoop c :: k) cs hro hb hrm
        cases e' with
        | normal=>exact absurd hq.1 hne
        | exit id=>exact ⟨.exit id,a₁,w₁,hq,.pass (x:=.inLoop c) rfl (fun _ _=>.inl (by simp)) harr⟩
        | ret=>exact ⟨.ret,a₁,w₁,hq,.pass (x:=.inLoop c) rfl (fun _ _=>.inl (by simp)) harr⟩
        | panic ch=>exact ⟨.panic ch,a₁,w₁,hq,.pass (x:=.inLoop c) rfl (fun _ _=>.inl (by simp)) harr⟩
        | goto l=>exact hq.elim
        | outgrown=>exact hq.elim
  obtain ⟨e',a',w',hq,harr⟩:=key n st dd a w h0 hr
  exact ⟨e',a',w',hq,.of_steps (.one (fenced_calm hb hrm rfl) stepR_loop) harr⟩
end
end Go.VL
end
section
namespace Go.VL
open Go
theorem Does.scope {C:Ctx} {c:Code} {st st2:St} {dd dd2:List DD} {e:XE} (hrd:C.rd = none) (h:Does C c st dd e st2 dd2):Does C (.scope c) st dd e st2 dd2:=by
  intro a w hr
  have hfe:C.fe = Fence.wide:=by
    show { Fence.wide with round:=C.rd } = Fence.wide
    rw [hrd]
    rfl
  have h1:=h a w hr
  rw [hfe] at h1 ⊢
  refine (wpIn_wide (n:=0)).2 (wp_scope_straight ?_)
  refine wp_mono ((wpIn_wide (n:=0)).1 h1) fun e' a' w' q=>?_
  cases e' with
  | goto l=>exact q.elim
  | outgrown=>exact q.elim
  | normal=>exact q
  | exit i=>exact q
  | ret=>exact q
  | panic ch=>exact q
section
variable {P:Program} {L:Lay} {T:Nat→FT}
def DrawnOk (P:Program) (L:Lay):Prop:=∀ (call:DV→List DV→Mm→CR),CallOk P call→∀ (x:FX) (id:Nat) (ops:Array Oper) (I:List DI) (s s':FE) (e:XE),
  xdrawn L x.mask call ops.toList I s = .ok e s'→((ops.toList.map fun o=>(o.dst,dirsO o)) == (I.map fun D:DI=>(D.dst,D.dir)) && drawA I x.n (laOf ops.toList I)) = true→Good s.m →
    Good s'.m∧∀ C,CtxOk C P x.n x.rnd→Does C (.region id ops true) (s.st x.mask) s.dd e (s'.st x.mask) s'.dd
def RangeOk (P:Program) (L:Lay) (T:Nat→FT):Prop:=∀ run,RunOk P run→CallOk P (call1 L T run)→∀ (x:FX) (g:Operand) (ps:Array Tmp) (asg bo:Code) (s s':FE) (e:XE),
  xrange (call1 L T run) x ((cev x.mask g).f s) ps.toList asg bo s = .ok e s'→Good s.m →
    Good s'.m∧∀ C,CtxOk C P x.n x.rnd→Does C (.rangeFunc g ps asg bo) (s.st x.mask) s.dd e (s'.st x.mask) s'.dd
def CallsOk (P:Program) (L:Lay) (T:Nat→FT):Prop:=∀ run,RunOk P run→CallOk P (call1 L T run)
theorem xexec_succ (n:Nat) (x:FX) (c:Code) (s:FE):xexec L T (n+1) x c s = (ccode L T x c).f (xexec L T n) s:=rfl
theorem ccode_ok (hL:LayOk P L) (hD:DrawnOk P L) (hR:RangeOk P L T) (hC:CallsOk P L T) (n:Nat) (hrun:∀ k,k≤n→RunOk P (xexec L T k)) (x:FX):∀ (c:Code) (k:Nat),k≤n→∀ s e s',(ccode L T x c).f (xexec L T k) s = .ok e s'→codeOk x c = true→Good s.m →
    Good s'.m∧∀ C,CtxOk C P x.n x.rnd→Does C c (s.st x.mask) s.dd e (s'.st x.mask) s'.dd:=by
  intro c
  induction c with
  | skip=>intro k hk s e s' h _ hm; cases h; exact ⟨hm,fun C _=>Does.skip⟩
  | region id ops dr =>
    intro k hk s e s' h hc hm
    cases dr with
    | false =>
      have h':(cops L x.rnd x.mask ops.toList ops.toList).f (call1 L T (xexec L T k)) s = .ok e s':=h
      obtain ⟨g1,g2⟩:=cops_ok (n:=x.n) hL (hC _ (hrun k hk)) ops.toList hc s e s' h' hm
      exact ⟨g1,fun C hC=>Does.region (g2 C hC)⟩
    | true =>
      have h':(match disAt x.dis id with
        | some I=>(⟨fun run s=>xdrawn L x.mask (call1 L T run) ops.toList I s⟩:CC)
        | none => ⟨fun _ _ => .no "region"⟩).f (xexec L T k) s = .ok e s' := h
      simp only [codeOk] at hc
      cases hd:disAt x.dis id with
      | none=>rw [hd] at h'; cases h'
      | some I =>
        rw [hd] at h' hc
        exact hD _ (hC _ (hrun k hk)) x id ops I s s' e h' hc hm
  | seq a b iha ihb =>
    intro k hk s e s' h hc hm
    simp only [codeOk,Bool.and_eq_true] at hc
    have h':(match (ccode L T x a).f (xexec L T k) s with
      | RR.ok .normal s'=>(ccode L T x b).f (xexec L T k) s'
      | r=>r) = .ok e s':=h
    split at h'
    · rename_i s1 h1
      obtain ⟨g1,g2⟩:=iha k hk _ _ _ h1 hc.1 hm
      obtain ⟨g3,g4⟩:=ihb k hk _ _ _ h' hc.2 g1
      exact ⟨g3,fun C hC=>Does.seq (g2 C hC) (g4 C hC)⟩
    · rename_i hn
      obtain ⟨g1,g2⟩:=iha k hk _ _ _ h' hc.1 hm
      exact ⟨g1,fun C hC=>Does.seqOut (fun he=>hn s' (by rw [h',he])) (g2 C hC)⟩
  | cond q a b iha ihb =>
    intro k hk s e s' h hc hm
    simp only [codeOk,Bool.and_eq_true] at hc
    have h':(match (cev x.mask q).f s with
      | .bool t=>bx t ((ccode L T x a).f (xexec L T k) s) ((ccode L T x b).f (xexec L T k) s)
      | _ => .no "cond") = .ok e s' := h
    split at h' <;> try cases h'
    rename_i t ht
    rw [cev_eq,evl_envOf] at ht
    cases t with
    | true =>
      obtain ⟨g1,g2⟩:=iha k hk _ _ _ h' hc.1 hm
      exact ⟨g1,fun C hC=>Does.cond (st:=s.st x.mask) ht (fun _=>g2 C hC) (fun e=>by cases e)⟩
    | false =>
      obtain ⟨g1,g2⟩:=ihb k hk _ _ _ h' hc.2 hm
      exact ⟨g1,fun C hC=>Does.cond (st:=s.st x.mask) ht (fun e=>by cases e) (fun _=>g2 C hC)⟩
  | block id b ih =>
    intro k hk s e s' h hc hm
    have h':(match (ccode L T x b).f (xexec L T k) s with
      | RR.ok (.exit i) s'=>bx (Nat.beq i id) (RR.ok .normal s') (RR.ok (.exit i) s')
      | r=>r) = .ok e s':=h
    split at h'
    · rename_i i s1 h1
      obtain ⟨g1,g2⟩:=ih k hk _ _ _ h1 hc hm
      rw [beq_if] at h'
      have key:∀ C,CtxOk C P x.n x.rnd→Does C (.block id b) (s.st x.mask) s.dd (blockE id (.exit i)) (s1.st x.mask) s1.dd:=fun C hC=>Does.block (g2 C hC)
      simp only [blockE] at key
      split at h'
      · rename_i hi
        cases h'
        rw [if_pos hi] at key
        exact ⟨g1,key⟩
      · rename_i hi
        cases h'
        rw [if_neg hi] at key
        exact ⟨g1,key⟩
    · rename_i hn
      obtain ⟨g1,g2⟩:=ih k hk _ _ _ h' hc hm
      refine ⟨g1,fun C hC=>?_⟩
      have:=Does.block (id:=id) (g2 C hC)
      cases e with
      | exit i=>exact absurd h' (hn i s')
      | normal=>exact this
      | ret=>exact this
      | panic d=>exact this
  | loop b ih =>
    intro k hk s e s' h hc hm
    -- what a loop's run comes to,by its fuel
    have unfold1:∀ j s,(ccode L T x (.loop b)).f (xexec L T j) s = match (ccode L T x b).f (xexec L T j) s with
      | RR.ok .normal s'=>xexec L T j x (.loop b) s'
      | r=>r:=fun _ _=>rfl
    have hgood:∀ j,j≤n→∀ s,(ccode L T x (.loop b)).f (xexec L T j) s = .ok e s'→Good s.m→Good s'.m:=by
      intro j
      induction j with
      | zero =>
        intro hj s h hm
        rw [unfold1] at h
        split at h
        · cases h
        · exact (ih 0 hj _ _ _ h hc hm).1
      | succ j ihj =>
        intro hj s h hm
        rw [unfold1] at h
        split at h
        · rename_i s1 h1
          exact ihj (by omega) s1 (by rw [xexec_succ] at h; exact h) (ih _ hj _ _ _ h1 hc hm).1
        · exact (ih _ hj _ _ _ h hc hm).1
    refine ⟨hgood k hk s h hm,fun C hCtx=>?_⟩
    refine Does.loop (fun j st dd=>∃ s,st = s.st x.mask∧dd = s.dd∧Good s.m∧j≤n∧(ccode L T x (.loop b)).f (xexec L T j) s = .ok e s') k ⟨s,rfl,rfl,hm,hk,h⟩ ?_
    rintro j st dd ⟨s,rfl,rfl,hm,hj,h⟩
    rw [unfold1] at h
    split at h
    · rename_i s1 h1
      obtain ⟨g1,g2⟩:=ih j hj _ _ _ h1 hc hm
      cases j with
      | zero=>cases h
      | succ j=>exact .inl ⟨j,_,_,Nat.lt_succ_self j,⟨s1,rfl,rfl,g1,by omega,by rw [xexec_succ] at h; exact h⟩,g2 C hCtx⟩
    · rename_i hn
      obtain ⟨g1,g2⟩:=ih j hj _ _ _ h hc hm
      exact .inr ⟨fun he=>hn s' (by rw [h,he]),g2 C hCtx⟩
  | rangeFunc g ps asg bo _ _ =>
    intro k hk s e s' h hc hm
    exact hR _ (hrun k hk) (hC _ (hrun k hk)) x g ps asg bo s s' e h hm
  | exit i=>intro k hk s e s' h _ hm; cases h; exact ⟨hm,fun C _=>Does.exit⟩
  | scope b ih =>
    intro k hk s e s' h hc hm
    have h' : bx x.rnd (.no "scope") ((ccode L T x b).f (xexec L T k) s) = .ok e s' := h
    rw [bx_if] at h'
    split at h' <;> try cases h'
    rename_i hr
    obtain ⟨g1,g2⟩:=ih k hk _ _ _ h' hc hm
    exact ⟨g1,fun C hC=>Does.scope (hC.rd (by simpa using hr)) (g2 C hC)⟩
  | label l=>intro k hk s e s' h _ hm; cases h; exact ⟨hm,fun C _=>Does.label⟩
  | goto l=>intro k hk s e s' h _ hm; cases h
  | ret=>intro k hk s e s' h _ hm; cases h; exact ⟨hm,fun C _=>Does.ret⟩
  | refuse w=>intro k hk s e s' h _ hm; cases h
theorem xexec_ok (hL:LayOk P L) (hD:DrawnOk P L) (hR:RangeOk P L T) (hC:CallsOk P L T):∀ n,RunOk P (xexec L T n):=by
  intro n
  induction n using Nat.strongRecOn with
  | _ n ih =>
    intro x c s e s' h hc hm
    cases n with
    | zero=>cases h
    | succ n =>
      rw [xexec_succ] at h
      exact ccode_ok hL hD hR hC n (fun k hk=>ih k (by omega)) x c n (Nat.le_refl _) s e s' h hc hm
end
end Go.VL
end
section
namespace Go.VL
open Go
section
variable {L:Lay} {mask:Nat} {s:FE}
theorem xres1_ok (hm:Good s.m) {r:ResultVar} {d:DV} (h:xres1 L mask s r = some d):resDV1 L (s.st mask) r = some d:=by
  cases r with
  | tmp t =>
    simp only [xres1] at h
    simp only [resDV1,FE.st,lk_envOf]
    exact h
  | cell a t =>
    simp only [xres1] at h
    simp only [resDV1,FE.st,lk_envOf]
    exact loadX_ok hm h
theorem xresl_ok (hm:Good s.m):∀ (rs:List ResultVar) {ds:List DV},xresl L mask s rs = some ds→resL L (s.st mask) rs = some ds
  | [],ds,h=>by cases h; rfl
  | r :: rs,ds,h=>by
    have h':(match xres1 L mask s r with
      | some d=>match xresl L mask s rs with
        | some ds=>some (d :: ds)
        | none=>none
      | none=>none) = some ds:=h
    split at h' <;> try cases h'
    rename_i d h1
    split at h' <;> try cases h'
    rename_i ds' h2
    simp only [resL,xres1_ok hm h1,xresl_ok hm rs h2]
theorem xfin_ok (hm:Good s.m) {res:List ResultVar} {out:Out} {m':Mm} (h:xfin L mask res s = .ok out m'):m' = s.m∧∃ d,out = .ret d∧resDV L (s.st mask) res = some d:=by
  unfold xfin at h
  split at h <;> cases h
  rename_i d hd
  refine ⟨rfl,d,rfl,?_⟩
  unfold xres at hd
  unfold resDV
  split at hd <;> try cases hd
  · rename_i h1
    rw [xresl_ok hm _ h1]
  · rename_i ds h1 hn
    rw [xresl_ok hm _ hn]
    split
    · rename_i d' e; cases e; exact absurd rfl (h1 d')
    · rename_i ds' _ e; cases e; rfl
    · rename_i e; cases e
theorem slotsx_eq (ds:List DV):slotsx ds = slots 0 ds:=by
  have key:∀ (ds:List DV) (n:Nat),(@List.rec DV (fun _=>Nat→List (Nat × DV)) (fun _=>[]) (fun d _ ih n=>(n,d) :: ih (Nat.succ n)) ds n) = slots n ds:=by
    intro ds
    induction ds with
    | nil=>intro n; rfl
    | cons d ds ih=>intro n; show (n,d) :: _ = _; rw [slots]; congr 1; exact ih (n+1)
  exact key ds 0
theorem weak_start (mask:Nat) (args:List DV) (m:Mm):Weak ⟨slots 0 args,m.obs⟩ ((⟨[],slotsx args,m,[]⟩:FE).st mask):=by
  refine ⟨rfl,fun t=>?_⟩
  simp only [FE.st]
  rw [lk_envOf]
  unfold rd
  rw [bx_if,lkb_eq,lkb_eq,slotsx_eq]
  split
  · exact .inr rfl
  · exact .inl rfl
end
end Go.VL
end
section
namespace Go.VL
open Go
def LvRel (C:Ctx) (dd:List DD) (E:List (Nat × DV)) (m:Mm) (a:Act) (w:World) (u:FrameMode):Md→Prop
  | .ret=>u = .returning∧Rel (C.at dd) ⟨E,m.obs⟩ a w
  | .pan d=>∃ v F μ,u = .panicking [{ v,recovered:=false }]∧Rel0 (C.at dd) F μ ⟨E,m.obs⟩ a w∧Rep w F μ m.obs d v
  | .rcv _=>False
theorem xleaveC_good {L:Lay} {x:FX} {s:FE}:∀ (dd:List DD) (md:Md) (m:Mm) (out:Out) (m':Mm),xleaveC L x s dd md m = .ok out m'→Good m→Good m'
  | [],md,m,out,m',h,hm=>by
    cases md with
    | ret =>
      have h':xfin L x.mask x.res ⟨s.l,s.p,m,[]⟩ = .ok out m':=h
      rw [(xfin_ok (s:=⟨s.l,s.p,m,[]⟩) hm h').1]; exact hm
    | pan d=>cases h; exact hm
    | rcv d=>cases h
  | .col D :: r,md,m,out,m',h,hm=>by
    have h':(match m.t.get D with
      | some (.oth (.oth .defd []))=>xleaveC L x s r md ⟨m.t.put D (.oth (.oth .defd [.bool true])),m.n⟩
      | _ => .no "mark") = .ok out m' := h
    split at h' <;> try cases h'
    rename_i ho
    exact xleaveC_good r md _ out m' h' (hm.put ho (x:=.oth (.oth .defd [.bool true])) trivial).goodm
  | .fn f caps :: r,md,m,out,m',h,hm=>by cases h
theorem xleaveC_ok {L:Lay} {C:Ctx} (hL:LayOk C.P L) {fn:Func} {x:FX} (hres:fn.results.toList = x.res) {s:FE}:∀ (dd:List DD) (md:Md) (m:Mm) (out:Out) (m':Mm),xleaveC L x s dd md m = .ok out m'→Good m →
    ∀ (a:Act) (w:World) (u:FrameMode),LvRel C dd (envOf x.mask s) m a w u md→LeavesInM Fence.wide 0 C.P fn a.tmps (OutPost out m'.obs C.w0 C.F0 C.μ0 C.σ0) a.defers u w
  | [],md,m,out,m',h,hm=>by
    intro a w u hr
    cases md with
    | ret =>
      obtain ⟨rfl,F,μ,hr⟩:=hr
      have h':xfin L x.mask x.res ⟨s.l,s.p,m,[]⟩ = .ok out m':=h
      obtain ⟨rfl,d,rfl,hd⟩:=xfin_ok (s:=⟨s.l,s.p,m,[]⟩) hm h'
      have hd':a.defers = []:=hr.defers
      rw [hd']
      obtain ⟨v,r1,r2⟩:=run_results (C:=C.at []) hL hr (fn:=fn) (by rw [hres]; exact hd)
      exact ⟨v,r1,F,μ,v,⟨hr.hr,hr.step,hr.fr,hr.col⟩,rfl,r2⟩
    | pan d =>
      obtain ⟨v,F,μ,rfl,hr,hrep⟩:=hr
      cases h
      have hd':a.defers = []:=hr.defers
      rw [hd']
      exact ⟨F,μ,v,⟨hr.hr,hr.step,hr.fr,hr.col⟩,rfl,hrep⟩
    | rcv d=>cases h
  | .fn f caps :: r,md,m,out,m',h,hm=>by cases h
  | .col D :: r,md,m,out,m',h,hm=>by
    intro a w u hr
    have h':(match m.t.get D with
      | some (.oth (.oth .defd []))=>xleaveC L x s r md ⟨m.t.put D (.oth (.oth .defd [.bool true])),m.n⟩
      | _ => .no "mark") = .ok out m' := h
    split at h' <;> try cases h'
    rename_i ho
    have hput:=hm.put ho (x:=.oth (.oth .defd [.bool true])) trivial
    have ho':m.obs[D]? = some (.oth .defd []):=MmOf.oth hm ho
    -- what the step does to the relation
    have step:∀ {F:Nat→Nat→Prop} {μ:Nat→Option Nat},Rel0 (C.at (.col D :: r)) F μ ⟨envOf x.mask s,m.obs⟩ a w →
        ∃ b ds,a.defers = { target:=.collected b,args:=#[] } :: ds∧(Instr.takeDeferred b).run C.P w = .ok [] (w.putObj b (.deferred none)) ∧
          Rel0 (C.at r) F μ ⟨envOf x.mask s,(⟨m.t.put D (.oth (.oth .defd [.bool true])),m.n⟩:Mm).obs⟩ { a with defers:=ds } (w.putObj b (.deferred none)) ∧
          Step w F μ m.obs (w.putObj b (.deferred none)) F μ (⟨m.t.put D (.oth (.oth .defd [.bool true])),m.n⟩:Mm).obs:=by
      intro F μ hr
      obtain ⟨d,ds,e1,⟨b,es,g1,g2,g3⟩,e3⟩:=hr.defers
      have hob:=hr.hr.obj D _ ho'
      obtain ⟨_,vs,hvs,hlen,_⟩:=hob
      obtain ⟨b',y,q1,q2,q3⟩:=hvs
      rw [g1] at q1; cases q1
      have hv0:vs = []:=by
        cases vs with
        | nil=>rfl
        | cons v r=>simp at hlen
      have hy:=q3 hv0
      subst hy
      have hturn:=hr.hr.turn (id:=D) (b:=b) (t:=.defd) (t':=.defd) (ds:=[]) (ds':=[.bool true]) (.deferred none) ho' g1 rfl (fun hst hb=>⟨fun i hi=>by simp [OT.refs] at hi,[.bool true],⟨b,none,g1,hb,fun e=>by cases e⟩,rfl,fun i d v hd hv=>by
        rcases i with _ | i <;> simp at hd hv
        subst hd; subst hv; exact .bool⟩)
      obtain ⟨t1,t2,t3⟩:=hturn
      have hobs:m.obs.set D (.oth .defd [.bool true]) = (⟨m.t.put D (.oth (.oth .defd [.bool true])),m.n⟩:Mm).obs:=hput.obs
      rw [hobs] at t1 t2
      subst g3
      exact ⟨b,ds,e1,run_takeDeferred q2,⟨t1,fun t=>(hr.env t).step t2,hr.step.trans t2,hr.fr.trans t3,hr.col,hr.size,DefRep.step t2 e3⟩,t2⟩
    have hu:u ≠ .run:=by
      cases md with
      | ret=>rw [hr.1]; simp
      | pan d=>obtain ⟨v,F,μ,e,_⟩:=hr; rw [e]; simp
      | rcv d=>exact hr.elim
    cases md with
    | ret =>
      obtain ⟨rfl,F,μ,hr⟩:=hr
      obtain ⟨b,ds,e1,e2,e3,_⟩:=step hr
      rw [e1]
      exact ⟨hu,.inl ⟨b,_,rfl,e2,xleaveC_ok hL hres r .ret _ out m' h' hput.goodm { a with defers:=ds } _ _ ⟨rfl,F,μ,e3⟩⟩⟩
    | pan d =>
      obtain ⟨v,F,μ,rfl,hr,hrep⟩:=hr
      obtain ⟨b,ds,e1,e2,e3,e4⟩:=step hr
      rw [e1]
      exact ⟨hu,.inl ⟨b,_,rfl,e2,xleaveC_ok hL hres r (.pan d) _ out m' h' hput.goodm { a with defers:=ds } _ _ ⟨v,F,μ,rfl,e3,hrep.step e4⟩⟩⟩
    | rcv d=>exact hr.elim
end Go.VL
end
section
namespace Go.VL
open Go
structure FnOk (P:Program) (f:Nat) (x:FX):Prop where
  fn : ∃ fn, P.funcs[f]? = some fn ∧ fn.body = some x.body ∧ fn.results.toList = x.res ∧ fn.ntmps = x.n ∧ (fn.name == "runtime.NumGoroutine") = false
  ok:codeOk x x.body = true
def MdOf:XE→Option Md
  | .normal=>some .ret
  | .ret=>some .ret
  | .panic d=>some (.pan d)
  | .exit _=>none
theorem ok_of_runC {P:Program} {L:Lay} (hL:LayOk P L) {f:Nat} {x:FX} (hx:FnOk P f x) {run:FX→Code→FE→RR} (hrun:RunOk P run) {args:List DV} {m m':Mm} {out:Out} {e:XE} {s1:FE} {md:Md}
    (hm:Good m) (hlen:args.length≤x.n) (hr:run x x.body ⟨[],slotsx args,m,[]⟩ = .ok e s1) (he:MdOf e = some md) (hlv:xleaveC L x s1 s1.dd md s1.m = .ok out m') :
    Good m'∧Ok P f args m.obs out m'.obs:=by
  have hcode:=hx.ok
  obtain ⟨fn,hf,hb,hres,hn,hname⟩:=hx.fn
  obtain ⟨hm1,hdo⟩:=hrun _ _ _ _ _ hr hcode hm
  refine ⟨xleaveC_good _ _ _ _ _ hlv hm1,fun vs w=>?_,fun w F μ vs hr hv=>?_⟩
  · have hn' : ¬ fn.name = "runtime.NumGoroutine" := by simpa using hname
    simp [callFunc,program,Sem.run,hf,hn',hb]
  · let C:Ctx:=⟨P,fn.ntmps,none,[],w,F,μ,m.obs,hr.out⟩
    have hD:=hdo C ⟨rfl,hn,fun _=>rfl⟩
    have hrel:Rel (C.at []) ⟨slots 0 args,m.obs⟩ { tmps:=(⟨vs⟩:Array Value) ++ Array.replicate (fn.ntmps - (⟨vs⟩:Array Value).size) undef,defers:=[] } w:=by
      refine ⟨F,μ,hr,fun t=>?_,Step.refl ..,Fr.refl ..,fun _ _ h=>.inl h,?_,rfl⟩
      · show Rep w F μ m.obs (lk (slots 0 args) t) _
        rw [lk_slots,if_pos (Nat.zero_le t),Nat.sub_zero]
        rcases Nat.lt_or_ge t args.length with ht | ht
        · rw [List.getElem?_eq_getElem ht,Option.getD_some]
          have ht':t < vs.length:=by rw [← hv.1]; exact ht
          have:((⟨vs⟩:Array Value) ++ Array.replicate (fn.ntmps - (⟨vs⟩:Array Value).size) undef).getD t undef = vs[t]:=by
            rw [Array.getD_eq_getD_getElem?,Array.getElem?_append_left (by simpa using ht')]
            simp [ht']
          rw [this]
          exact hv.2 t _ _ (List.getElem?_eq_getElem ht) (List.getElem?_eq_getElem ht')
        · rw [List.getElem?_eq_none ht]
          exact .undef
      · show ((⟨vs⟩:Array Value) ++ Array.replicate (fn.ntmps - (⟨vs⟩:Array Value).size) undef).size = fn.ntmps
        have:=hv.1
        simp; omega
    have hwp:=(hD.weak (weak_start x.mask args m)) _ w hrel
    refine callsIn_wide.1 (callsIn_of_wp_marks hf hb trivial (n:=0) (wpIn_mono hwp fun ex a w' hq=>?_))
    have lv:∀ u,LvRel C s1.dd (envOf x.mask s1) s1.m a w' u md→LeavesInM Fence.wide 0 P fn a.tmps (OutPost out m'.obs w F μ m.obs) a.defers u w' :=
      fun u h=>xleaveC_ok (C:=C) hL hres s1.dd md s1.m out m' hlv hm1 a w' u h
    cases ex with
    | normal =>
      obtain ⟨rfl,hq⟩:=hq
      cases he
      exact lv .returning ⟨rfl,hq⟩
    | ret =>
      obtain ⟨rfl,hq⟩:=hq
      cases he
      exact lv .returning ⟨rfl,hq⟩
    | exit i=>obtain ⟨rfl,_⟩:=hq; cases he
    | panic ch =>
      obtain ⟨d,v,F',μ',rfl,rfl,h1,h2⟩:=hq
      cases he
      exact lv _ ⟨v,F',μ',rfl,h1,h2⟩
    | goto l=>exact hq.elim
    | outgrown=>exact hq.elim
end Go.VL
end
section
namespace Go.VL
open Go
structure TabOk (P:Program) (T:Nat→FT):Prop where
  code:∀ f x,T f = .code x→FnOk P f x
  nat:∀ f g args m out m',T f = .nat g→g args m = some (out,m')→Good m→Good m'∧Ok P f args m.obs out m'.obs
def LeaveFOk (P:Program) (L:Lay) (T:Nat→FT):Prop:=∀ (run:FX→Code→FE→RR) (call:DV→List DV→Mm→CR),RunOk P run→CallOk P call →
  ∀ (f:Nat) (x:FX) (args:List DV) (m m':Mm) (out:Out) (e:XE) (s1:FE) (md:Md) (g:Nat) (caps:List DV) (r:List DD),FnOk P f x→Good m→args.length≤x.n →
    run x x.body ⟨[],slotsx args,m,[]⟩ = .ok e s1→MdOf e = some md→s1.dd = .fn g caps :: r→xleaveF L T call x s1 s1.dd md s1.m = .ok out m'→Good m'∧Ok P f args m.obs out m'.obs
def RoundsOk (P:Program) (T:Nat→FT):Prop:=∀ run,RunOk P run→∀ id args m out m',xround T run id args m = .ok out m'→Good m→Good m'∧CallDo P (.yld id) args m.obs out m'.obs
section
variable {P:Program} {L:Lay} {T:Nat→FT} {run:FX→Code→FE→RR} {call:DV→List DV→Mm→CR}
theorem xcall_ok (hL:LayOk P L) (hT:TabOk P T) (hF:LeaveFOk P L T) (hrun:RunOk P run) (hc:CallOk P call) {f:Nat} {args:List DV} {m m':Mm} {out:Out} (h:xcall L T run call f args m = .ok out m') (hm:Good m) :
    Good m'∧Ok P f args m.obs out m'.obs:=by
  unfold xcall at h
  split at h
  · rename_i x hx
    have hfn:=hT.code f x hx
    rw [ble_if,len_eq] at h
    split at h <;> try cases h
    rename_i hlen
    have lv:∀ (e:XE) (s:FE) (md:Md),run x x.body ⟨[],slotsx args,m,[]⟩ = .ok e s→MdOf e = some md→xleave L T call x s s.dd md s.m = .ok out m'→Good m'∧Ok P f args m.obs out m'.obs:=by
      intro e s md hr he hl
      cases hdd:s.dd with
      | nil =>
        rw [hdd] at hl
        exact ok_of_runC hL hfn hrun hm hlen hr he (by rw [hdd]; exact hl)
      | cons q r =>
        rw [hdd] at hl
        cases q with
        | col D=>exact ok_of_runC hL hfn hrun hm hlen hr he (by rw [hdd]; exact hl)
        | fn g caps=>exact hF run call hrun hc f x args m m' out e s md g caps r hfn hm hlen hr he hdd (by rw [hdd]; exact hl)
    split at h
    · rename_i s hr; exact lv _ s .ret hr rfl h
    · rename_i s hr; exact lv _ s .ret hr rfl h
    · rename_i d s hr; exact lv _ s (.pan d) hr rfl h
    · cases h
    · cases h
  · rename_i g hg
    split at h <;> cases h
    rename_i hk
    exact hT.nat f g args m _ _ hg hk hm
  · cases h
theorem xval_ok (hL:LayOk P L) (hT:TabOk P T) (hF:LeaveFOk P L T) (hR:RoundsOk P T) (hrun:RunOk P run) (hc:CallOk P call):CallOk P (xval L T run call):=by
  intro g args m out m' h hm
  unfold xval at h
  split at h
  · rename_i f caps
    rw [appx_eq] at h
    obtain ⟨g1,g2⟩:=xcall_ok hL hT hF hrun hc h hm
    refine ⟨g1,?_,fun f' caps' e=>by cases e; exact g2⟩
    intro o st gop xs ts ho hf hargs hob
    subst hargs
    exact OpDo.call ho hf (by rw [hob]; exact g2)
  · rename_i id
    obtain ⟨g1,g2⟩:=hR run hrun id args m out m' h hm
    exact ⟨g1,g2,fun f caps e=>by cases e⟩
  · cases h
theorem callsOk (hL:LayOk P L) (hT:TabOk P T) (hF:LeaveFOk P L T) (hR:RoundsOk P T):CallsOk P L T:=by
  intro run hrun
  have h0 : CallOk P fun _ _ _ => .no "nested" := fun _ _ _ _ _ h => by cases h
  exact xval_ok hL hT hF hR hrun (xval_ok hL hT hF hR hrun h0)
end
end Go.VL
end
section
namespace Go.VL
open Go
def MdRel (w:World) (F:Nat→Nat→Prop) (μ:Nat→Option Nat) (σ:List Ob) (u:FrameMode):Md→Prop
  | .ret=>u = .returning
  | .pan d=>∃ v,u = .panicking [{ v,recovered:=false }]∧Rep w F μ σ d v
  | .rcv d=>∃ v,u = .panicking [{ v,recovered:=true }]∧Rep w F μ σ d v
theorem MdRel.step {w w':World} {F F':Nat→Nat→Prop} {μ μ':Nat→Option Nat} {σ σ':List Ob} (s:Step w F μ σ w' F' μ' σ') {u:FrameMode} {md:Md} (h:MdRel w F μ σ u md):MdRel w' F' μ' σ' u md:=by
  cases md with
  | ret=>exact h
  | pan d=>obtain ⟨v,h1,h2⟩:=h; exact ⟨v,h1,h2.step s⟩
  | rcv d=>obtain ⟨v,h1,h2⟩:=h; exact ⟨v,h1,h2.step s⟩
def RelS (C:Ctx) (md:Md) (st:St) (a:Act) (w:World) (u:FrameMode):Prop:=∃ F μ,Rel0 (C.at []) F μ st a w∧MdRel w F μ st.ob u md
theorem RelS.weak {C:Ctx} {md:Md} {st st':St} {a:Act} {w:World} {u:FrameMode} (k:Weak st st') (h:RelS C md st a w u):RelS C md st' a w u:=by
  obtain ⟨F,μ,h1,h2⟩:=h
  exact ⟨F,μ,h1.weak k,by rw [k.ob]; exact h2⟩
theorem wpS_mono {P:Program} {c:Code} {Q Q':Exit→Act→List Frame→World→Prop} {a:Act} {cs:List Frame} {w:World} (h:c.wpS P Q a cs w) (k:∀ e a cs w,Q e a cs w→Q' e a cs w):c.wpS P Q' a cs w :=
  fun b kk hb hr=>let ⟨e,a',cs',w',q,r⟩:=h b kk hb hr; ⟨e,a',cs',w',k _ _ _ _ q,r⟩
def exOf (stop:Bool):Exit:=if stop = true then .ret else .normal
def FinS (C:Ctx) (c₀:Frame) (cs₀:List Frame) (stop:Bool) (md:Md) (st:St):Exit→Act→List Frame→World→Prop :=
  fun ex a cs w=>ex = exOf stop∧∃ u,cs = { c₀ with mode:=u } :: cs₀∧RelS C md st a w u
theorem FinS.weak {C:Ctx} {c₀:Frame} {cs₀:List Frame} {stop:Bool} {md:Md} {st st':St} (k:Weak st st') {ex:Exit} {a:Act} {cs:List Frame} {w:World} (h:FinS C c₀ cs₀ stop md st ex a cs w):FinS C c₀ cs₀ stop md st' ex a cs w:=by
  obtain ⟨h1,u,h2,h3⟩:=h
  exact ⟨h1,u,h2,h3.weak k⟩
theorem opsS_at {P:Program} {ops:Array Oper} {Q:Exit→Act→List Frame→World→Prop} {i:Nat} {o:Oper} {l:List Nat} {a:Act} {cs:List Frame} {w:World} (ho:ops[i]? = some o)
    (h:if Region.wanted o (yielded ops a.tmps) then
        match (execOp a.eval o).run P w with
        | .ok .recover w' =>
          match recoverD cs with
          | some (v,cs')=>wpOpsS P ops Q l (a.put o.dst v) cs' w'
          | none=>wpOpsS P ops Q l (a.put o.dst .nilIface) cs w'
        | r=>o.upon P a (fun a' w'=>wpOpsS P ops Q l a' cs w') (fun e a' w'=>Q e a' cs w') r
      else wpOpsS P ops Q l (a.put o.dst undef) cs w):wpOpsS P ops Q (i :: l) a cs w:=by
  simp only [wpOpsS,ho]
  exact h
section
variable {P:Program} {L:Lay} {mask n:Nat} {call:DV→List DV→Mm→CR} {arr:Array Oper}
def TailS (P:Program) (mask n:Nat) (arr:Array Oper) (i k:Nat) (md:Md) (s:FE) (md':Md) (s':FE):Prop :=
  ∀ C,CtxOk C P n false→∀ (c₀:Frame) (cs₀:List Frame) (a:Act) (w:World) (u:FrameMode),RelS C md (s.st mask) a w u →
    wpOpsS P arr (FinS C c₀ cs₀ false md' (s'.st mask)) (List.range' i k) a ({ c₀ with mode:=u } :: cs₀) w
theorem opS_value {C:Ctx} {c₀:Frame} {cs₀:List Frame} {Q:Exit→Act→List Frame→World→Prop} {i:Nat} {o:Oper} {l:List Nat} {st:St} {d:DV} {ob':List Ob} {md:Md} {a:Act} {w:World} {u:FrameMode} (hP:C.P = P)
    (ho:arr[i]? = some o) (hg:gd arr st.env o = some true) (hd:∀ t,o.dst = some t→t < C.n) (hop:OpRun P o st d ob')
    (h:∀ a w u,RelS C md ⟨upo st.env o.dst d,ob'⟩ a w u→wpOpsS P arr Q l a ({ c₀ with mode:=u } :: cs₀) w) (hr:RelS C md st a w u):wpOpsS P arr Q (i :: l) a ({ c₀ with mode:=u } :: cs₀) w:=by
  obtain ⟨F,μ,hr,hmd⟩:=hr
  refine opsS_at ho ?_
  rw [if_pos (gd_wanted hr hg)]
  obtain ⟨r,w',μ',v,hrun,hv,hh,hst,hfr,hrep⟩:=hop a w F μ hr.hr (rep_ev hr)
  have hn:=h (a.put o.dst v) w' u ⟨F,μ',rel0_after (dd:=[]) hr ⟨hh,hst,hfr,fun c b h=>.inl h⟩ hd hrep,hmd.step hst⟩
  rw [hrun]
  rcases hv with rfl | ⟨rfl,rfl⟩
  · exact hn
  · exact hn
end
section
variable {P:Program} {arr:Array Oper}
theorem opS_call {C:Ctx} {c₀:Frame} {cs₀:List Frame} {Q:Exit→Act→List Frame→World→Prop} {i:Nat} {o:Oper} {l:List Nat} {st:St} {d:DV} {ob':List Ob} {md:Md} {a:Act} {w:World} {u:FrameMode} {g:Operand} {xs:Array Operand} {ts:Array TypeId} {f:FuncId} {caps:List DV}
    (ho:arr[i]? = some o) (hg:gd arr st.env o = some true) (hd:∀ t,o.dst = some t→t < C.n) (hop:o.op = .call { callee:=.value g,args:=xs,argTypes:=ts }) (hf:ev st.env g = .fn f caps)
    (hok:Ok P f (xs.toList.map (ev st.env) ++ caps) st.ob (.ret d) ob')
    (h:∀ a w u,RelS C md ⟨upo st.env o.dst d,ob'⟩ a w u→wpOpsS P arr Q l a ({ c₀ with mode:=u } :: cs₀) w) (hr:RelS C md st a w u):wpOpsS P arr Q (i :: l) a ({ c₀ with mode:=u } :: cs₀) w:=by
  obtain ⟨F,μ,hr,hmd⟩:=hr
  refine opsS_at ho ?_
  rw [if_pos (gd_wanted hr hg)]
  have hv:=rep_ev hr g
  rw [hf] at hv
  have hcap:∃ vs:List Value,a.eval g = .func (.func f) #[] ⟨vs⟩∧Reps w F μ st.ob caps vs:=by
    generalize a.eval g = v at hv
    cases hv with
    | fn hl hh=>exact ⟨_,rfl,hl,hh⟩
  obtain ⟨cvs,hge,hcr⟩:=hcap
  have hrun:(execOp a.eval o).run P w = .ok (.enter f ⟨xs.toList.map a.eval ++ cvs⟩) w:=by
    unfold execOp
    rw [hop]
    dsimp only [resolve]
    rw [hge]
    have harr:(xs.map a.eval ++ (⟨cvs⟩:Array Value)) = ⟨xs.toList.map a.eval ++ cvs⟩:=by
      apply Array.ext'
      simp
    simp only [Deferred.ofValue,Sem.run_bind,Sem.run_pure,Result.andThen_ok,invoke,Array.empty_append,harr]
    exact hok.enters _ w
  rw [hrun]
  show o.upon P a _ _ (.ok (.enter f _) w)
  rw [Oper.upon_enter]
  refine (hok.calls w F μ _ hr.hr ((reps_map hr xs.toList).append hcr)).mono fun e w' he=>?_
  obtain ⟨F',μ',v,haf,rfl,hrep⟩:=he
  exact h _ _ u ⟨F',μ',rel0_after (dd:=[]) hr haf hd hrep,hmd.step haf.step⟩
end
section
variable {P:Program} {arr:Array Oper}
theorem opS_recover {C:Ctx} {c₀:Frame} {cs₀:List Frame} {Q:Exit→Act→List Frame→World→Prop} {i:Nat} {o:Oper} {l:List Nat} {st:St} {md:Md} {a:Act} {w:World} {u:FrameMode} {xs:Array Operand} {ts:Array TypeId}
    (ho:arr[i]? = some o) (hg:gd arr st.env o = some true) (hd:∀ t,o.dst = some t→t < C.n) (hop:o.op = .call { callee:=.builtin .recover,args:=xs,argTypes:=ts })
    (h:∀ a w u,RelS C (rcvOf md).2 ⟨upo st.env o.dst (rcvOf md).1,st.ob⟩ a w u→wpOpsS P arr Q l a ({ c₀ with mode:=u } :: cs₀) w) (hr:RelS C md st a w u):wpOpsS P arr Q (i :: l) a ({ c₀ with mode:=u } :: cs₀) w:=by
  obtain ⟨F,μ,hr,hmd⟩:=hr
  refine opsS_at ho ?_
  rw [if_pos (gd_wanted hr hg)]
  have hrun:(execOp a.eval o).run P w = .ok .recover w:=by
    unfold execOp
    rw [hop]
    simp [resolve,Sem.run_bind,Sem.run_pure,Result.andThen_ok,invoke,Go.builtin]
  rw [hrun]
  have haf:After w F μ st.ob w F μ st.ob:=⟨hr.hr,Step.refl ..,Fr.refl ..,fun _ _ h=>.inl h⟩
  cases md with
  | ret =>
    obtain rfl:u = .returning:=hmd
    exact h _ _ _ ⟨F,μ,rel0_after (dd:=[]) hr haf hd .nili,rfl⟩
  | pan d =>
    obtain ⟨v,rfl,hv⟩:=hmd
    exact h _ _ _ ⟨F,μ,rel0_after (dd:=[]) hr haf hd hv,v,rfl,hv⟩
  | rcv d =>
    obtain ⟨v,rfl,hv⟩:=hmd
    exact h _ _ _ ⟨F,μ,rel0_after (dd:=[]) hr haf hd .nili,v,rfl,hv⟩
end
section
variable {P:Program} {arr:Array Oper}
theorem opS_pass {C:Ctx} {c₀:Frame} {cs₀:List Frame} {Q:Exit→Act→List Frame→World→Prop} {i:Nat} {o:Oper} {l:List Nat} {st:St} {md:Md} {a:Act} {w:World} {u:FrameMode}
    (ho:arr[i]? = some o) (hg:gd arr st.env o = some false) (hd:∀ t,o.dst = some t→t < C.n)
    (h:∀ a w u,RelS C md ⟨upo st.env o.dst .skip,st.ob⟩ a w u→wpOpsS P arr Q l a ({ c₀ with mode:=u } :: cs₀) w) (hr:RelS C md st a w u):wpOpsS P arr Q (i :: l) a ({ c₀ with mode:=u } :: cs₀) w:=by
  obtain ⟨F,μ,hr,hmd⟩:=hr
  refine opsS_at ho ?_
  rw [if_neg (by rw [gd_wanted hr hg]; simp)]
  have haf:After w F μ st.ob w F μ st.ob:=⟨hr.hr,Step.refl ..,Fr.refl ..,fun _ _ h=>.inl h⟩
  exact h _ _ _ ⟨F,μ,rel0_after (dd:=[]) hr haf hd .skip,hmd⟩
end
section
variable {P:Program} {L:Lay} {mask n:Nat} {call:DV→List DV→Mm→CR} {arr:Array Oper}
theorem drop_at {l:List Oper} {i:Nat} {o:Oper} (h:arr.toList.drop i = o :: l):arr[i]? = some o∧arr.toList.drop (i+1) = l:=by
  constructor
  · have h0:(arr.toList.drop i)[0]? = some o:=by rw [h]; rfl
    rw [List.getElem?_drop] at h0
    simpa using h0
  · rw [← List.drop_drop,h]; rfl
theorem xopsR_ok (hL:LayOk P L) (hc:CallOk P call):∀ (l:List Oper) (i:Nat),arr.toList.drop i = l→dstOk n l = true→∀ (md:Md) (s:FE) (stop:Bool) (md':Md) (s':FE),xopsR L mask arr.toList call l md s = .ok stop md' s'→Good s.m →
    stop = false∧Good s'.m∧TailS P mask n arr i l.length md s md' s'
  | [],i,_,_,md,s,stop,md',s',h,hm=>by
    cases h
    refine ⟨rfl,hm,fun C hC c₀ cs₀ a w u hr=>?_⟩
    exact ⟨rfl,u,rfl,hr.weak weak_cut⟩
  | o :: l,i,hdr,hdst,md,s,stop,md',s',h,hm=>by
    obtain ⟨ho,hdr'⟩:=drop_at hdr
    obtain ⟨hd,hdst'⟩:=dst_lt hdst
    have ih:=xopsR_ok hL hc l (i+1) hdr' hdst'
    have he:∀ t,rd mask s t = lk (envOf mask s) t:=fun t=>(lk_envOf mask s t).symm
    have hev:evl (rd mask s) = ev (envOf mask s):=by funext x; exact evl_envOf mask s x
    have h':xstepR L mask arr.toList call o (xopsR L mask arr.toList call l) md s = .ok stop md' s':=h
    unfold xstepR at h'
    split at h'
    · rename_i hg
      have hg':gd arr (envOf mask s) o = some true:=xgd_ok he hg
      split at h'
      · rename_i xs ts hop
        obtain ⟨g1,g2,g3⟩:=ih _ _ _ _ _ h' (by rw [wr_m]; exact hm)
        refine ⟨g1,g2,fun C hC c₀ cs₀ a w u hr=>?_⟩
        exact opS_recover (st:=s.st mask) ho hg' (by rw [hC.n]; exact hd) hop (fun a w u hr=>g3 C hC c₀ cs₀ a w u (hr.weak (weak_wr (m':=s.m) (dd:=s.dd)))) hr
      · rename_i g xs ts hop
        rw [hev] at h'
        split at h'
        · rename_i f caps hf
          have ha:mapx (ev (envOf mask s)) xs.toList = xs.toList.map (ev (envOf mask s)):=mapx_eq _ _
          rw [ha] at h'
          split at h'
          · rename_i d m' hk
            obtain ⟨k1,_,k3⟩:=hc _ _ _ _ _ hk hm
            obtain ⟨g1,g2,g3⟩:=ih _ _ _ _ _ h' (by rw [wr_m]; exact k1)
            refine ⟨g1,g2,fun C hC c₀ cs₀ a w u hr=>?_⟩
            exact opS_call (st:=s.st mask) ho hg' (by rw [hC.n]; exact hd) hop hf (k3 f caps rfl) (fun a w u hr=>g3 C hC c₀ cs₀ a w u (hr.weak weak_wr)) hr
          · cases h'
        · cases h'
      · rw [hev] at h'
        split at h'
        · rename_i d m' hk
          obtain ⟨σ',k1,k2⟩:=xop_sound hL hm hk
          obtain rfl:=k2.obs
          obtain ⟨g1,g2,g3⟩:=ih _ _ _ _ _ h' (by rw [wr_m]; exact k2.goodm)
          refine ⟨g1,g2,fun C hC c₀ cs₀ a w u hr=>?_⟩
          exact opS_value (P:=P) (st:=s.st mask) hC.P ho hg' (by rw [hC.n]; exact hd) k1 (fun a w u hr=>g3 C hC c₀ cs₀ a w u (hr.weak weak_wr)) hr
        · cases h'
    · rename_i hg
      obtain ⟨g1,g2,g3⟩:=ih _ _ _ _ _ h' (by rw [wr_m]; exact hm)
      refine ⟨g1,g2,fun C hC c₀ cs₀ a w u hr=>?_⟩
      exact opS_pass (st:=s.st mask) ho (xgd_ok he hg) (by rw [hC.n]; exact hd) (fun a w u hr=>g3 C hC c₀ cs₀ a w u (hr.weak (weak_wr (m':=s.m) (dd:=s.dd)))) hr
    · cases h'
theorem xrec_succ (x:FX) (k:Nat) (c:Code) (md:Md) (s:FE):xrec L x call (k+1) c md s = match c with
    | .skip=>.ok false md s
    | .ret=>.ok true md s
    | .seq a b=>match xrec L x call k a md s with
      | .ok false md' s'=>xrec L x call k b md' s'
      | r=>r
    | .cond q a b=>match evl (rd x.mask s) q with
      | .bool true=>xrec L x call k a md s
      | .bool false=>xrec L x call k b md s
      | _ => .no "cond"
    | .region id ops false=>xopsR L x.mask ops.toList call ops.toList md s
    | _ => .no "rec" := rfl
theorem xrec_ok (hL:LayOk P L) (hc:CallOk P call) (x:FX):∀ (k:Nat) (c:Code) (md:Md) (s:FE) (stop:Bool) (md':Md) (s':FE),xrec L x call k c md s = .ok stop md' s'→codeOk x c = true→Good s.m →
    Good s'.m∧∀ C,CtxOk C P x.n false→∀ (c₀:Frame) (cs₀:List Frame) (a:Act) (w:World) (u:FrameMode),RelS C md (s.st x.mask) a w u→c.wpS P (FinS C c₀ cs₀ stop md' (s'.st x.mask)) a ({ c₀ with mode:=u } :: cs₀) w
  | 0,c,md,s,stop,md',s',h,_,_=>by cases h
  | k+1,c,md,s,stop,md',s',h,hcode,hm=>by
    rw [xrec_succ] at h
    split at h
    · cases h
      exact ⟨hm,fun C hC c₀ cs₀ a w u hr=>wpS_of_wp (wp_skip ⟨rfl,u,rfl,hr⟩)⟩
    · cases h
      exact ⟨hm,fun C hC c₀ cs₀ a w u hr=>wpS_of_wp (wp_ret ⟨rfl,u,rfl,hr⟩)⟩
    · rename_i p q
      simp only [codeOk,Bool.and_eq_true] at hcode
      split at h
      · rename_i md1 s1 h1
        obtain ⟨g1,g2⟩:=xrec_ok hL hc x k _ _ _ _ _ _ h1 hcode.1 hm
        obtain ⟨g3,g4⟩:=xrec_ok hL hc x k _ _ _ _ _ _ h hcode.2 g1
        refine ⟨g3,fun C hC c₀ cs₀ a w u hr=>wpS_seq (wpS_mono (g2 C hC c₀ cs₀ a w u hr) ?_)⟩
        rintro ex a1 cs1 w1 ⟨rfl,u1,rfl,hr1⟩
        exact g4 C hC c₀ cs₀ a1 w1 u1 hr1
      · rename_i hn
        obtain ⟨g1,g2⟩:=xrec_ok hL hc x k _ _ _ _ _ _ h hcode.1 hm
        refine ⟨g1,fun C hC c₀ cs₀ a w u hr=>wpS_seq (wpS_mono (g2 C hC c₀ cs₀ a w u hr) ?_)⟩
        rintro ex a1 cs1 w1 ⟨rfl,u1,rfl,hr1⟩
        cases stop with
        | false=>exact absurd h (hn md' s')
        | true=>exact ⟨rfl,u1,rfl,hr1⟩
    · rename_i q p1 p2
      simp only [codeOk,Bool.and_eq_true] at hcode
      have key:∀ b:Bool,evl (rd x.mask s) q = .bool b→∀ {C:Ctx} {a:Act} {w:World} {u:FrameMode},RelS C md (s.st x.mask) a w u→a.eval q = .bool b:=by
        intro b hb C a w u hr
        obtain ⟨F,μ,hr,_⟩:=hr
        have hv:=rep_ev hr q
        rw [show ev (s.st x.mask).env q = .bool b from (evl_envOf x.mask s q).symm.trans hb] at hv
        generalize a.eval q = v at hv
        cases hv; rfl
      split at h
      · rename_i hq
        obtain ⟨g1,g2⟩:=xrec_ok hL hc x k _ _ _ _ _ _ h hcode.1 hm
        exact ⟨g1,fun C hC c₀ cs₀ a w u hr=>wpS_cond (key _ hq hr) (g2 C hC c₀ cs₀ a w u hr)⟩
      · rename_i hq
        obtain ⟨g1,g2⟩:=xrec_ok hL hc x k _ _ _ _ _ _ h hcode.2 hm
        exact ⟨g1,fun C hC c₀ cs₀ a w u hr=>wpS_cond (key _ hq hr) (g2 C hC c₀ cs₀ a w u hr)⟩
      · cases h
    · rename_i id ops
      obtain ⟨rfl,g2,g3⟩:=xopsR_ok (n:=x.n) hL hc ops.toList 0 rfl hcode _ _ _ _ _ h hm
      refine ⟨g2,fun C hC c₀ cs₀ a w u hr=>wpS_region ?_⟩
      have:=g3 C hC c₀ cs₀ a w u hr
      rw [List.range_eq_range']
      simpa using this
    · cases h
end
end Go.VL
end
section
namespace Go.VL
open Go
theorem FnOk.enters {P:Program} {f:Nat} {x:FX} (h:FnOk P f x) (vs:Array Value) (w:World):(callFunc f vs).run P w = .ok (.enter f vs) w:=by
  obtain ⟨fn,hf,hb,hres,hn,hname⟩:=h.fn
  have hn' : ¬ fn.name = "runtime.NumGoroutine" := by simpa using hname
  simp [callFunc,program,Sem.run,hf,hn',hb]
theorem rel_start {P:Program} {n:Nat} {args:List DV} {vs:List Value} {w:World} {F:Nat→Nat→Prop} {μ:Nat→Option Nat} {σ:List Ob} (hr:HR w F μ σ) (hv:Reps w F μ σ args vs) (hlen:args.length≤n) :
    Rel0 ⟨P,n,none,[],w,F,μ,σ,hr.out⟩ F μ ⟨slots 0 args,σ⟩ { tmps:=(⟨vs⟩:Array Value) ++ Array.replicate (n - (⟨vs⟩:Array Value).size) undef,defers:=[] } w:=by
  refine ⟨hr,fun t=>?_,Step.refl ..,Fr.refl ..,fun _ _ h=>.inl h,?_,rfl⟩
  · show Rep w F μ σ (lk (slots 0 args) t) _
    rw [lk_slots,if_pos (Nat.zero_le t),Nat.sub_zero]
    rcases Nat.lt_or_ge t args.length with ht | ht
    · rw [List.getElem?_eq_getElem ht,Option.getD_some]
      have ht':t < vs.length:=by rw [← hv.1]; exact ht
      have:((⟨vs⟩:Array Value) ++ Array.replicate (n - (⟨vs⟩:Array Value).size) undef).getD t undef = vs[t]:=by
        rw [Array.getD_eq_getD_getElem?,Array.getElem?_append_left (by simpa using ht')]
        simp [ht']
      rw [this]
      exact hv.2 t _ _ (List.getElem?_eq_getElem ht) (List.getElem?_eq_getElem ht')
    · rw [List.getElem?_eq_none ht]
      exact .undef
  · show ((⟨vs⟩:Array Value) ++ Array.replicate (n - (⟨vs⟩:Array Value).size) undef).size = n
    have:=hv.1
    simp; omega
def DefPost (m':Mm) (md':Md) (w:World) (F:Nat→Nat→Prop) (μ:Nat→Option Nat) (σ:List Ob) (e:Ending) (u':FrameMode) (w':World):Prop :=
  ∃ v F' μ',e = .returned v∧After w F μ σ w' F' μ' m'.obs∧MdRel w' F' μ' m'.obs u' md'
section
variable {P:Program} {L:Lay} {T:Nat→FT} {call:DV→List DV→Mm→CR}
theorem xdefer_ok (hL:LayOk P L) (hT:TabOk P T) (hc:CallOk P call) {f:Nat} {caps:List DV} {md md2:Md} {m m':Mm} (h:xdefer L T call f caps md m = some (md2,m')) (hm:Good m) :
    Good m'∧(∃ x,FnOk P f x)∧∃ md':Md,md2 = md'.settle∧∀ (w:World) (F:Nat→Nat→Prop) (μ:Nat→Option Nat) (vs:List Value) (u:FrameMode),HR w F μ m.obs→Reps w F μ m.obs caps vs→MdRel w F μ m.obs u md →
      CallsD P f ⟨vs⟩ u w (DefPost m' md' w F μ m.obs):=by
  unfold xdefer at h
  split at h
  · rename_i y hy
    have hfn:=hT.code f y hy
    have hcode:=hfn.ok
    rw [ble_if,len_eq] at h
    split at h <;> try cases h
    rename_i hlen
    split at h <;> try cases h
    rename_i stop md' s' hrec
    obtain ⟨g1,g2⟩:=xrec_ok hL hc y _ _ _ _ _ _ _ hrec hcode hm
    split at h <;> cases h
    rename_i out hfin
    obtain ⟨rfl,d,rfl,hd⟩:=xfin_ok g1 hfin
    refine ⟨g1,⟨y,hfn⟩,md',rfl,fun w F μ vs u hr hv hmd=>?_⟩
    obtain ⟨fn,hf,hb,hres,hn,hname⟩:=hfn.fn
    refine callsD_of_wpS hf hb fun c₀ cs hu=>?_
    subst hu
    have hst:RelS ⟨P,fn.ntmps,none,[],w,F,μ,m.obs,hr.out⟩ md ((⟨[],slotsx caps,m,[]⟩:FE).st y.mask) { tmps:=(⟨vs⟩:Array Value) ++ Array.replicate (fn.ntmps - (⟨vs⟩:Array Value).size) undef,defers:=[] } w c₀.mode :=
      RelS.weak (weak_start y.mask caps m) ⟨F,μ,rel_start hr hv (by rw [hn]; exact hlen),hmd⟩
    refine wpS_mono (g2 ⟨P,fn.ntmps,none,[],w,F,μ,m.obs,hr.out⟩ ⟨rfl,hn,fun _=>rfl⟩ c₀ cs _ w c₀.mode hst) ?_
    rintro ex a1 cs1 w1 ⟨rfl,u1,rfl,F1,μ1,hr1,hmd1⟩
    obtain ⟨v,r1,r2⟩:=run_results (C:=Ctx.at ⟨P,fn.ntmps,none,[],w,F,μ,m.obs,hr.out⟩ []) hL hr1 (fn:=fn) (by rw [hres]; exact hd)
    have hdef:a1.defers = []:=hr1.defers
    cases stop with
    | false=>exact ⟨hdef,u1,rfl,v,r1,v,F1,μ1,rfl,⟨hr1.hr,hr1.step,hr1.fr,hr1.col⟩,hmd1⟩
    | true=>exact ⟨hdef,u1,rfl,v,r1,v,F1,μ1,rfl,⟨hr1.hr,hr1.step,hr1.fr,hr1.col⟩,hmd1⟩
  · cases h
theorem MdRel.settle {w:World} {F:Nat→Nat→Prop} {μ:Nat→Option Nat} {σ:List Ob} {u:FrameMode} {md:Md} (h:MdRel w F μ σ u md):MdRel w F μ σ (Go.settle u) md.settle:=by
  cases md with
  | ret=>obtain rfl:u = .returning:=h; rfl
  | pan d=>obtain ⟨v,rfl,hv⟩:=h; exact ⟨v,rfl,hv⟩
  | rcv d=>obtain ⟨v,rfl,hv⟩:=h; rfl
def LvF (C:Ctx) (dd:List DD) (E:List (Nat × DV)) (m:Mm) (a:Act) (w:World) (u:FrameMode) (md:Md):Prop :=
  ∃ F μ,Rel0 (C.at dd) F μ ⟨E,m.obs⟩ a w∧MdRel w F μ m.obs u md∧∀ d,md ≠ .rcv d
theorem settle_ne (md:Md) (d:DV):md.settle ≠ .rcv d:=by cases md <;> simp [Md.settle]
theorem xleaveF_good (hL:LayOk P L) (hT:TabOk P T) (hc:CallOk P call) {x:FX} {s:FE}:∀ (dd:List DD) (md:Md) (m:Mm) (out:Out) (m':Mm),xleaveF L T call x s dd md m = .ok out m'→Good m→Good m'
  | [],md,m,out,m',h,hm=>by
    cases md with
    | ret =>
      have h':xfin L x.mask x.res ⟨s.l,s.p,m,[]⟩ = .ok out m':=h
      rw [(xfin_ok (s:=⟨s.l,s.p,m,[]⟩) hm h').1]; exact hm
    | pan d=>cases h; exact hm
    | rcv d=>cases h
  | .col D :: r,md,m,out,m',h,hm=>by cases h
  | .fn f caps :: r,md,m,out,m',h,hm=>by
    have h':(match xdefer L T call f caps md m with
      | some (md',m')=>xleaveF L T call x s r md' m'
      | none => .no "defer") = .ok out m' := h
    split at h' <;> try cases h'
    rename_i md1 m1 h1
    exact xleaveF_good hL hT hc r md1 m1 out m' h' (xdefer_ok hL hT hc h1 hm).1
theorem xleaveF_ok {C:Ctx} (hP:C.P = P) (hL:LayOk P L) (hT:TabOk P T) (hc:CallOk P call) {fn:Func} {x:FX} (hres:fn.results.toList = x.res) {s:FE}:∀ (dd:List DD) (md:Md) (m:Mm) (out:Out) (m':Mm),xleaveF L T call x s dd md m = .ok out m'→Good m →
    ∀ (a:Act) (w:World) (u:FrameMode),LvF C dd (envOf x.mask s) m a w u md→Leaves P fn a.tmps (OutPost out m'.obs C.w0 C.F0 C.μ0 C.σ0) a.defers u w
  | [],md,m,out,m',h,hm=>by
    rintro a w u ⟨F,μ,hr,hmd,hne⟩
    have hd':a.defers = []:=hr.defers
    rw [hd']
    cases md with
    | ret =>
      obtain rfl:u = .returning:=hmd
      have h':xfin L x.mask x.res ⟨s.l,s.p,m,[]⟩ = .ok out m':=h
      obtain ⟨rfl,d,rfl,hd⟩:=xfin_ok (s:=⟨s.l,s.p,m,[]⟩) hm h'
      obtain ⟨v,r1,r2⟩:=run_results (C:=C.at []) (by rw [show (C.at []).P = P from hP]; exact hL) hr (fn:=fn) (by rw [hres]; exact hd)
      rw [show (C.at []).P = P from hP] at r1
      exact ⟨v,r1,F,μ,v,⟨hr.hr,hr.step,hr.fr,hr.col⟩,rfl,r2⟩
    | pan d =>
      obtain ⟨v,rfl,hrep⟩:=hmd
      cases h
      exact ⟨F,μ,v,⟨hr.hr,hr.step,hr.fr,hr.col⟩,rfl,hrep⟩
    | rcv d=>exact absurd rfl (hne d)
  | .col D :: r,md,m,out,m',h,hm=>by cases h
  | .fn f caps :: r,md,m,out,m',h,hm=>by
    rintro a w u ⟨F,μ,hr,hmd,hne⟩
    have h':(match xdefer L T call f caps md m with
      | some (md',m')=>xleaveF L T call x s r md' m'
      | none => .no "defer") = .ok out m' := h
    split at h' <;> try cases h'
    rename_i md1 m1 h1
    obtain ⟨g1,⟨y,g2⟩,md',rfl,g3⟩:=xdefer_ok hL hT hc h1 hm
    obtain ⟨d,ds,e1,⟨vs,e2,e3⟩,e4⟩:=hr.defers
    rw [e1]
    have hu:u ≠ .run:=by
      cases md with
      | ret=>rw [show u = .returning from hmd]; simp
      | pan d=>obtain ⟨v,e,_⟩:=hmd; rw [e]; simp
      | rcv d=>exact absurd rfl (hne d)
    subst e3
    refine ⟨hu,.func f,⟨vs⟩,f,⟨vs⟩,rfl,?_,fun c cs hcm=>?_⟩
    · simp only [invoke,Array.empty_append]
      exact g2.enters _ w
    · obtain ⟨e,u',w',fr,⟨v,F',μ',rfl,haf,hmd'⟩,q1,q2,q3⟩:=g3 w F μ vs u hr.hr e2 hmd c cs hcm
      refine ⟨_,u',w',fr,?_,q1,q2,q3⟩
      refine xleaveF_ok hP hL hT hc hres r md'.settle m1 out m' h' g1 { a with defers:=ds } w' (settle u') ⟨F',μ',?_,hmd'.settle,settle_ne md'⟩
      exact ⟨haf.hr,fun t=>(hr.env t).step haf.step,hr.step.trans haf.step,hr.fr.trans haf.fr,fun c b hb=>(haf.col c b hb).elim (hr.col c b) (fun q=>.inr (Nat.le_trans hr.fr.size q)),hr.size,DefRep.step haf.step e4⟩
theorem leaveFOk (hL:LayOk P L) (hT:TabOk P T):LeaveFOk P L T:=by
  intro run call hrun hc f x args m m' out e s1 md g caps r hx hm hlen hr he hdd hlv
  have hcode:=hx.ok
  have hfn:=hx
  obtain ⟨fn,hf,hb,hres,hn,hname⟩:=hx.fn
  obtain ⟨hm1,hdo⟩:=hrun _ _ _ _ _ hr hcode hm
  refine ⟨xleaveF_good hL hT hc _ _ _ _ _ hlv hm1,fun vs w=>hfn.enters vs w,fun w F μ vs hr hv=>?_⟩
  let C:Ctx:=⟨P,fn.ntmps,none,[],w,F,μ,m.obs,hr.out⟩
  have hD:=hdo C ⟨rfl,hn,fun _=>rfl⟩
  have hlen2:args.length≤fn.ntmps:=by rw [hn]; exact hlen
  have hwp:=(hD.weak (weak_start x.mask args m)) _ w ⟨F,μ,rel_start hr hv hlen2⟩
  refine calls_of_wp_defers hf hb (wp_mono ((wpIn_wide (n:=0)).1 hwp) fun ex a w' hq=>?_)
  have lv:∀ u,LvF C s1.dd (envOf x.mask s1) s1.m a w' u md→Leaves P fn a.tmps (OutPost out m'.obs w F μ m.obs) a.defers u w' :=
    fun u h=>xleaveF_ok (C:=C) rfl hL hT hc hres s1.dd md s1.m out m' hlv hm1 a w' u h
  cases ex with
  | normal =>
    obtain ⟨rfl,F',μ',hq⟩:=hq
    cases he
    exact lv .returning ⟨F',μ',hq,rfl,fun d h=>by cases h⟩
  | ret =>
    obtain ⟨rfl,F',μ',hq⟩:=hq
    cases he
    exact lv .returning ⟨F',μ',hq,rfl,fun d h=>by cases h⟩
  | exit i=>obtain ⟨rfl,_⟩:=hq; cases he
  | panic ch =>
    obtain ⟨d,v,F',μ',rfl,rfl,h1,h2⟩:=hq
    cases he
    exact lv _ ⟨F',μ',h1,⟨v,rfl,h2⟩,fun d h=>by cases h⟩
  | goto l=>exact hq.elim
  | outgrown=>exact hq.elim
end
end Go.VL
end
section
namespace Go.VL
open Go
theorem codeOk_round (x:FX):∀ c,codeOk x.round c = codeOk x c:=by
  intro c
  induction c with
  | region id ops dr=>cases dr <;> rfl
  | seq a b ia ib=>simp only [codeOk,ia,ib]
  | cond q a b ia ib=>simp only [codeOk,ia,ib]
  | block i b ib=>simp only [codeOk,ib]
  | loop b ib=>simp only [codeOk,ib]
  | scope b ib=>simp only [codeOk,ib]
  | rangeFunc g ps a b ia ib=>simp only [codeOk,ia,ib]
  | _=>rfl
section
variable {w:World} {F:Nat→Nat→Prop} {μ:Nat→Option Nat} {σ:List Ob}
theorem setl_ok {n:Nat}:∀ (ps:List Nat) (args:List DV) (p0 p:List (Nat × DV)) (vs:List Value) (tm:Array Value),setl n ps args p0 = some p→Reps w F μ σ args vs→tm.size = n→(∀ t,Rep w F μ σ (lk p0 t) (tm.getD t undef)) →
    vs.length = ps.length∧((ps.zip vs).foldl (fun t (q,v)=>t.setIfInBounds q v) tm).size = n∧∀ t,Rep w F μ σ (lk p t) (((ps.zip vs).foldl (fun t (q,v)=>t.setIfInBounds q v) tm).getD t undef)
  | [],args,p0,p,vs,tm,h,hr,hs,he=>by
    cases args with
    | nil =>
      have h':some p0 = some p:=h
      cases h'
      refine ⟨by have:=hr.1; simpa using this.symm,?_,?_⟩
      · simpa using hs
      · simpa using he
    | cons d r=>cases h
  | t :: ps,args,p0,p,vs,tm,h,hr,hs,he=>by
    cases args with
    | nil=>cases h
    | cons d r =>
      have h':bx (Nat.ble (Nat.succ t) n) (setl n ps r (upb p0 t d)) none = some p:=h
      rw [ble_if] at h'
      split at h' <;> try cases h'
      rename_i hlt
      cases vs with
      | nil=>have:=hr.1; simp at this
      | cons v vr =>
        have hv:Rep w F μ σ d v:=hr.2 0 d v rfl rfl
        have hr':Reps w F μ σ r vr:=⟨by have:=hr.1; simpa using this,fun i x y hx hy=>hr.2 (i+1) x y (by simpa using hx) (by simpa using hy)⟩
        obtain ⟨g1,g2,g3⟩:=setl_ok ps r (upb p0 t d) p vr (tm.setIfInBounds t v) h' hr' (by simpa using hs) (fun s=>by
          rw [upb_eq,lk_up,Array.getD_eq_getD_getElem?,Array.getElem?_setIfInBounds]
          by_cases e:t = s
          · subst e
            rw [if_pos rfl,if_pos rfl,if_pos (by omega)]
            exact hv
          · rw [if_neg e,if_neg e,← Array.getD_eq_getD_getElem?]
            exact he s)
        refine ⟨by simp [g1],?_,?_⟩
        · simpa using g2
        · simpa using g3
theorem fold_zip (ps:List Nat) (vs:List Value) (tm:Array Value):((⟨ps⟩:Array Nat).zip (⟨vs⟩:Array Value)).foldl (fun tmps (t,a)=>tmps.setIfInBounds t a) tm = (ps.zip vs).foldl (fun tmps (t,a)=>tmps.setIfInBounds t a) tm:=by
  rw [← Array.foldl_toList,Array.toList_zip]
theorem loop_at {id:Nat} {st:LoopState} {q:Option Code} {f:FuncId} {ps:List Tmp} {asg bo:Code} {did:Nat} {ds:List DV} (hr:HR w F μ σ) (ho:σ[id]? = some (.oth (.loop st q f ps asg bo did) ds)) :
    ∃ r d fn vs,μ id = some r∧μ did = some d∧w.heap[r]? = some (.loop { state:=st,pending:=q,fn,tmps:=⟨vs⟩,params:=⟨ps⟩,assign:=asg,body:=bo,defers:=d })∧Reps w F μ σ ds vs:=by
  obtain ⟨_,vs,⟨r,d,fn,h1,h2,h3⟩,hl,hv⟩:=hr.obj _ _ ho
  exact ⟨r,d,fn,vs,h1,h2,h3,hl,hv⟩
theorem loop_turn {id r d:Nat} {fn:FuncId} {st st':LoopState} {q q':Option Code} {f:FuncId} {ps:List Tmp} {asg bo:Code} {did:Nat} {ds:List DV} {vs:List Value} (hr:HR w F μ σ) (ho:σ[id]? = some (.oth (.loop st q f ps asg bo did) ds))
    (h1:μ id = some r) (h2:μ did = some d) (h4:Reps w F μ σ ds vs) :
    HR (w.putObj r (.loop { state:=st',pending:=q',fn,tmps:=⟨vs⟩,params:=⟨ps⟩,assign:=asg,body:=bo,defers:=d })) F μ (σ.set id (.oth (.loop st' q' f ps asg bo did) ds)) ∧
    Step w F μ σ (w.putObj r (.loop { state:=st',pending:=q',fn,tmps:=⟨vs⟩,params:=⟨ps⟩,assign:=asg,body:=bo,defers:=d })) F μ (σ.set id (.oth (.loop st' q' f ps asg bo did) ds)) ∧
    Fr w μ (w.putObj r (.loop { state:=st',pending:=q',fn,tmps:=⟨vs⟩,params:=⟨ps⟩,assign:=asg,body:=bo,defers:=d })) μ:=by
  refine hr.turn (t':=.loop st' q' f ps asg bo did) _ ho h1 rfl (fun hst hb=>⟨fun i hi=>?_,vs,⟨r,d,fn,h1,h2,hb⟩,h4.1,fun i x v hx hv=>(h4.2 i x v hx hv).step hst⟩)
  obtain ⟨t',es,g⟩:=(hr.obj _ _ ho).1 i hi
  obtain ⟨o',ho',t2,ds2,rfl,_⟩:=hst.ext _ _ g
  exact ⟨t2,ds2,ho'⟩
end
theorem endRound_ok {id:Nat} {e:XE} {m:Mm} {out:Out} {m':Mm} (h:endRound id e m = .ok out m'):∃ st q fn ps asg bo did ds j,m.t.get id = some (.oth (.oth (.loop st q fn ps asg bo did) ds))∧jumpOf e = some j∧out = .ret (.bool j.isNone) ∧
    m' = ⟨m.t.put id (.oth (.oth (.loop (if j.isNone then .ready else .done) j fn ps asg bo did) ds)),m.n⟩:=by
  unfold endRound at h
  split at h <;> try cases h
  rename_i st q fn ps asg bo did ds ho
  split at h <;> cases h
  · rename_i hj
    exact ⟨st,q,fn,ps,asg,bo,did,ds,none,ho,hj,rfl,rfl⟩
  · rename_i c hj
    exact ⟨st,q,fn,ps,asg,bo,did,ds,some c,ho,hj,rfl,rfl⟩
section
variable {P:Program} {L:Lay} {T:Nat→FT}
theorem roundsOk (hT:TabOk P T):RoundsOk P T:=by
  intro run hrun id args m out m' h hm
  unfold xround at h
  split at h <;> try cases h
  rename_i st0 q0 fn ps asg bo did ds ho
  split at h <;> try cases h
  rename_i x hx
  rw [bx_if] at h
  split at h <;> try cases h
  rename_i hca
  rw [bx_if] at h
  split at h <;> try cases h
  rename_i hcb
  split at h <;> try cases h
  rename_i p hp
  rw [beq_if,len_eq] at h
  split at h <;> try cases h
  rename_i hlen
  split at h <;> try cases h
  rename_i s1 hr1
  split at h <;> try cases h
  rename_i q1 f1 p1 a1 b1 d1 e1 ho1
  split at h <;> try cases h
  rename_i e s2 hr2
  obtain ⟨st2,q2,f2,p2,a2,b2,d2,e2,j,ho2,hj,rfl,rfl⟩:=endRound_ok h
  obtain ⟨hm1,hD1⟩:=hrun _ _ _ _ _ hr1 (by rw [codeOk_round]; exact hca) hm
  have hput1:=hm1.put ho1 (x:=.oth (.oth (.loop .busy q1 f1 p1 a1 b1 d1) e1)) trivial
  obtain ⟨hm2,hD2⟩:=hrun _ _ _ _ _ hr2 (by rw [codeOk_round]; exact hcb) hput1.goodm
  have hput2:=hm2.put ho2 (x:=.oth (.oth (.loop (if j.isNone then .ready else .done) j f2 p2 a2 b2 d2) e2)) trivial
  refine ⟨hput2.goodm,?_⟩
  intro o st gop xs ts hop hg hargs hob ro a w F μ K' Q hh he hk
  rw [hob] at hh he hk
  have hv:=he gop
  rw [hg] at hv
  obtain ⟨r,d,fn',vs,k1,k2,k3,k4⟩:=loop_at hh (MmOf.oth hm ho)
  have hge:a.eval gop = .func (.yield r) #[] #[]:=by
    generalize a.eval gop = v at hv
    cases hv with
    | yld h _=>rw [k1] at h; cases h; rfl
  have hrm:Reps w F μ m.obs args (xs.toList.map a.eval):=by
    subst hargs
    refine ⟨by simp,fun i d v hd hv=>?_⟩
    rw [List.getElem?_map] at hd hv
    cases hx:xs.toList[i]? with
    | none=>simp [hx] at hd
    | some x =>
      simp only [hx,Option.map_some,Option.some.injEq] at hd hv
      subst hd; subst hv
      exact he x
  have hvs:vs.length = x.n:=by rw [← k4.1]; exact hlen
  obtain ⟨l1,l2,l3⟩:=setl_ok (w:=w) (F:=F) (μ:=μ) (σ:=m.obs) ps args (slotsx ds) p (xs.toList.map a.eval) ⟨vs⟩ hp hrm (by simpa using hvs) (fun t=>by
    rw [slotsx_eq,lk_slots,if_pos (Nat.zero_le t),Nat.sub_zero]
    rcases Nat.lt_or_ge t ds.length with ht | ht
    · rw [List.getElem?_eq_getElem ht,Option.getD_some]
      have ht':t < vs.length:=by rw [← k4.1]; exact ht
      have:(⟨vs⟩:Array Value).getD t undef = vs[t]:=by
        rw [Array.getD_eq_getD_getElem?]
        simp [ht']
      rw [this]
      exact k4.2 t _ _ (List.getElem?_eq_getElem ht) (List.getElem?_eq_getElem ht')
    · rw [List.getElem?_eq_none ht]
      exact .undef)
  have hsz:(xs.map a.eval).size = ps.length:=by simpa using l1
  have hmap:xs.map a.eval = ⟨xs.toList.map a.eval⟩:=by apply Array.ext'; simp
  have hrunop:(execOp a.eval o).run P w = .ok (.round r fn' ((ps.zip (xs.toList.map a.eval)).foldl (fun tmps (t,a)=>tmps.setIfInBounds t a) ⟨vs⟩) asg bo) w:=by
    unfold execOp
    rw [hop]
    dsimp only [resolve]
    rw [hge]
    simp only [Deferred.ofValue,Sem.run_bind,Sem.run_pure,Result.andThen_ok,invoke,Array.empty_append,Array.append_empty]
    have:=run_yield (P:=P) (args:=xs.map a.eval) k3 hsz
    rw [hmap] at this ⊢
    rw [this,fold_zip]
  refine ⟨fun _ _=>trivial,?_⟩
  show o.uponIn _ 0 P a K' Q ((o.semAt ro a.eval).run P w)
  rw [Oper.semAt_eq _ _ _ (by intro c hc; rw [hop] at hc; cases hc),hrunop,Oper.uponIn_round]
  refine ⟨fun e=>(by cases e),?_⟩
  refine roundIn_of_wpIn (F:={ Fence.wide with round:=ro }) trivial ?_
  let C:Ctx:=⟨P,x.n,some r,[],w,F,μ,m.obs,hh.out⟩
  have hC:CtxOk C P x.round.n x.round.rnd:=⟨rfl,rfl,fun e=>by cases e⟩
  have hrel:Rel (C.at []) ((⟨[],p,m,[]⟩:FE).st x.mask) { tmps:=(ps.zip (xs.toList.map a.eval)).foldl (fun tmps (t,a)=>tmps.setIfInBounds t a) ⟨vs⟩,defers:=[] } w:=by
    refine Rel.weak (st:=⟨p,m.obs⟩) ⟨F,μ,hh,l3,Step.refl ..,Fr.refl ..,fun _ _ h=>.inl h,l2,rfl⟩ ⟨rfl,fun t=>?_⟩
    show lk (envOf x.mask ⟨[],p,m,[]⟩) t = .undef∨lk (envOf x.mask ⟨[],p,m,[]⟩) t = lk p t
    rw [lk_envOf]
    unfold rd
    rw [bx_if,lkb_eq,lkb_eq]
    split
    · exact .inr rfl
    · exact .inl rfl
  refine wpIn_mono (hD1 C hC _ w hrel) fun ex a1' w1 q=>?_
  cases ex with
  | exit i=>cases q.1
  | ret=>cases q.1
  | panic ch=>obtain ⟨_,_,_,_,h1,_⟩:=q; cases h1
  | goto l=>exact q.elim
  | outgrown=>exact q.elim
  | normal =>
    obtain ⟨_,F1,μ1,hq⟩:=q
    obtain ⟨r1,dd1,fn1,vs1,n1,n2,n3,n4⟩:=loop_at hq.hr (MmOf.oth hm1 ho1)
    have hr1':r1 = r:=by
      have:=hq.step.othsame id _ _ (MmOf.oth hm ho)
      rw [n1] at this
      rw [show C.μ0 = μ from rfl,k1] at this
      exact Option.some.inj this
    subst hr1'
    obtain ⟨t1,t2,t3⟩:=loop_turn (fn:=fn1) (st':=.busy) (q':=q1) hq.hr (MmOf.oth hm1 ho1) n1 n2 n4
    rw [show (s1.st x.round.mask).ob.set id (.oth (.loop .busy q1 f1 p1 a1 b1 d1) e1) = (⟨s1.m.t.put id (.oth (.oth (.loop .busy q1 f1 p1 a1 b1 d1) e1)),s1.m.n⟩:Mm).obs from hput1.obs] at t1 t2
    refine ⟨_,run_beginRound n3 rfl,?_⟩
    have hrel2:Rel (C.at s1.dd) ((⟨s1.l,s1.p,⟨s1.m.t.put id (.oth (.oth (.loop .busy q1 f1 p1 a1 b1 d1) e1)),s1.m.n⟩,s1.dd⟩:FE).st x.mask) a1' _ :=
      ⟨F1,μ1,t1,fun t=>(hq.env t).step t2,hq.step.trans t2,hq.fr.trans t3,hq.col,hq.size,DefRep.step t2 hq.defers⟩
    refine wpIn_mono (hD2 C hC _ _ hrel2) fun ex a2' w2 q=>?_
    have fin:∀ {F2:Nat→Nat→Prop} {μ2:Nat→Option Nat} {a2':Act} {w2:World},Rel0 (C.at s2.dd) F2 μ2 (s2.st x.mask) a2' w2 →
        ∃ v w',(Instr.endRound r1 j).run P w2 = .ok v w'∧K' (a.put o.dst v) w':=by
      intro F2 μ2 a2' w2 hq2
      obtain ⟨r2,dd2,fn2,vs2,m1,m2,m3,m4⟩:=loop_at hq2.hr (MmOf.oth hm2 ho2)
      have hr2':r2 = r1:=by
        have:=hq2.step.othsame id _ _ (MmOf.oth hm ho)
        rw [m1] at this
        rw [show C.μ0 = μ from rfl,k1] at this
        exact Option.some.inj this
      subst hr2'
      obtain ⟨u1,u2,u3⟩:=loop_turn (fn:=fn2) (st':=if j.isNone then .ready else .done) (q':=j) hq2.hr (MmOf.oth hm2 ho2) m1 m2 m4
      rw [show (s2.st x.mask).ob.set id (.oth (.loop (if j.isNone then .ready else .done) j f2 p2 a2 b2 d2) e2) = (⟨s2.m.t.put id (.oth (.oth (.loop (if j.isNone then .ready else .done) j f2 p2 a2 b2 d2) e2)),s2.m.n⟩:Mm).obs from hput2.obs] at u1 u2
      exact ⟨_,_,run_endRound j m3,hk _ _ F2 μ2 ⟨u1,hq2.step.trans u2,hq2.fr.trans u3,hq2.col⟩ .bool⟩
    cases ex with
    | normal =>
      obtain ⟨rfl,F2,μ2,hq2⟩:=q
      cases hj
      exact fin hq2
    | ret =>
      obtain ⟨rfl,F2,μ2,hq2⟩:=q
      cases hj
      exact fin hq2
    | exit i =>
      obtain ⟨rfl,F2,μ2,hq2⟩:=q
      cases hj
      exact fin hq2
    | panic ch=>obtain ⟨d,v,F2,μ2,rfl,_⟩:=q; cases hj
    | goto l=>exact q.elim
    | outgrown=>exact q.elim
end
end Go.VL
end
section
namespace Go.VL
open Go
theorem tmpsOf_ok (mask:Nat) (s:FE) (n:Nat):(tmpsOf mask n s).length = n∧∀ i,i < n→(tmpsOf mask n s)[i]? = some (rd mask s i):=by
  have key:∀ n t,(@Nat.rec (fun _=>Nat→List DV) (fun _=>[]) (fun _ ih t=>rd mask s t :: ih (Nat.succ t)) n t:List DV) = (List.range' t n).map (rd mask s):=by
    intro n
    induction n with
    | zero=>intro t; rfl
    | succ n ih =>
      intro t
      show rd mask s t :: _ = _
      rw [ih,List.range'_succ]
      rfl
  have h:tmpsOf mask n s = (List.range' 0 n).map (rd mask s):=key n 0
  rw [h]
  refine ⟨by simp,fun i hi=>?_⟩
  simp [List.getElem?_map,List.getElem?_range',hi]
section
variable {P:Program} {L:Lay} {T:Nat→FT}
theorem xrange_ok {call:DV→List DV→Mm→CR} {x:FX} {f:FuncId} {caps:List DV} {ps:List Nat} {asg bo:Code} {s s':FE} {e:XE} {g:DV} (h:xrange call x g ps asg bo s = .ok e s') :
    ∃ f caps,g = .fn f caps∧x.rnd = false∧∃ out m,call (.fn f caps) [.yld (Nat.succ s.m.n)] (pushX (pushX s.m (.oth (.oth .defd []))) (.oth (.oth (.loop .ready none x.fid ps asg bo s.m.n) (tmpsOf x.mask x.n s)))) = .ok out m ∧
      ((∃ d st q f1 p1 a1 b1 d1 e1,out = .ret d∧m.t.get (Nat.succ s.m.n) = some (.oth (.oth (.loop st q f1 p1 a1 b1 d1) e1))∧st ≠ .busy∧jumpOf e = some q ∧
        s' = ⟨[],s.p,⟨m.t.put (Nat.succ s.m.n) (.oth (.oth (.loop .exhausted q f1 p1 a1 b1 d1) e1)),m.n⟩,.col s.m.n :: s.dd⟩) ∨
      (∃ d,out = .pan d∧e = .panic d∧s' = ⟨[],s.p,m,.col s.m.n :: s.dd⟩)):=by
  unfold xrange at h
  split at h
  · rename_i f caps
    refine ⟨f,caps,rfl,?_⟩
    rw [bx_if] at h
    split at h <;> try cases h
    rename_i hr
    refine ⟨by simpa using hr,?_⟩
    split at h
    · rename_i d m hk
      refine ⟨_,m,hk,.inl ?_⟩
      split at h <;> try cases h
      rename_i st q f1 p1 a1 b1 d1 e1 ho
      have hne : ∀ {r : RR}, (match st with | .busy => RR.no "rangeFunc" | _ => r) = .ok e s' → st ≠ .busy ∧ r = .ok e s' := by
        intro r h
        cases st <;> first | exact ⟨by simp,h⟩ | cases h
      obtain ⟨hb,h⟩:=hne h
      split at h <;> cases h
      · exact ⟨d,st,none,f1,p1,a1,b1,d1,e1,rfl,ho,hb,rfl,rfl⟩
      · exact ⟨d,st,some .ret,f1,p1,a1,b1,d1,e1,rfl,ho,hb,rfl,rfl⟩
      · rename_i i; exact ⟨d,st,some (.exit i),f1,p1,a1,b1,d1,e1,rfl,ho,hb,rfl,rfl⟩
    · rename_i d m hk
      cases h
      exact ⟨_,m,hk,.inr ⟨d,rfl,rfl,rfl⟩⟩
    · cases h
  · cases h
theorem rangeOk:RangeOk P L T:=by
  intro run hrun hcall x g ps asg bo s s' e h hm
  obtain ⟨f,caps,hg,hrnd,out,m2,hk,hend⟩:=xrange_ok (f:=0) (caps:=[]) h
  rw [cev_eq,evl_envOf] at hg
  -- the two blocks
  have hp1:=MmOf.push hm (x:=.oth (.oth .defd [])) trivial
  have hp2:=hp1.push (x:=.oth (.oth (.loop .ready none x.fid ps.toList asg bo s.m.n) (tmpsOf x.mask x.n s))) trivial
  have hn:s.m.n = s.m.obs.length:=MmOf.n hm
  obtain ⟨hm2,_,hok⟩:=hcall _ _ _ _ _ hk hp2.goodm
  have hok:=hok f caps rfl
  have e2:=hp2.obs
  change _ = (pushX (pushX s.m (.oth (.oth .defd []))) (.oth (.oth (.loop .ready none x.fid ps.toList asg bo s.m.n) (tmpsOf x.mask x.n s)))).obs at e2
  rw [← e2] at hok
  have hgood:Good s'.m:=by
    rcases hend with ⟨d,st,q,f1,p1,a1,b1,d1,e1,rfl,ho,hb,hj,rfl⟩ | ⟨d,rfl,rfl,rfl⟩
    · exact (hm2.put ho (x:=.oth (.oth (.loop .exhausted q f1 p1 a1 b1 d1) e1)) trivial).goodm
    · exact hm2
  refine ⟨hgood,fun C hC a w hr=>?_⟩
  have hrd:C.rd = none:=hC.rd hrnd
  have hfe:C.fe = Fence.wide:=by
    show { Fence.wide with round:=C.rd } = Fence.wide
    rw [hrd]; rfl
  have hCP:C.P = P:=hC.P
  rw [hCP,hfe]
  obtain ⟨F,μ,hr⟩:=hr
  have hv:=rep_ev hr g
  rw [show (s.st x.mask).env = envOf x.mask s from rfl,hg] at hv
  have hcap:∃ vs:List Value,a.eval g = .func (.func f) #[] ⟨vs⟩∧Reps w F μ s.m.obs caps vs:=by
    generalize a.eval g = v at hv
    cases hv with
    | fn hl hh=>exact ⟨_,rfl,hl,hh⟩
  obtain ⟨cvs,hge,hcr⟩:=hcap
  refine wpIn_rangeFunc fun fn _=>?_
  have hh:HR w F μ s.m.obs:=hr.hr
  obtain ⟨u1,u2,u3⟩:=hh.pushAny (.deferred (some [])) (.oth .defd []) fun hst h1 h2=>⟨fun i hi=>by simp [OT.refs] at hi,[],⟨_,_,h1,h2,fun _=>rfl⟩,rfl,fun i d v hd _=>by simp at hd⟩
  obtain ⟨w1,hw1⟩:∃ w1,w1 = w.alloc (.deferred (some [])):=⟨_,rfl⟩
  obtain ⟨μ1,hμ1⟩:∃ μ1,μ1 = grow μ s.m.obs.length w.heap.size:=⟨_,rfl⟩
  rw [← hw1,← hμ1] at u1 u2 u3
  have hs1:w1.heap.size = w.heap.size+1:=by rw [hw1]; simp
  have hd1:μ1 s.m.n = some w.heap.size:=by rw [hμ1,hn]; simp [grow]
  obtain ⟨v1,v2,v3⟩:=u1.pushAny (.loop { state:=.ready,pending:=none,fn,tmps:=a.tmps,params:=ps,assign:=asg,body:=bo,defers:=w.heap.size }) (.oth (.loop .ready none x.fid ps.toList asg bo s.m.n) (tmpsOf x.mask x.n s)) fun hst h1 h2=>by
    refine ⟨fun i hi=>?_,a.tmps.toList,⟨_,w.heap.size,fn,h1,?_,h2⟩,?_,fun i d v hd hv=>?_⟩
    · simp only [OT.refs,List.mem_singleton] at hi
      subst hi
      refine ⟨.defd,[],?_⟩
      rw [push_get,if_neg (by simp; omega),push_get,if_pos hn]
    · have:grow μ1 (s.m.obs ++ [Ob.oth .defd []]).length w1.heap.size s.m.n = μ1 s.m.n:=by
        simp only [grow]
        rw [if_neg (by simp; omega)]
      rw [this]; exact hd1
    · rw [(tmpsOf_ok x.mask s x.n).1]
      have:=hr.size
      rw [show (C.at s.dd).n = C.n from rfl,hC.n] at this
      simpa using this.symm
    · have hi:i < x.n:=by
        have:=(List.getElem?_eq_some_iff.1 hd).1
        rwa [(tmpsOf_ok x.mask s x.n).1] at this
      rw [(tmpsOf_ok x.mask s x.n).2 i hi] at hd
      cases hd
      have h0:=((hr.env i).step u2).step hst
      rw [show (s.st x.mask).env = envOf x.mask s from rfl,lk_envOf] at h0
      have:a.tmps.getD i undef = v:=by
        rw [Array.getD_eq_getD_getElem?,← Array.getElem?_toList,hv]
        rfl
      rw [this] at h0
      exact h0
  obtain ⟨w2,hw2⟩:∃ w2,w2 = w1.alloc (.loop { state:=.ready,pending:=none,fn,tmps:=a.tmps,params:=ps,assign:=asg,body:=bo,defers:=w.heap.size }):=⟨_,rfl⟩
  obtain ⟨μ2,hμ2⟩:∃ μ2,μ2 = grow μ1 (s.m.obs ++ [Ob.oth .defd []]).length w1.heap.size:=⟨_,rfl⟩
  rw [← hw2,← hμ2] at v1 v2 v3
  have hl2:μ2 (Nat.succ s.m.n) = some (w.heap.size+1):=by rw [hμ2]; simp [grow,hn,hs1]
  have hd2:μ2 s.m.n = some w.heap.size:=by
    rw [hμ2]
    simp only [grow]
    rw [if_neg (by simp; omega)]; exact hd1
  have hob2:((s.m.obs ++ [Ob.oth .defd []]) ++ [Ob.oth (.loop .ready none x.fid ps.toList asg bo s.m.n) (tmpsOf x.mask x.n s)])[Nat.succ s.m.n]? = some (Ob.oth (.loop .ready none x.fid ps.toList asg bo s.m.n) (tmpsOf x.mask x.n s)):=by
    rw [push_get,if_pos (by simp; omega)]
  have hobd:((s.m.obs ++ [Ob.oth .defd []]) ++ [Ob.oth (.loop .ready none x.fid ps.toList asg bo s.m.n) (tmpsOf x.mask x.n s)])[s.m.n]? = some (Ob.oth .defd []):=by
    rw [push_get,if_neg (by simp; omega),push_get,if_pos hn]
  refine ⟨w.heap.size+1,[{ target:=.collected w.heap.size,args:=#[] }],w2,{ target:=.fn (.func f) ⟨cvs⟩,args:=#[.func (.yield (w.heap.size+1)) #[] #[]] },w2,f,#[.func (.yield (w.heap.size+1)) #[] #[]] ++ ⟨cvs⟩,w2,?_,?_,fun _ _=>trivial,?_,fun e=>(by cases e),?_⟩
  · rw [hw2,hw1]; exact run_enterLoop_outer _ _ _ _ _
  · simp only [resolve,hge]
    simp [go_sem]
  · simp only [invoke]
    exact hok.enters _ _
  · refine (callsIn_wide (n:=0)).2 ?_
    have hargs:Reps w2 F μ2 ((s.m.obs ++ [Ob.oth .defd []]) ++ [Ob.oth (.loop .ready none x.fid ps.toList asg bo s.m.n) (tmpsOf x.mask x.n s)]) ([.yld (Nat.succ s.m.n)] ++ caps) ([.func (.yield (w.heap.size+1)) #[] #[]] ++ cvs):=by
      refine Reps.append ⟨rfl,fun i d v hd hv=>?_⟩ ((hcr.step u2).step v2)
      rcases i with _ | i <;> simp at hd hv
      subst hd; subst hv
      exact .yld hl2 ⟨_,_,hob2,rfl⟩
    have hc:=hok.calls w2 F μ2 _ v1 hargs
    rw [show (#[.func (.yield (w.heap.size+1)) #[] #[]] ++ ⟨cvs⟩:Array Value) = ⟨[.func (.yield (w.heap.size+1)) #[] #[]] ++ cvs⟩ by apply Array.ext'; simp]
    refine hc.mono fun ee w3 he=>?_
    obtain ⟨F3,μ3,v,haf,hout⟩:=he
    have hl3:μ3 (Nat.succ s.m.n) = some (w.heap.size+1):=(haf.step.othsame _ _ _ hob2).trans hl2
    have hrel3:Rel0 (C.at (.col s.m.n :: s.dd)) F3 μ3 ⟨envOf x.mask s,m2.obs⟩ { a with defers:=[{ target:=.collected w.heap.size,args:=#[] }] ++ a.defers } w3:=by
      have st3:=(u2.trans v2).trans haf.step
      refine ⟨haf.hr,fun t=>(hr.env t).step st3,hr.step.trans st3,hr.fr.trans ((u3.trans v3).trans haf.fr),fun c b hb=>(haf.col c b hb).elim (hr.col c b) (fun q=>.inr (Nat.le_trans (hr.fr.trans (u3.trans v3)).size q)),hr.size,?_⟩
      refine ⟨_,a.defers,rfl,?_,DefRep.step st3 hr.defers⟩
      obtain ⟨o',ho',t',ds',rfl,hk'⟩:=haf.step.ext _ _ hobd
      obtain rfl:=OT.kind_defd hk'
      exact ⟨w.heap.size,ds',(haf.step.othsame _ _ _ hobd).trans hd2,ho',rfl⟩
    have hwk:∀ {ob:List Ob} {m:Mm} {dd:List DD},ob = m.obs→Weak ⟨envOf x.mask s,ob⟩ ((⟨[],s.p,m,dd⟩:FE).st x.mask):=by
      intro ob m dd hob
      refine ⟨hob.symm,fun t=>?_⟩
      show lk (envOf x.mask ⟨[],s.p,m,dd⟩) t = .undef∨lk (envOf x.mask ⟨[],s.p,m,dd⟩) t = lk (envOf x.mask s) t
      rw [lk_envOf,lk_envOf]
      unfold rd
      rw [bx_if,bx_if]
      split
      · exact .inr rfl
      · exact .inl rfl
    rcases hend with ⟨d,st,q,f1,p1,a1,b1,d1,e1,rfl,ho,hb,hj,rfl⟩ | ⟨d,rfl,rfl,rfl⟩
    · obtain ⟨rfl,hrep⟩:=hout
      have hput:=hm2.put ho (x:=.oth (.oth (.loop .exhausted q f1 p1 a1 b1 d1) e1)) trivial
      obtain ⟨r1,dd1,fn1,vs1,n1,n2,n3,n4⟩:=loop_at haf.hr (MmOf.oth hm2 ho)
      rw [hl3] at n1
      obtain rfl:=Option.some.inj n1
      obtain ⟨t1,t2,t3⟩:=loop_turn (fn:=fn1) (st':=.exhausted) (q':=q) haf.hr (MmOf.oth hm2 ho) hl3 n2 n4
      have hobs:=hput.obs
      dsimp only [FO.ob] at hobs
      rw [hobs] at t1 t2
      have hrel4:Rel (C.at (.col s.m.n :: s.dd)) ((⟨[],s.p,⟨m2.t.put (Nat.succ s.m.n) (.oth (.oth (.loop .exhausted q f1 p1 a1 b1 d1) e1)),m2.n⟩,.col s.m.n :: s.dd⟩:FE).st x.mask) { a with defers:=[{ target:=.collected w.heap.size,args:=#[] }] ++ a.defers } _ :=
        Rel.weak (st:=⟨envOf x.mask s,_⟩) ⟨F3,μ3,t1,fun t=>(hrel3.env t).step t2,hrel3.step.trans t2,hrel3.fr.trans t3,hrel3.col,hrel3.size,DefRep.step t2 hrel3.defers⟩ (hwk rfl)
      refine ⟨q,_,run_endLoop n3 hb,?_⟩
      cases e with
      | normal=>cases hj; exact ⟨rfl,hrel4⟩
      | ret=>cases hj; exact wpIn_ret ⟨rfl,hrel4⟩
      | exit i=>cases hj; exact wpIn_exit ⟨rfl,hrel4⟩
      | panic d=>cases hj
    · obtain ⟨rfl,hrep⟩:=hout
      exact ⟨d,v,F3,μ3,rfl,rfl,hrel3.weak (hwk rfl),hrep⟩
end
end Go.VL
end
section
namespace Go.VL
open Go
theorem lk_outs {f:Nat→Bool} (env:List (Nat × DV)) (t:Nat):lk (env.filter fun p=>f p.1) t = if f t = true then lk env t else .undef:=by
  by_cases h:f t = true
  · rw [if_pos h]; exact lk_filter (f:=f) h env
  · rw [if_neg h]
    refine lk_none ?_
    rintro ⟨d,hd⟩
    have:=(List.mem_filter.1 hd).2
    exact h this
section
variable (C:Ctx) (L:Lay) (ops:Array Oper) (φ:List (List Ob)) (a:Nat) (I:List DI) (K:XE→St→Prop) (env0:List (Nat × DV))
def isPan2 (E:Nat→List (Nat × DV)) (k:Nat):Prop :=
  k ≠ a∧∃ o d,ops[k]? = some o∧gd ops (rst (E k) (I.getD k .none).rd) o = some true∧(I.getD k .none).eff = true ∧
    OpDo C.P o ⟨rst (E k) (I.getD k .none).rd,φ.getD (nEff I (fun _=>true) k) []⟩ (.pan d) (φ.getD (nEff I (fun _=>true) k+1) [])∧K (.panic d) ⟨outs (ops.toList.map (·.dst)) env0,φ.getD (nEff I (fun _=>true) k+1) []⟩
def isAl (ds:Nat→DV) (k:Nat):Prop :=
  k = a∧∃ o t ti,ops[k]? = some o∧o.guard = none∧o.op = .alloc t∧L t = some ti∧ti.zero.cells.length = ti.k∧(I.getD k .none).eff = true ∧
    φ.getD (nEff I (fun _=>true) k+1) [] = φ.getD (nEff I (fun _=>true) k) [] ++ [.arr t ti.k [ti.zero]]∧ds k = .ptr (φ.getD (nEff I (fun _=>true) k) []).length 1 0 0
def isRet2 (E:Nat→List (Nat × DV)) (ds:Nat→DV) (k:Nat):Prop :=
  k ≠ a∧∃ o,ops[k]? = some o ∧
    ((gd ops (rst (E k) (I.getD k .none).rd) o = some false∧ds k = .skip∧((I.getD k .none).eff = true→φ.getD (nEff I (fun _=>true) k+1) [] = φ.getD (nEff I (fun _=>true) k) [])) ∨
    (gd ops (rst (E k) (I.getD k .none).rd) o = some true∧(I.getD k .none).eff = true∧OpDo C.P o ⟨rst (E k) (I.getD k .none).rd,φ.getD (nEff I (fun _=>true) k) []⟩ (.ret (ds k)) (φ.getD (nEff I (fun _=>true) k+1) [])) ∨
    (gd ops (rst (E k) (I.getD k .none).rd) o = some true∧(I.getD k .none).eff = false∧∀ q ∈ (I.getD k .none).ph,OpDo C.P o ⟨rst (E k) (I.getD k .none).rd,φ.getD q []⟩ (.ret (ds k)) (φ.getD q [])))
def dop2 (D:DI) (i p:Nat) (o:Oper) (env:List (Nat × DV)) (last:Bool) (next:DV→Prop):Prop :=
  if i = a then ∃ t ti,o.guard = none∧o.op = .alloc t∧L t = some ti∧ti.zero.cells.length = ti.k∧D.eff = true∧φ.getD (p+1) [] = φ.getD p [] ++ [.arr t ti.k [ti.zero]]∧next (.ptr (φ.getD p []).length 1 0 0)
  else match gd ops (rst env D.rd) o with
  | some false=>(D.eff = true→φ.getD (p+1) [] = φ.getD p [])∧next .skip
  | some true =>
    if D.eff = true then ∃ out,OpDo C.P o ⟨rst env D.rd,φ.getD p []⟩ out (φ.getD (p+1) [])∧match out with
      | .ret d=>next d
      | .pan d=>last = true∧K (.panic d) ⟨outs (ops.toList.map (·.dst)) env0,φ.getD (p+1) []⟩
    else ∃ d,(∀ q ∈ D.ph,OpDo C.P o ⟨rst env D.rd,φ.getD q []⟩ (.ret d) (φ.getD q []))∧next d
  | none=>False
def dwalk2:List DI→Nat→Nat→List Oper→List (Nat × DV)→Prop
  | _,_,p,[],env=>K .normal ⟨env,φ.getD p []⟩
  | [],_,_,_ :: _,_=>False
  | D :: I,i,p,o :: rest,env=>dop2 C L ops φ a K env0 D i p o env rest.isEmpty fun d=>dwalk2 I (i+1) (if D.eff then p+1 else p) rest (upo env o.dst d)
end
theorem dwalk2_out {C:Ctx} {L:Lay} {ops:Array Oper} {φ:List (List Ob)} {a:Nat} {I:List DI} {K:XE→St→Prop} {env0:List (Nat × DV)}:∀ (l:List Oper) (i:Nat) (env:List (Nat × DV)) (I':List DI) (p:Nat),
    i≤ops.size→ops.toList.drop i = l→I.drop i = I'→p = nEff I (fun _=>true) i→dwalk2 C L ops φ a K env0 I' i p l env →
    ∃ (E:Nat→List (Nat × DV)) (ds:Nat→DV),E i = env∧(∀ k,i≤k→k < ops.size→E (k+1) = upo (E k) (dstAt ops k) (ds k)∧(isAl L ops φ a I ds k∨isRet2 C ops φ a I E ds k∨isPan2 C ops φ a I K env0 E k)) ∧
      (K .normal ⟨E ops.size,φ.getD (nEff I (fun _=>true) ops.size) []⟩∨∃ k,i≤k∧k < ops.size∧isPan2 C ops φ a I K env0 E k):=by
  intro l
  induction l with
  | nil =>
    intro i env I' p hi hl _ hp h
    have:ops.size≤i:=by
      have:=congrArg List.length hl
      simp at this
      omega
    obtain rfl:i = ops.size:=by omega
    refine ⟨fun _=>env,fun _=>.undef,rfl,fun k a b=>by omega,.inl ?_⟩
    have:dwalk2 C L ops φ a K env0 I' ops.size p [] env = K .normal ⟨env,φ.getD p []⟩:=by cases I' <;> rfl
    rw [this,hp] at h
    exact h
  | cons o rest ih =>
    intro i env I' p hi hl hI hp h
    cases hI':I' with
    | nil=>rw [hI'] at h; exact h.elim
    | cons D J =>
      rw [hI'] at h hI
      have hlt:i < ops.size:=by
        have:=congrArg List.length hl
        simp at this
        omega
      have ho:ops[i]? = some o:=by
        have:=congrArg List.head? hl
        rw [List.head?_drop] at this
        simpa using this
      have hr:ops.toList.drop (i+1) = rest:=by
        have:=congrArg List.tail hl
        rwa [List.tail_drop] at this
      have hD:I.getD i .none = D:=by
        have:=congrArg List.head? hI
        rw [List.head?_drop] at this
        simp only [List.head?_cons] at this
        rw [List.getD_eq_getElem?_getD,this]
        rfl
      have hJ:I.drop (i+1) = J:=by
        have:=congrArg List.tail hI
        rwa [List.tail_drop] at this
      have hda:dstAt ops i = o.dst:=by simp [dstAt,ho]
      simp only [dwalk2,dop2] at h
      have go:∀ d,dwalk2 C L ops φ a K env0 J (i+1) (if D.eff = true then p+1 else p) rest (upo env o.dst d)→(∀ (E:Nat→List (Nat × DV)) (ds:Nat→DV),E i = env→ds i = d→isAl L ops φ a I ds i∨isRet2 C ops φ a I E ds i) →
          ∃ (E:Nat→List (Nat × DV)) (ds:Nat→DV),E i = env∧(∀ k,i≤k→k < ops.size→E (k+1) = upo (E k) (dstAt ops k) (ds k)∧(isAl L ops φ a I ds k∨isRet2 C ops φ a I E ds k∨isPan2 C ops φ a I K env0 E k)) ∧
            (K .normal ⟨E ops.size,φ.getD (nEff I (fun _=>true) ops.size) []⟩∨∃ k,i≤k∧k < ops.size∧isPan2 C ops φ a I K env0 E k):=by
        intro d hw hret
        obtain ⟨E,ds,h0,h1,h2⟩:=ih (i+1) _ J _ (by omega) hr hJ (by
          simp only [nEff,hD,Bool.and_true,← hp]
          split <;> rfl) hw
        have e1:∀ k,i < k→(fun k=>if k = i then env else E k) k = E k:=fun k hk=>if_neg (by omega)
        have e2:∀ k,i < k→(fun k=>if k = i then d else ds k) k = ds k:=fun k hk=>if_neg (by omega)
        have pan:∀ k,i < k→isPan2 C ops φ a I K env0 E k→isPan2 C ops φ a I K env0 (fun k=>if k = i then env else E k) k:=by
          intro k hk hp
          unfold isPan2
          rw [e1 k hk]
          exact hp
        refine ⟨fun k=>if k = i then env else E k,fun k=>if k = i then d else ds k,if_pos rfl,fun k hk hk'=>?_,?_⟩
        · rcases Nat.eq_or_lt_of_le hk with rfl | hlt'
          · refine ⟨?_,(hret (fun k=>if k = i then env else E k) (fun k=>if k = i then d else ds k) (if_pos rfl) (if_pos rfl)).imp (fun q=>q) (fun q=>.inl q)⟩
            rw [e1 _ (by omega),h0]
            simp [hda]
          · obtain ⟨a,b⟩:=h1 k hlt' hk'
            refine ⟨?_,b.imp (fun q=>?_) (fun b=>b.imp (fun q=>?_) (pan k hlt'))⟩
            · rw [e1 _ (by omega),e1 _ hlt',e2 _ hlt',a]
            · unfold isAl
              rw [e2 k hlt']
              exact q
            · unfold isRet2
              rw [e1 k hlt',e2 k hlt']
              exact q
        · refine h2.imp (fun q=>?_) (fun ⟨k,a,b,c⟩=>⟨k,by omega,b,pan k a c⟩)
          rw [e1 _ hlt]
          exact q
      split at h
      · rename_i hia
        obtain ⟨t,ti,q1,q2,q3,q4,q5,q6,q7⟩:=h
        refine go _ q7 fun E ds he hd=>.inl ⟨hia,o,t,ti,ho,q1,q2,q3,q4,by rw [hD]; exact q5,?_,?_⟩
        · rw [← hp]; exact q6
        · rw [hd,← hp]
      · rename_i hia
        split at h
        · rename_i hg
          refine go _ h.2 fun E ds he hd=>.inr ⟨hia,o,ho,.inl ?_⟩
          rw [he,hd,hD,← hp]
          exact ⟨hg,rfl,h.1⟩
        · rename_i hg
          split at h
          · rename_i hE
            obtain ⟨out,hdo,hm⟩:=h
            cases out with
            | ret d =>
              refine go d (by rw [if_pos hE]; exact hm) fun E ds he hd=>.inr ⟨hia,o,ho,.inr (.inl ?_)⟩
              rw [he,hd,hD,← hp]
              exact ⟨hg,hE,hdo⟩
            | pan d =>
              replace hm:rest.isEmpty = true∧K (.panic d) ⟨outs (ops.toList.map (·.dst)) env0,φ.getD (p+1) []⟩:=hm
              have hrest:rest = []:=by simpa using hm.1
              rw [hrest] at hr
              have hsz:ops.size≤i+1:=by
                have:=congrArg List.length hr
                simp at this
                omega
              have hpan:isPan2 C ops φ a I K env0 (fun k=>if k≤i then env else upo env o.dst .undef) i:=by
                refine ⟨hia,o,d,ho,?_⟩
                simp only [Nat.le_refl,if_true,hD,← hp]
                exact ⟨hg,hE,hdo,hm.2⟩
              refine ⟨fun k=>if k≤i then env else upo env o.dst .undef,fun _=>.undef,if_pos (Nat.le_refl _),fun k a b=>?_,.inr ⟨i,Nat.le_refl _,hlt,hpan⟩⟩
              obtain rfl:k = i:=by omega
              refine ⟨?_,.inr (.inr hpan)⟩
              dsimp only
              rw [if_neg (by omega),if_pos (Nat.le_refl _),hda]
          · rename_i hE
            obtain ⟨d,hdo,hm⟩:=h
            refine go d (by rw [if_neg hE]; exact hm) fun E ds he hd=>.inr ⟨hia,o,ho,.inr (.inr ?_)⟩
            rw [he,hd,hD]
            exact ⟨hg,by simpa using hE,hdo⟩
        · exact h.elim
end Go.VL
end
section
namespace Go.VL
open Go
def below (I:List DI) (f:Nat→Bool) (a:Nat):Bool:=(List.range a).all fun k=>!((I.getD k .none).eff) || f k
theorem below_iff {I:List DI} {f:Nat→Bool} {a:Nat}:below I f a = true ↔ ∀ k,k < a→(I.getD k .none).eff = true→f k = true:=by
  simp only [below,List.all_eq_true,List.mem_range,Bool.or_eq_true,Bool.not_eq_true']
  refine forall_congr' fun k=>forall_congr' fun _=>?_
  cases (I.getD k .none).eff <;> simp
def vis (I:List DI) (f:Nat→Bool) (a:Nat):Nat→Bool:=fun j=>f j && (!(decide (j = a)) || below I f a)
def pend (I:List DI) (f:Nat→Bool) (a:Nat):Prop:=f a = true∧below I f a = false
section
variable {I:List DI}
theorem vis_ne {f:Nat→Bool} {a j:Nat} (h:j ≠ a):vis I f a j = f j:=by simp [vis,h]
theorem vis_at {f:Nat→Bool} {a:Nat}:vis I f a a = (f a && below I f a):=by simp [vis]
theorem vis_not {f:Nat→Bool} {a j:Nat} (h:f j = false):vis I f a j = false:=by simp [vis,h]
end
section
variable {w:World} {F:Nat→Nat→Prop} {μ:Nat→Option Nat} {σ:List Ob}
theorem HR.adopt (hr:HR w F μ σ) {b t k:Nat} {cur:Array Value} {fr:Nat × Nat} {xs:List DV} (hb:w.heap[b]? = some (.cells cur t fr)) (hfo:FrOk fr cur.size k) (hn:∀ id,μ id ≠ some b) (hF:∀ c,¬ F c b) (hk:∀ y ∈ xs,y.cells.length = k)
    (hc:∀ (j i:Nat) (y d:DV),xs[j]? = some y→y.cells[i]? = some d→∃ v,cur[j * k+i]? = some v∧Rep w F μ σ d v) :
    HR w F (grow μ σ.length b) (σ ++ [.arr t k xs])∧Step w F μ σ w F (grow μ σ.length b) (σ ++ [.arr t k xs]):=by
  have hst:Step w F μ σ w F (grow μ σ.length b) (σ ++ [.arr t k xs]):=by
    refine ⟨fun _ _ _=>rfl,fun _ _ h=>h,fun i o h=>⟨o,?_,Ob.ext_refl o⟩,fun i t' k' zs us h h' he=>?_,fun i tt es h=>?_⟩
    · have:=(List.getElem?_eq_some_iff.1 h).1
      rw [push_get,if_neg (by omega)]; exact h
    · have hi:=(List.getElem?_eq_some_iff.1 h).1
      exact ⟨by simp only [grow]; rw [if_neg (by omega)],fun q cu fr _ hq=>⟨cu,fr,hq,rfl⟩⟩
    · have hi:=(List.getElem?_eq_some_iff.1 h).1
      simp only [grow]; rw [if_neg (by omega)]
  have hbl:=(Array.getElem?_eq_some_iff.1 hb).1
  refine ⟨⟨fun i o h=>?_,fun i hi=>?_,fun i j q h h'=>?_,fun i q h=>?_,fun c q h=>⟨(hr.col c q h).1,fun id e=>?_⟩⟩,hst⟩
  · rw [push_get] at h
    by_cases hi:i = σ.length
    · rw [if_pos hi] at h
      cases h
      subst hi
      refine ⟨hk,.inr ⟨b,cur,fr,by simp [grow],hb,hfo,fun j i y d hy hd=>?_⟩⟩
      obtain ⟨v,h1,h2⟩:=hc j i y d hy hd
      exact ⟨v,h1,h2.step hst⟩
    · rw [if_neg hi] at h
      have:=hr.obj i o h
      have hil:=(List.getElem?_eq_some_iff.1 h).1
      have hg:grow μ σ.length b i = μ i:=by simp only [grow]; rw [if_neg (by omega)]
      cases o with
      | arr t' k' zs =>
        refine ⟨this.1,?_⟩
        rcases this.2 with ⟨e1,e2⟩ | ⟨b',cu,fr',hb',hh',hfr',hcc⟩
        · exact .inl ⟨e1,by rw [hg]; exact e2⟩
        · refine .inr ⟨b',cu,fr',by rw [hg]; exact hb',hh',hfr',fun j q x d hx hd=>?_⟩
          obtain ⟨v,h1,h2⟩:=hcc j q x d hx hd
          exact ⟨v,h1,h2.step hst⟩
      | oth t' ds=>exact ObjRep.keep this hst h fun q hq=>rfl
      | dead=>show grow μ σ.length b i = none; rw [hg]; exact this
  · simp only [grow]
    rw [if_neg (by simp at hi; omega)]
    exact hr.out i (by simp at hi; omega)
  · simp only [grow] at h h'
    split at h <;> split at h'
    · omega
    · cases h; exact absurd h' (hn j)
    · cases h'; exact absurd h (hn i)
    · exact hr.inj i j q h h'
  · simp only [grow] at h
    split at h
    · cases h; exact hbl
    · exact hr.lt i q h
  · simp only [grow] at e
    split at e
    · cases e; exact hF c h
    · exact (hr.col c q h).2 id e
theorem Fr.adopt {w0:World} {μ0:Nat→Option Nat} (h:Fr w0 μ0 w μ) {n b:Nat} (hb:w0.heap.size≤b):Fr w0 μ0 w (grow μ n b) :=
  ⟨h.os,h.tape,h.output,h.size,h.keep,fun id q e=>by
    simp only [grow] at e
    split at e
    · cases e; exact .inr hb
    · exact h.new id q e,h.drawn⟩
end
def PendOk (C:Ctx) (dst:Option Nat) (t:Nat) (ti:TI) (F:Nat→Nat→Prop) (μ:Nat→Option Nat) (act:Act) (w:World):Prop :=
  ∃ b z,ofVal z = ti.zero∧z.cells.size = ti.k∧(∀ s,dst = some s→act.tmps.getD s undef = .pointer (some ⟨b,0,none⟩))∧w.heap[b]? = some (.cells z.cells t (0,0))∧C.w0.heap.size≤b∧(∀ id,μ id ≠ some b)∧∀ c,¬ F c b
theorem PendOk.after {C:Ctx} {dst:Option Nat} {t:Nat} {ti:TI} {F F':Nat→Nat→Prop} {μ μ':Nat→Option Nat} {act:Act} {w w':World} {σ σ':List Ob} (h:PendOk C dst t ti F μ act w) (haf:After w F μ σ w' F' μ' σ') {d:Option Nat} {v:Value} (hd:∀ s,dst = some s→d ≠ some s) :
    PendOk C dst t ti F' μ' (act.put d v) w':=by
  obtain ⟨b,z,h1,h2,h3,h4,h5,h6,h7⟩:=h
  have hbl:=(Array.getElem?_eq_some_iff.1 h4).1
  refine ⟨b,z,h1,h2,fun s hs=>?_,?_,h5,fun id e=>?_,fun c e=>?_⟩
  · rw [put_getD]
    have:=hd s hs
    cases d with
    | none=>exact h3 s hs
    | some q =>
      dsimp only
      rw [if_neg (fun e=>this (by rw [e.1]))]
      exact h3 s hs
  · rw [haf.fr.keep b hbl h6]; exact h4
  · rcases haf.fr.new id b e with e | e
    · exact h6 id e
    · omega
  · rcases haf.col c b e with e | e
    · exact h7 c e
    · omega
theorem lk_upo_ne {e:List (Nat × DV)} {o:Option Nat} {d:DV} {t:Nat} (h:o ≠ some t):lk (upo e o d) t = lk e t:=by rw [lk_upo,if_neg h]
end Go.VL
end
section
namespace Go.VL
open Go
theorem draw_any2 {C:Ctx} {L:Lay} (hL:LayOk C.P L) {ops:Array Oper} {φ:List (List Ob)} {a:Nat} {I:List DI} {K:XE→St→Prop} {E:Nat→List (Nat × DV)} {ds:Nat→DV}
    (hsz:ops.size = I.length) (hdst0:∀ i,dstAt ops i = (I.getD i .none).dst) (hdir0:∀ i,dirs ops i = (I.getD i .none).dir) (hB:drawA I C.n a = true)
    (hE:∀ k,k < ops.size→E (k+1) = upo (E k) (dstAt ops k) (ds k)∧(isAl L ops φ a I ds k∨isRet2 C ops φ a I E ds k∨isPan2 C ops φ a I K (E 0) E k))
    (hK:K .normal ⟨E ops.size,φ.getD (nEff I (fun _=>true) ops.size) []⟩∨∃ k,k < ops.size∧isPan2 C ops φ a I K (E 0) E k) :
    ∀ (fuel:Nat) (listed:Array Bool) (act:Act) (w:World),listed.size = ops.size →
      (∀ i,i < ops.size→listed.getD i false = true→(∀ j ∈ (I.getD i .none).pre,listed.getD j false = true)∧¬ isPan2 C ops φ a I K (E 0) E i) →
      cnt (fun i=>listed.getD i false) ops.size≤fuel →
      (∃ env F μ,Rel0 C F μ ⟨env,φ.getD (nEff I (vis I (fun i=>listed.getD i false) a) ops.size) []⟩ act w ∧
        (∀ t,(pend I (fun i=>listed.getD i false) a→dstAt ops a ≠ some t)→lk env t = vAt ops (E 0) ds (vis I (fun i=>listed.getD i false) a) ops.size t) ∧
        (pend I (fun i=>listed.getD i false) a→∃ t ti,(∃ o,ops[a]? = some o∧o.op = .alloc t)∧L t = some ti∧PendOk C (dstAt ops a) t ti F μ act w)) →
      wpAnyIn C.fe 0 C.P .any ops (Post C K) fuel listed act w:=by
  simp only [drawA,List.all_eq_true,List.mem_range,Bool.and_eq_true] at hB
  rw [← hsz] at hB
  have hdstf:(fun i=>(I.getD i .none).dst) = dstAt ops:=by funext i; exact (hdst0 i).symm
  have hdirf:(fun i=>(I.getD i .none).dir) = dirs ops:=by funext i; exact (hdir0 i).symm
  rw [hdstf,hdirf] at hB
  have hdirs:∀ i,i < ops.size→∀ j ∈ dirs ops i,j < i:=fun i hi j hj=>by
    have:=(hB i hi).1.1.1.1
    simp only [preB,Bool.and_eq_true,List.all_eq_true,decide_eq_true_eq] at this
    exact this.1 j hj
  have hprelt:∀ i,i < ops.size→∀ j ∈ (I.getD i .none).pre,j < i:=fun i hi j hj=>by
    have:=(hB i hi).1.1.1.1
    simp only [preB,Bool.and_eq_true,List.all_eq_true,decide_eq_true_eq] at this
    exact (this.2 j hj).1
  have hpre:∀ i,i < ops.size→∀ j ∈ (I.getD i .none).pre,j ∈ dirs ops i∨∃ k ∈ dirs ops i,j ∈ (I.getD k .none).pre:=fun i hi j hj=>by
    have:=(hB i hi).1.1.1.1
    simp only [preB,Bool.and_eq_true,List.all_eq_true,decide_eq_true_eq,Bool.or_eq_true,List.any_eq_true,List.contains_iff_mem] at this
    exact (this.2 j hj).2
  have hlon:∀ i,i < ops.size→a ∈ (I.getD i .none).pre→∀ j,j < a→(I.getD j .none).eff = true→j ∈ (I.getD i .none).pre:=fun i hi hia j hj he=>by
    have hlt:=hprelt i hi a hia
    have:=(hB i hi).1.2
    simp only [lonA,Bool.or_eq_true,Nat.ble_eq,List.all_eq_true,List.mem_range,List.contains_iff_mem,Bool.not_eq_true',List.contains_eq_mem,decide_eq_false_iff_not,decide_eq_true_eq] at this
    rcases this with (h | h) | h
    · omega
    · exact absurd hia h
    · rcases h j hj with h | h
      · rw [he] at h; cases h
      · exact h
  have hpair:∀ i j,j < i→i < ops.size→(rdDst (dstAt ops j) (I.getD i .none).rd = true∨rdDst (dstAt ops i) (I.getD j .none).rd = true∨sameDst (dstAt ops j) (dstAt ops i) = true∨((I.getD i .none).eff = true∧(I.getD j .none).eff = true∧i ≠ a))→j ∈ (I.getD i .none).pre:=fun i j hj hi h=>by
    have:=(hB i hi).2 j hj
    simp only [pairA,Bool.or_eq_true,Bool.not_eq_true',Bool.or_eq_false_iff,Bool.and_eq_false_iff,List.contains_iff_mem] at this
    rcases this with ⟨⟨⟨h1,h2⟩,h3⟩,h4⟩ | h
    · rcases h with h | h | h | ⟨h,h',hne⟩
      · rw [h1] at h; cases h
      · rw [h2] at h; cases h
      · rw [h3] at h; cases h
      · rcases h4 with (h4 | h4) | h4
        · rw [h4] at h; cases h
        · rw [h4] at h'; cases h'
        · simp only [Bool.not_eq_false',Nat.beq_eq_true_eq] at h4
          exact absurd (Nat.eq_of_beq_eq_true h4) hne
    · exact h
  have hdst:∀ i,i < ops.size→∀ t,dstAt ops i = some t→t < C.n:=fun i hi t ht=>by
    have:=(hB i hi).1.1.2
    simp only [dstB,ht,decide_eq_true_eq] at this
    exact this
  have post:∀ (listed:Array Bool) (act:Act) (w:World),
      (∀ i,i < ops.size→listed.getD i false = true→(∀ j ∈ (I.getD i .none).pre,listed.getD j false = true)∧¬ isPan2 C ops φ a I K (E 0) E i) →
      (∃ env F μ,Rel0 C F μ ⟨env,φ.getD (nEff I (vis I (fun i=>listed.getD i false) a) ops.size) []⟩ act w ∧
        (∀ t,(pend I (fun i=>listed.getD i false) a→dstAt ops a ≠ some t)→lk env t = vAt ops (E 0) ds (vis I (fun i=>listed.getD i false) a) ops.size t)) →
      (∀ i,i < ops.size→listed.getD i false = true)→listed.size = ops.size→Post C K .normal act w:=by
    intro listed act w hinv ⟨env,F,μ,hrel,henv⟩ hall hls
    have hal:∀ j,j < ops.size→vis I (fun i=>listed.getD i false) a j = true:=fun j hj=>by
      by_cases hja:j = a
      · subst hja
        rw [vis_at,hall j hj,Bool.true_and]
        exact below_iff.2 fun k hk _=>hall k (by omega)
      · rw [vis_ne hja]; exact hall j hj
    have hnp:¬ pend I (fun i=>listed.getD i false) a:=by
      rintro ⟨h1,h2⟩
      have ha:a < ops.size:=by
        rcases Nat.lt_or_ge a ops.size with h | h
        · exact h
        · dsimp only at h1
          rw [Array.getD_eq_getD_getElem?,Array.getElem?_eq_none (by omega)] at h1
          cases h1
      have:=hal a ha
      rw [vis_at,h2,Bool.and_false] at this
      cases this
    rcases hK with hK | ⟨k,hk,hp⟩
    · refine ⟨_,hK,Rel.weak ⟨F,μ,hrel⟩ ⟨?_,fun t=>.inr ?_⟩⟩
      · dsimp only
        rw [nEff_congr (f:=vis I (fun i=>listed.getD i false) a) (g:=fun _=>true) _ fun j hj _=>hal j hj]
      · dsimp only
        rw [henv t (fun h=>absurd h hnp),vAt_congr (g:=fun _=>true) _ fun j hj _=>hal j hj]
        exact (vAt_all rfl _ (fun k hk=>(hE k hk).1) t).symm
    · exact absurd hp (hinv k hk (hall k hk)).2
  intro fuel
  induction fuel with
  | zero =>
    intro listed act w hs hinv hc hrel
    have hall:=cnt_zero ops.size (by omega:cnt (fun i=>listed.getD i false) ops.size = 0)
    obtain ⟨env,F,μ,h1,h2,_⟩:=hrel
    refine ⟨List.eq_nil_iff_forall_not_mem.2 fun i hi=>?_,post listed act w hinv ⟨env,F,μ,h1,h2⟩ hall hs⟩
    obtain ⟨h1,h2,_⟩:=mem_ready.1 hi
    have:=hall i h1
    rw [getD_any (by omega) true false] at h2
    rw [h2] at this
    cases this
  | succ fuel ih =>
    intro listed act w hs hinv hc hrel
    obtain ⟨env,F,μ,hr,henv,hpd⟩:=hrel
    refine ⟨fun hrd=>post listed act w hinv ⟨env,F,μ,hr,henv⟩ ?_ hs,fun i hi=>?_⟩
    · intro i
      induction i using Nat.strongRecOn with
      | _ i ihi =>
        intro hlt
        cases hf:listed.getD i false with
        | true=>rfl
        | false =>
          have hmem:i ∈ Region.ready .any ops listed:=by
            refine mem_ready.2 ⟨hlt,by rw [getD_any (by omega) true false]; exact hf,ops[i],Array.getElem?_eq_getElem hlt,fun e he hb=>?_⟩
            have hd:e.on ∈ dirs ops i:=by
              simp only [dirs,dirsO,Array.getElem?_eq_getElem hlt]
              exact List.mem_map.2 ⟨e,List.mem_filter.2 ⟨he,hb⟩,rfl⟩
            exact ihi e.on (hdirs i hlt _ hd) (Nat.lt_trans (hdirs i hlt _ hd) hlt)
          rw [hrd] at hmem
          cases hmem
    · obtain ⟨hlt,hl,o,ho,haft⟩:=mem_ready.1 hi
      rw [getD_any (by omega) true false] at hl
      obtain ⟨f,hf⟩:∃ f:Nat→Bool,f = fun i=>listed.getD i false:=⟨_,rfl⟩
      have hfe:∀ k,listed.getD k false = f k:=fun k=>by rw [hf]
      rw [← hf] at hr henv hpd hc
      have hlf:f i = false:=by rw [← hfe]; exact hl
      have hinvf:∀ i,i < ops.size→f i = true→(∀ j ∈ (I.getD i .none).pre,f j = true)∧¬ isPan2 C ops φ a I K (E 0) E i:=fun i hi h=>by
        have:=hinv i hi (by rw [hfe]; exact h)
        exact ⟨fun j hj=>by rw [← hfe]; exact this.1 j hj,this.2⟩
      have hfout:∀ k,ops.size≤k→f k = false:=fun k hk=>by
        rw [← hfe,Array.getD_eq_getD_getElem?,Array.getElem?_eq_none (by omega)]; rfl
      have hdl:∀ j ∈ dirs ops i,f j = true:=by
        intro j hj
        simp only [dirs,dirsO,ho] at hj
        obtain ⟨e,he,rfl⟩:=List.mem_map.1 hj
        obtain ⟨he,hb⟩:=List.mem_filter.1 he
        rw [← hfe]
        exact haft e he hb
      have hpl:∀ j ∈ (I.getD i .none).pre,f j = true:=by
        intro j hj
        rcases hpre i hlt j hj with h | ⟨k,hk,h⟩
        · exact hdl j h
        · exact (hinvf k (Nat.lt_trans (hdirs i hlt k hk) hlt) (hdl k hk)).1 j h
      have hlate:∀ j,j < ops.size→i ∈ (I.getD j .none).pre→f j = false:=by
        intro j hj hm
        cases hf:f j with
        | false=>rfl
        | true =>
          have:=(hinvf j hj hf).1 i hm
          rw [hlf] at this
          cases this
      have hda:dstAt ops i = o.dst:=by simp [dstAt,ho]
      -- what is ahead in every order is seen
      have hplv:∀ j ∈ (I.getD i .none).pre,vis I f a j = true:=by
        intro j hj
        by_cases hja:j = a
        · subst hja
          rw [vis_at,hpl j hj,Bool.true_and]
          exact below_iff.2 fun k hk he=>hpl k (hlon i hlt hj k hk he)
        · rw [vis_ne hja]; exact hpl j hj
      have hrd:∀ t ∈ (I.getD i .none).rd,lk env t = lk (E i) t:=by
        intro t ht
        have hnp:pend I f a→dstAt ops a ≠ some t:=by
          rintro ⟨p1,p2⟩ hda
          have ha:a < ops.size:=by
            rcases Nat.lt_or_ge a ops.size with h | h
            · exact h
            · rw [hfout a h] at p1; cases p1
          rcases Nat.lt_trichotomy i a with h | h | h
          · have:=(hinvf a ha p1).1 i (hpair a i h ha (.inr (.inl (by simp only [rdDst,hda]; exact List.contains_iff_mem.2 ht))))
            rw [hlf] at this; cases this
          · subst h; rw [hlf] at p1; cases p1
          · have hap:=hpair i a h hlt (.inl (by simp only [rdDst,hda]; exact List.contains_iff_mem.2 ht))
            have:below I f a = true:=below_iff.2 fun k hk he=>hpl k (hlon i hlt hap k hk he)
            rw [p2] at this; cases this
        rw [henv t hnp,vAt_cut (i:=i) _ (by omega),vAt_congr (g:=fun _=>true),vAt_all rfl _ fun k hk=>(hE k (by omega)).1]
        · intro j hj hd
          exact hplv j (hpair i j hj hlt (.inl (by simp only [rdDst,hd]; exact List.contains_iff_mem.2 ht)))
        · intro j hj hj' hd
          rcases Nat.eq_or_lt_of_le hj with rfl | hj
          · exact vis_not hlf
          · exact vis_not (hlate j hj' (hpair j i hj hj' (.inr (.inl (by simp only [rdDst,hd]; exact List.contains_iff_mem.2 ht)))))
      have hw:Weak ⟨env,φ.getD (nEff I (vis I f a) ops.size) []⟩ ⟨rst (E i) (I.getD i .none).rd,φ.getD (nEff I (vis I f a) ops.size) []⟩ :=
        Weak.of_agree rfl (agree_of hrd)
      have hr2:=hr.weak hw
      have heff:(I.getD i .none).eff = true→(i = a→below I f a = true)→nEff I (vis I f a) ops.size = nEff I (fun _=>true) i:=by
        intro he hia
        refine nEff_at _ (by omega) (fun j hj hej=>?_) fun j hj hj' hej=>?_
        · by_cases hi:i = a
          · subst hi
            rw [vis_ne (by omega)]
            exact below_iff.1 (hia rfl) j hj hej
          · exact hplv j (hpair i j hj hlt (.inr (.inr (.inr ⟨he,hej,hi⟩))))
        · rcases Nat.eq_or_lt_of_le hj with rfl | hj
          · exact vis_not hlf
          · by_cases hja:j = a
            · subst hja
              rw [vis_at]
              have:below I f j = false:=by
                cases hb:below I f j with
                | false=>rfl
                | true=>have:=below_iff.1 hb i hj he; rw [hlf] at this; cases this
              rw [this,Bool.and_false]
            · exact vis_not (hlate j hj' (hpair j i hj hj' (.inr (.inr (.inr ⟨hej,he,hja⟩)))))
      have hd0:∀ t,o.dst = some t→t < C.n:=fun t ht=>hdst i hlt t (hda.trans ht)
      obtain ⟨f',hf'⟩:∃ f':Nat→Bool,f' = fun k=>decide (k = i) || f k:=⟨_,rfl⟩
      have hget:(fun k=>(listed.setIfInBounds i true).getD k false) = f':=by
        rw [hf']
        funext k
        simp only [Array.getD_eq_getD_getElem?,Array.getElem?_setIfInBounds]
        by_cases hk:i = k
        · subst hk
          simp [hs,hlt]
        · rw [← hfe k,Array.getD_eq_getD_getElem?]
          simp [hk,show ¬ k = i from fun e=>hk e.symm]
      have hf'i:f' i = true:=by rw [hf']; simp
      have hf'k:∀ k,k ≠ i→f' k = f k:=fun k hk=>by rw [hf']; simp [hk]
      have hbel:below I f a = true→below I f' a = true:=fun h=>below_iff.2 fun k hk he=>by
        by_cases hki:k = i
        · rw [hki]; exact hf'i
        · rw [hf'k k hki]; exact below_iff.1 h k hk he
      -- the last part of a step
      have last:∀ (act':Act) (w':World),¬ isPan2 C ops φ a I K (E 0) E i →
          (∃ env F μ,Rel0 C F μ ⟨env,φ.getD (nEff I (vis I f' a) ops.size) []⟩ act' w' ∧
            (∀ t,(pend I f' a→dstAt ops a ≠ some t)→lk env t = vAt ops (E 0) ds (vis I f' a) ops.size t) ∧
            (pend I f' a→∃ t ti,(∃ o,ops[a]? = some o∧o.op = .alloc t)∧L t = some ti∧PendOk C (dstAt ops a) t ti F μ act' w')) →
          wpAnyIn C.fe 0 C.P .any ops (Post C K) fuel (listed.setIfInBounds i true) act' w':=by
        intro act' w' hnp h
        refine ih _ _ _ (by simp [hs]) ?_ ?_ (by rw [hget]; exact h)
        · intro k hk hfk
          have e:∀ k,(listed.setIfInBounds i true).getD k false = f' k:=fun k=>congrFun hget k
          rw [e] at hfk
          by_cases hki:k = i
          · subst hki
            refine ⟨fun j hj=>?_,hnp⟩
            rw [e]
            by_cases hjk:j = k
            · rw [hjk]; exact hf'i
            · rw [hf'k j hjk]; exact hpl j hj
          · rw [hf'k k hki] at hfk
            refine ⟨fun j hj=>?_,(hinvf k hk hfk).2⟩
            rw [e]
            by_cases hji:j = i
            · rw [hji]; exact hf'i
            · rw [hf'k j hji]; exact (hinvf k hk hfk).1 j hj
        · rw [hget,hf']
          have:=cnt_set (f:=f) hlf ops.size
          rw [if_pos hlt] at this
          omega
      have hveq:(i = a→below I f a = true)→(pend I f a→below I f' a = false)→vis I f' a = fun k=>decide (k = i) || vis I f a k:=by
        intro hia hpb
        funext k
        by_cases hka:k = a
        · subst hka
          rw [vis_at,vis_at]
          by_cases hki:k = i
          · rw [hki,hf'i]
            simp only [decide_true,Bool.true_or,Bool.true_and]
            rw [← hki]
            exact hbel (hia hki.symm)
          · rw [hf'k k hki]
            simp only [hki,decide_false,Bool.false_or]
            cases hfk:f k with
            | false=>rfl
            | true =>
              simp only [Bool.true_and]
              cases hb:below I f k with
              | true=>exact hbel hb
              | false=>exact hpb ⟨hfk,hb⟩
        · rw [vis_ne hka,vis_ne hka,hf']
      have hpend:pend I f' a→(i = a→below I f a = true)→pend I f a∧below I f' a = false:=by
        rintro ⟨h1,h2⟩ hia
        have hb:below I f a = false:=by
          cases hb:below I f a with
          | false=>rfl
          | true=>rw [hbel hb] at h2; cases h2
        refine ⟨⟨?_,hb⟩,h2⟩
        by_cases hai:a = i
        · have:=hia hai.symm
          rw [hb] at this; cases this
        · rwa [hf'k a hai] at h1
      -- what follows an operation that was done
      have next:∀ (v:Value) (w':World) (d:DV) (F':Nat→Nat→Prop) (μ':Nat→Option Nat),¬ isPan2 C ops φ a I K (E 0) E i→(i = a→below I f a = true)→d = ds i →
          Rel0 C F' μ' ⟨upo env o.dst d,φ.getD (nEff I (fun k=>decide (k = i) || vis I f a k) ops.size) []⟩ (act.put o.dst v) w' →
          (pend I f a→∃ t ti,(∃ o,ops[a]? = some o∧o.op = .alloc t)∧L t = some ti∧PendOk C (dstAt ops a) t ti F' μ' (act.put o.dst v) w') →
          wpAnyIn C.fe 0 C.P .any ops (Post C K) fuel (listed.setIfInBounds i true) (act.put o.dst v) w':=by
        rintro v w' _ F' μ' hnp hia rfl hrel' hpd'
        refine last _ _ hnp ?_
        have hset:∀ t,(pend I f a→dstAt ops a ≠ some t)→lk (upo env o.dst (ds i)) t = vAt ops (E 0) ds (fun k=>decide (k = i) || vis I f a k) ops.size t:=by
          intro t ht
          rw [vAt_set _ hlt (fun j hj hj' hd hd'=>vis_not (hlate j hj' (hpair j i hj hj' (.inr (.inr (.inl (by simp only [sameDst,hd',hd]; exact beq_self_eq_true _))))))),lk_upo,hda,henv t ht]
        by_cases hpb:pend I f a∧below I f' a = true
        · -- the allocation's block becomes an object
          obtain ⟨hp,hb'⟩:=hpb
          have ha:a < ops.size:=by
            rcases Nat.lt_or_ge a ops.size with h | h
            · exact h
            · have h9:=hp.1; rw [hfout a h] at h9; cases h9
          have hia':i ≠ a:=fun e=>by rw [e] at hlf; rw [hp.1] at hlf; cases hlf
          have hila:i < a∧(I.getD i .none).eff = true:=by
            cases hb0:below I f a with
            | true=>rw [hp.2] at hb0; cases hb0
            | false =>
              refine Decidable.byContradiction fun hcon=>?_
              have:below I f a = true:=below_iff.2 fun k hk he=>by
                have:=below_iff.1 hb' k hk he
                rwa [hf'k k (fun e=>hcon ⟨by omega,by rw [← e]; exact he⟩)] at this
              rw [hb0] at this; cases this
          have hlate2:∀ j,j < ops.size→a ∈ (I.getD j .none).pre→f j = false:=fun j hj haj=>hlate j hj (hlon j hj haj i hila.1 hila.2)
          obtain ⟨_,hal⟩:=hE a ha
          have hal:isAl L ops φ a I ds a:=by
            rcases hal with h | h | h
            · exact h
            · exact absurd rfl h.1
            · exact absurd rfl h.1
          obtain ⟨_,oa,t,ti,ho',hgn,hop,ht,hk,he,hφ,hds⟩:=hal
          obtain ⟨t2,ti2,⟨o2,ho2,hop2⟩,ht2,hpk⟩:=hpd' hp
          rw [ho'] at ho2; cases ho2
          rw [hop] at hop2; cases hop2
          rw [ht] at ht2; cases ht2
          obtain ⟨b,z,z1,z2,z3,z4,z5,z6,z7⟩:=hpk
          have hvis':vis I f' a = fun k=>decide (k = a) || (decide (k = i) || vis I f a k):=by
            funext k
            by_cases hka:k = a
            · subst hka
              rw [vis_at,hb',hf'k k (fun e=>hia' e.symm),hp.1]
              simp
            · rw [vis_ne hka,vis_ne hka,hf']
              simp [hka]
          have hca:(decide (a = i) || vis I f a a) = false:=by
            rw [vis_at,hp.2]
            simp only [Bool.and_false,Bool.or_false,decide_eq_false_iff_not]
            exact fun e=>hia' e.symm
          have hph:nEff I (fun k=>decide (k = i) || vis I f a k) ops.size = nEff I (fun _=>true) a:=by
            refine nEff_at _ (by omega) (fun j hj hej=>?_) fun j hj hj' hej=>?_
            · have hjf:=below_iff.1 hb' j hj hej
              by_cases hji:j = i
              · simp [hji]
              · rw [hf'k j hji] at hjf
                rw [vis_ne (by omega),hjf]
                simp
            · rcases Nat.eq_or_lt_of_le hj with rfl | hj
              · exact hca
              · have:=hila.1
                rw [vis_ne (by omega),hlate2 j hj' (hpair j a hj hj' (.inr (.inr (.inr ⟨hej,he,by omega⟩))))]
                have:j ≠ i:=by omega
                simp [this]
          have hadd:nEff I (vis I f' a) ops.size = nEff I (fun _=>true) a+1:=by
            rw [hvis',nEff_set (f:=fun k=>decide (k = i) || vis I f a k) hca,if_pos ⟨he,ha⟩,hph]
          rw [hph] at hrel'
          obtain ⟨g1,g2⟩:=hrel'.hr.adopt (t:=t) (k:=ti.k) (xs:=[ti.zero]) z4 (.zero _) z6 z7 (by simpa using hk) (fun j i y d hy hd=>by
            cases j with
            | zero =>
              simp only [List.getElem?_cons_zero,Option.some.injEq] at hy
              subst hy
              simp only [Nat.zero_mul,Nat.zero_add]
              exact rep_cells' (by rw [← z1]; exact rep_ofVal z) (by rw [z2,hk]) i d hd
            | succ j=>simp at hy)
          dsimp only at g1 g2
          rw [← hφ] at g1 g2
          rw [hadd]
          refine ⟨upo (upo env o.dst (ds i)) (dstAt ops a) (ds a),F',grow μ' (φ.getD (nEff I (fun _=>true) a) []).length b,⟨g1,fun s=>?_,hrel'.step.trans g2,hrel'.fr.adopt z5,hrel'.col,hrel'.size,DefRep.step g2 hrel'.defers⟩,fun s _=>?_,fun hp'=>?_⟩
          · dsimp only
            rw [lk_upo]
            split
            · rename_i hs
              rw [z3 s hs,hds,hφ]
              refine .ptr ⟨t,ti.k,[ti.zero],by simp,by simp,fun _=>⟨b,by simp [grow],by simp⟩⟩
            · exact (hrel'.env s).step g2
          · rw [lk_upo,hvis',vAt_set (f:=fun k=>decide (k = i) || vis I f a k) _ ha (fun j hj hj' hd1 hd2=>?_)]
            · split
              · rfl
              · rename_i hs
                exact hset s fun _=>hs
            · have:=hila.1
              rw [vis_ne (by omega),hlate2 j hj' (hpair j a hj hj' (.inr (.inr (.inl (by simp only [sameDst,hd1,hd2]; exact beq_self_eq_true _)))))]
              have:j ≠ i:=by omega
              simp [this]
          · obtain ⟨_,h2⟩:=hp'
            rw [hb'] at h2; cases h2
        · have hpb':pend I f a→below I f' a = false:=fun h=>by
            cases hb:below I f' a with
            | false=>rfl
            | true=>exact absurd ⟨h,hb⟩ hpb
          rw [hveq hia hpb']
          exact ⟨upo env o.dst (ds i),F',μ',hrel',fun t ht=>hset t (fun h=>by
            by_cases hai:a = i
            · have:=hia hai.symm
              rw [h.2] at this; cases this
            · exact ht ⟨by rw [hf'k a hai]; exact h.1,hpb' h⟩),fun h=>hpd' (hpend h hia).1⟩
      have hpa:∀ {w':World} {F':Nat→Nat→Prop} {μ':Nat→Option Nat} {σ':List Ob} {v:Value},After w F μ (φ.getD (nEff I (vis I f a) ops.size) []) w' F' μ' σ' →
          (pend I f a→∃ t ti,(∃ o,ops[a]? = some o∧o.op = .alloc t)∧L t = some ti∧PendOk C (dstAt ops a) t ti F' μ' (act.put o.dst v) w'):=by
        intro w' F' μ' σ' v haf hp
        obtain ⟨t,ti,h1,h2,h3⟩:=hpd hp
        refine ⟨t,ti,h1,h2,h3.after haf fun s hs hd=>?_⟩
        have ha:a < ops.size:=by
          rcases Nat.lt_or_ge a ops.size with h | h
          · exact h
          · have h9:=hp.1; rw [hfout a h] at h9; cases h9
        rw [← hda] at hd
        rcases Nat.lt_trichotomy i a with h | h | h
        · have:=(hinvf a ha hp.1).1 i (hpair a i h ha (.inr (.inr (.inl (by simp only [sameDst,hs,hd]; exact beq_self_eq_true _)))))
          rw [hlf] at this; cases this
        · subst h; have h9:=hp.1; rw [hlf] at h9; cases h9
        · have hap:=hpair i a h hlt (.inr (.inr (.inl (by simp only [sameDst,hs,hd]; exact beq_self_eq_true _))))
          have:below I f a = true:=below_iff.2 fun k hk he=>hpl k (hlon i hlt hap k hk he)
          rw [hp.2] at this; cases this
      simp only [wpOpIn,ho]
      by_cases hia:i = a
      · -- the allocation
        have hal:isAl L ops φ a I ds i:=by
          rcases (hE i hlt).2 with h | h | h
          · exact h
          · exact absurd hia h.1
          · exact absurd hia h.1
        obtain ⟨_,oa,t,ti,ho',hgn,hop,ht,hk,he,hφ,hds⟩:=hal
        obtain rfl:o = oa:=Option.some.inj (ho.symm.trans ho')
        have hnp:¬ isPan2 C ops φ a I K (E 0) E i:=fun h=>h.1 hia
        have hg:gd ops (rst (E i) (I.getD i .none).rd) o = some true:=by unfold gd; rw [hgn]
        rw [if_pos (gd_wanted hr2 hg)]
        cases hb:below I f a with
        | true =>
          have hph:=heff he fun _=>hb
          have hdo:=OpDo.of_run (OpRun.alloc (P:=C.P) (o:=o) (st:=⟨rst (E i) (I.getD i .none).rd,φ.getD (nEff I (fun _=>true) i) []⟩) hL hop ht hk)
          rw [hph] at hr2
          have hr':=hr
          rw [hph] at hr'
          refine hdo C.rd act w F μ _ _ hr2.hr (rep_ev hr2) fun v w' F' μ' haf hrep=>next v w' _ F' μ' hnp (fun _=>hb) hds.symm ?_ ?_
          · rw [nEff_set (f:=vis I f a) (vis_not hlf),if_pos ⟨he,hlt⟩,hph,hφ]
            exact ⟨haf.hr,env_put (C:=C) (st:=⟨env,φ.getD (nEff I (fun _=>true) i) []⟩) hr'.size (fun t=>(hr'.env t).step haf.step) o.dst hd0 hrep,hr'.step.trans haf.step,hr'.fr.trans haf.fr,
              fun c b hb=>(haf.col c b hb).elim (hr'.col c b) (fun q=>.inr (Nat.le_trans hr'.fr.size q)),by rw [put_size]; exact hr'.size,by rw [put_defers]; exact hr'.defers.step haf.step⟩
          · intro hp
            rw [hp.2] at hb; cases hb
        | false =>
          obtain ⟨z,hz,hzs,hzo⟩:=(hL _ _ ht).zero w
          have hrun:(execOp act.eval o).run C.P w = .ok (.value (.pointer (some ⟨w.heap.size,0,none⟩))) (w.alloc (.cells z.cells t)):=by
            simp only [execOp,hop,Instr.alloc,Sem.run_bind,hz,Result.andThen_ok,run_newVar,Sem.run_pure]
          obtain ⟨g1,g2,g3⟩:=hr.hr.garbage (.cells z.cells t)
          refine wpIn_of_wp (.inr fun c hc=>by rw [hop] at hc; cases hc) ?_
          unfold Oper.wp
          rw [hrun]
          refine last _ _ hnp ?_
          have hfa:f a = false:=by rw [← hia]; exact hlf
          have hb':below I f' a = false:=by
            cases hb':below I f' a with
            | false=>rfl
            | true =>
              have:below I f a = true:=below_iff.2 fun k hk he=>by
                have:=below_iff.1 hb' k hk he
                rwa [hf'k k (by omega)] at this
              rw [hb] at this; cases this
          have hv:vis I f' a = vis I f a:=by
            funext k
            by_cases hka:k = a
            · subst hka
              rw [vis_at,vis_at,hb',hb,Bool.and_false,Bool.and_false]
            · rw [vis_ne hka,vis_ne hka,hf'k k (by omega)]
          rw [hv]
          have hnpf:¬ pend I f a:=fun h=>by rw [h.1] at hfa; cases hfa
          refine ⟨upo env o.dst .undef,F,μ,⟨g1,env_put (C:=C) (st:=⟨env,_⟩) hr.size (fun t=>(hr.env t).step g2) o.dst hd0 .undef,hr.step.trans g2,hr.fr.trans g3,hr.col,by rw [put_size]; exact hr.size,by rw [put_defers]; exact hr.defers.step g2⟩,fun s hs=>?_,fun _=>?_⟩
          · have hne:=hs ⟨by rw [← hia]; exact hf'i,hb'⟩
            rw [← hia,hda] at hne
            rw [lk_upo_ne hne]
            exact henv s fun h=>absurd h hnpf
          · refine ⟨t,ti,⟨o,by rw [← hia]; exact ho,hop⟩,ht,w.heap.size,z,hzo,hzs,fun s hs=>?_,?_,hr.fr.size,fun id e=>?_,fun c e=>?_⟩
            · rw [← hia,hda] at hs
              rw [put_getD,hs]
              dsimp only
              rw [if_pos ⟨rfl,by rw [hr.size]; exact hd0 s hs⟩]
            · rw [alloc_get,if_pos rfl]
            · have:=hr.hr.lt _ _ e; omega
            · have:=(hr.hr.col _ _ e).1; omega
      · by_cases hpan:isPan2 C ops φ a I K (E 0) E i
        · obtain ⟨_,o',d,ho',hg,he,hdo,hk⟩:=hpan
          obtain rfl:o = o':=Option.some.inj (ho.symm.trans ho')
          rw [if_pos (gd_wanted hr2 hg)]
          have hph:=heff he fun h=>absurd h hia
          rw [hph] at hr2
          refine (hdo C.rd act w F μ _ _ hr2.hr (rep_ev hr2) fun v w' F' μ' haf hrep=>?_)
          refine ⟨_,d,v,F',μ',hk,rfl,⟨haf.hr,fun t=>?_,hr2.step.trans haf.step,hr2.fr.trans haf.fr,
            fun c b hb=>(haf.col c b hb).elim (hr2.col c b) (fun q=>.inr (Nat.le_trans hr2.fr.size q)),hr2.size,hr2.defers.step haf.step⟩,hrep⟩
          dsimp only
          unfold outs
          rw [lk_outs (f:=notDst (ops.toList.map (·.dst)))]
          split
          · rename_i hnd
            have hno:∀ j,j < ops.size→dstAt ops j ≠ some t:=by
              intro j hj hd
              simp only [notDst,List.all_eq_true,List.mem_map,bne_iff_ne,ne_eq,forall_exists_index,and_imp,forall_apply_eq_imp_iff₂] at hnd
              refine hnd ops[j] (by simp) ?_
              simpa [dstAt,hj] using hd
            have h0:lk env t = lk (E 0) t:=by
              have ha':pend I f a→dstAt ops a ≠ some t:=by
                rintro ⟨p1,_⟩
                rcases Nat.lt_or_ge a ops.size with h | h
                · exact hno a h
                · rw [hfout a h] at p1; cases p1
              rw [henv t ha',vAt_cut (i:=0) _ (Nat.zero_le _) (fun j _ hj hd=>absurd hd (hno j hj))]
              rfl
            rw [← h0]
            rw [hph] at hr
            exact (hr.env t).step haf.step
          · exact .undef
        · have hret:isRet2 C ops φ a I E ds i:=by
            rcases (hE i hlt).2 with h | h | h
            · exact absurd h.1 hia
            · exact h
            · exact absurd h hpan
          obtain ⟨_,o',ho',hret⟩:=hret
          obtain rfl:o = o':=Option.some.inj (ho.symm.trans ho')
          rcases hret with ⟨hg,hd,he⟩ | ⟨hg,he,hdo⟩ | ⟨hg,he,hdo⟩
          · rw [if_neg (by rw [gd_wanted hr2 hg]; simp)]
            refine ⟨fun _ _=>trivial,?_⟩
            refine next undef w .skip F μ hpan (fun h=>absurd h hia) hd.symm ?_ ?_
            · have hoo:φ.getD (nEff I (fun k=>decide (k = i) || vis I f a k) ops.size) [] = φ.getD (nEff I (vis I f a) ops.size) []:=by
                rw [nEff_set (f:=vis I f a) (vis_not hlf)]
                cases hq:(I.getD i .none).eff with
                | false=>simp
                | true=>rw [if_pos ⟨rfl,hlt⟩,heff hq (fun h=>absurd h hia)]; exact he hq
              rw [hoo]
              exact ⟨hr.hr,env_put (C:=C) (st:=⟨env,_⟩) hr.size hr.env o.dst hd0 .skip,hr.step,hr.fr,hr.col,by rw [put_size]; exact hr.size,by rw [put_defers]; exact hr.defers⟩
            · exact hpa ⟨hr.hr,Step.refl ..,Fr.refl ..,fun _ _ h=>.inl h⟩
          · rw [if_pos (gd_wanted hr2 hg)]
            have hph:=heff he fun h=>absurd h hia
            have hpa':=@hpa
            rw [hph] at hr2 hr hpa'
            refine (hdo C.rd act w F μ _ _ hr2.hr (rep_ev hr2) fun v w' F' μ' haf hrep=>next v w' _ F' μ' hpan (fun h=>absurd h hia) rfl ?_ (hpa' haf))
            rw [nEff_set (f:=vis I f a) (vis_not hlf),if_pos ⟨he,hlt⟩,hph]
            exact ⟨haf.hr,env_put (C:=C) (st:=⟨env,φ.getD (nEff I (fun _=>true) i) []⟩) hr.size (fun t=>(hr.env t).step haf.step) o.dst hd0 hrep,hr.step.trans haf.step,hr.fr.trans haf.fr,
              fun c b hb=>(haf.col c b hb).elim (hr.col c b) (fun q=>.inr (Nat.le_trans hr.fr.size q)),by rw [put_size]; exact hr.size,by rw [put_defers]; exact hr.defers.step haf.step⟩
          · rw [if_pos (gd_wanted hr2 hg)]
            have hph:nEff I (vis I f a) ops.size ∈ (I.getD i .none).ph:=by
              have:=(hB i hlt).1.1.1.2
              simp only [phB,he,Bool.false_or,List.all_eq_true,List.mem_range,Bool.or_eq_true,decide_eq_true_eq,List.contains_iff_mem] at this
              rcases this (nEff I (vis I f a) ops.size) (by have:=nEff_le (I:=I) (f:=vis I f a) ops.size; omega) with (h | h) | h
              · refine absurd h (Nat.not_lt.2 ?_)
                exact nEff_mono _ fun j hj _ hc=>hplv j (List.contains_iff_mem.1 hc)
              · refine absurd h (Nat.not_lt.2 ?_)
                refine nEff_mono _ fun j hj _ hc=>?_
                cases hq:(I.getD j .none).pre.contains i with
                | false=>rfl
                | true =>
                  rw [vis_not (hlate j hj (List.contains_iff_mem.1 hq))] at hc
                  cases hc
              · exact h
            refine (hdo _ hph C.rd act w F μ _ _ hr2.hr (rep_ev hr2) fun v w' F' μ' haf hrep=>next v w' _ F' μ' hpan (fun h=>absurd h hia) rfl ?_ (hpa haf))
            rw [nEff_set (f:=vis I f a) (vis_not hlf),if_neg (fun h=>by rw [he] at h; cases h.1),Nat.add_zero]
            exact ⟨haf.hr,env_put (C:=C) (st:=⟨env,_⟩) hr.size (fun t=>(hr.env t).step haf.step) o.dst hd0 hrep,hr.step.trans haf.step,hr.fr.trans haf.fr,
              fun c b hb=>(haf.col c b hb).elim (hr.col c b) (fun q=>.inr (Nat.le_trans hr.fr.size q)),by rw [put_size]; exact hr.size,by rw [put_defers]; exact hr.defers.step haf.step⟩
end Go.VL
end
section
namespace Go.VL
open Go
theorem eqds_ok {f:DV→DV→Bool} (hf:∀ x y,f x y = true→x = y):∀ a b,eqds f a b = true→a = b
  | [],[],_=>rfl
  | [],y :: r,h=>by cases h
  | x :: q,[],h=>by cases h
  | x :: q,y :: r,h=>by
    have h':bx (f x y) (eqds f q r) false = true:=h
    rw [bx_if] at h'
    split at h' <;> try cases h'
    rename_i hx
    rw [hf x y hx,eqds_ok hf q r h']
theorem beq2 {a b:Nat} {c:Bool} (h:bx (Nat.beq a b) c false = true):a = b∧c = true:=by
  rw [beq_if] at h
  split at h
  · rename_i e; exact ⟨e,h⟩
  · cases h
theorem eqd_ok:∀ n a b,eqd n a b = true→a = b
  | 0,a,b,h=>by cases h
  | n+1,a,b,h=>by
    have ih:=eqd_ok n
    have h':eqd1 (eqd n) a b = true:=h
    unfold eqd1 at h'
    split at h'
    · obtain ⟨h1,h2⟩:=beq2 h'
      rw [(kidx_iff _ _).1 h1,(eqx_iff _ _).1 h2]
    · rename_i x y
      revert h'
      cases x <;> cases y <;> intro h' <;> first | rfl | cases h'
    · rename_i x y
      have:=(eqs_iff _ _).1 h'
      rw [mapx_eq,mapx_eq] at this
      have h2:x.data.toList = y.data.toList:=by
        exact (List.map_inj_right (fun a b e=>UInt8.toNat_inj.1 e)).1 this
      have:x = y:=by
        cases x; cases y
        congr 1
        exact Array.ext' h2
      rw [this]
    · obtain ⟨h1,h2⟩:=beq2 h'
      obtain ⟨h3,h4⟩:=beq2 h2
      obtain ⟨h5,h6⟩:=beq2 h4
      rw [h1,h3,h5,Nat.eq_of_beq_eq_true h6]
    · obtain ⟨h1,h2⟩:=beq2 h'
      obtain ⟨h3,h4⟩:=beq2 h2
      obtain ⟨h5,h6⟩:=beq2 h4
      rw [h1,h3,h5,Nat.eq_of_beq_eq_true h6]
    all_goals first
      | rfl
      | (rw [Nat.eq_of_beq_eq_true h']; done)
      | (rw [eqds_ok ih _ _ h']; done)
      | (obtain ⟨h1,h2⟩:=beq2 h'; rw [h1,eqds_ok ih _ _ h2]; done)
      | (obtain ⟨h1,h2⟩:=beq2 h'; rw [h1,ih _ _ h2]; done)
      | (obtain ⟨h1,h2⟩:=beq2 h'; obtain ⟨h3,h4⟩:=beq2 h2; rw [h1,h3,eqds_ok ih _ _ h4]; done)
      | cases h'
section
variable {P:Program} {L:Lay} {mask:Nat} {call:DV→List DV→Mm→CR}
theorem rst_of {env:List (Nat × DV)} {mask:Nat} {s:FE} (h:∀ t,lk env t = rd mask s t) (l:List Nat):mapx (fun t=>(t,rd mask s t)) l = rst env l:=by
  rw [mapx_eq]
  unfold rst
  exact List.map_congr_left fun t _=>by rw [h t]
theorem cel_ev (env:List (Nat × DV)) (x:Operand):(cel x).f env = ev env x:=by
  rw [cel_eq]
  cases x with
  | tmp t=>exact lkb_eq _ _
  | _=>rfl
theorem xlog_ok {φ:List Mm} {r:RR}:∀ (log:List DLog) {e:XE} {s:FE},xlog L φ r log = .ok e s→r = .ok e s∧∀ g ∈ log,xlog1 L φ g = true
  | [],e,s,h=>⟨h,by simp⟩
  | g :: log,e,s,h=>by
    have h':bx (xlog1 L φ g) (xlog L φ r log) (.no g.pos) = .ok e s:=h
    rw [bx_if] at h'
    split at h' <;> try cases h'
    rename_i hg
    obtain ⟨h1,h2⟩:=xlog_ok log h'
    refine ⟨h1,fun q hq=>?_⟩
    rcases List.mem_cons.1 hq with rfl | hq
    · exact hg
    · exact h2 q hq
theorem allocX_out {m m':Mm} {t:Nat} {d:DV} (h:allocX L m t = some (d,m')):∃ ti,L t = some ti∧ti.zero.cells.length = ti.k∧d = .ptr m.n 1 0 0∧m' = pushX m (.arr t ti.k 1 (allx DV.one ti.zero.cells) [ti.zero]):=by
  unfold allocX at h
  split at h <;> try cases h
  rename_i ti ht
  rw [beq_if,len_eq] at h
  split at h <;> cases h
  rename_i hk
  exact ⟨ti,ht,hk,rfl,rfl⟩
end
theorem xdraw_cons {L:Lay} {mask:Nat} {ops:List Oper} {call:DV→List DV→Mm→CR} {o:Oper} {rest:List Oper} {D:DI} {I':List DI} {s:FE} :
    xdraw L mask ops call (o :: rest) (D :: I') s = match xgd ops (lkb (mapx (fun t=>(t,rd mask s t)) D.rd)) o with
      | some false=>bx D.eff ((xdraw L mask ops call rest I' (wr mask s o.dst .skip)).at s.m) (xdraw L mask ops call rest I' (wr mask s o.dst .skip))
      | some true=>bx D.eff
          (match o.op with
          | .call { callee:=.value g,args:=xs,.. }=>match call ((cel g).f (mapx (fun t=>(t,rd mask s t)) D.rd)) (mapx (fun x=>(cel x).f (mapx (fun t=>(t,rd mask s t)) D.rd)) xs.toList) s.m with
            | .ok (.ret d) m'=>(xdraw L mask ops call rest I' (wr mask ⟨s.l,s.p,m',s.dd⟩ o.dst d)).at s.m
            | .ok (.pan d) m'=>match rest with
              | []=>⟨.ok (.panic d) ⟨[],outs (ops.map (·.dst)) s.p,m',s.dd⟩,[s.m,m'],[]⟩
              | _=>⟨.no o.pos,[s.m],[]⟩
            | .no p=>⟨.no p,[s.m],[]⟩
          | op=>match (cop L cel op).f (mapx (fun t=>(t,rd mask s t)) D.rd) s.m with
            | some (d,m')=>(xdraw L mask ops call rest I' (wr mask ⟨s.l,s.p,m',s.dd⟩ o.dst d)).at s.m
            | none=>⟨.no o.pos,[s.m],[]⟩)
          (match xpure L (evl (lkb (mapx (fun t=>(t,rd mask s t)) D.rd))) o.op with
          | some d=>xdraw L mask ops call rest I' (wr mask s o.dst d)
          | none=>match xread L (evl (lkb (mapx (fun t=>(t,rd mask s t)) D.rd))) s.m o.op with
            | some d=>match xdraw L mask ops call rest I' (wr mask s o.dst d) with
              | ⟨r,φ,log⟩=>⟨r,φ,⟨mapx (fun t=>(t,rd mask s t)) D.rd,o.op,d,D.ph,o.pos⟩ :: log⟩
            | none=>⟨.no o.pos,[s.m],[]⟩)
      | none=>⟨.no o.pos,[s.m],[]⟩:=rfl
def DrK (mask:Nat) (e:XE) (s':FE):XE→St→Prop:=fun e' st=>e' = e∧Weak st (s'.st mask)
section
variable {C:Ctx} {L:Lay} {mask:Nat} {call:DV→List DV→Mm→CR} {arr:Array Oper} {φ:List Mm} {a:Nat} {env0:List (Nat × DV)} {e:XE} {s':FE}
theorem getD_obs {p:Nat} {m:Mm} (h:φ[p]? = some m):(φ.map Mm.obs).getD p [] = m.obs:=by
  rw [List.getD_eq_getElem?_getD,List.getElem?_map,h]; rfl
theorem xdraw_ok (hL:LayOk C.P L) (hc:CallOk C.P call) (hgood:∀ m ∈ φ,Good m):∀ (l:List Oper) (I:List DI) (i p:Nat) (s:FE) (env:List (Nat × DV)) (k:DRun),
    xdraw L mask arr.toList call l I s = k→k.r = .ok e s'→φ.drop p = k.φ→(∀ g ∈ k.log,xlog1 L φ g = true)→Good s.m→arr.toList.drop i = l →
    (i≤a→a < arr.size→∃ o D,arr.toList[a]? = some o∧isAlloc o = true∧I[a - i]? = some D∧D.eff = true)→(∀ t,lk env t = rd mask s t)→(∀ t,notDst (arr.toList.map (·.dst)) t = true→lk env t = lk env0 t) →
    dwalk2 C L arr (φ.map Mm.obs) a (DrK mask e s') env0 I i p l env∧φ[p]? = some s.m∧s'.dd = s.dd∧Good s'.m:=by
  intro l
  induction l with
  | nil =>
    intro I i p s env k hk hr hφ hlog hm hl ha henv h0
    subst hk
    have hr':RR.ok .normal ⟨[],s.p,s.m,s.dd⟩ = RR.ok e s':=hr
    cases hr'
    have hφ':φ.drop p = [s.m]:=hφ
    have hp:φ[p]? = some s.m:=by
      have:=congrArg List.head? hφ'
      rw [List.head?_drop] at this
      simpa using this
    refine ⟨?_,hp,rfl,hm⟩
    have hd:dwalk2 C L arr (φ.map Mm.obs) a (DrK mask .normal ⟨[],s.p,s.m,s.dd⟩) env0 I i p [] env = DrK mask .normal ⟨[],s.p,s.m,s.dd⟩ .normal ⟨env,(φ.map Mm.obs).getD p []⟩:=by cases I <;> rfl
    rw [hd,getD_obs hp]
    refine ⟨rfl,rfl,fun t=>?_⟩
    show lk (envOf mask ⟨[],s.p,s.m,s.dd⟩) t = .undef∨lk (envOf mask ⟨[],s.p,s.m,s.dd⟩) t = lk env t
    rw [lk_envOf,henv t]
    unfold rd
    rw [bx_if,bx_if]
    split
    · exact .inr rfl
    · exact .inl rfl
  | cons o rest ih =>
    intro I i p s env k hk hr hφ hlog hm hl ha henv h0
    cases I with
    | nil=>subst hk; cases hr
    | cons D I' =>
      have ho:arr.toList[i]? = some o:=by
        have:=congrArg List.head? hl
        rw [List.head?_drop] at this
        simpa using this
      have hl':arr.toList.drop (i+1) = rest:=by
        have:=congrArg List.tail hl
        rwa [List.tail_drop] at this
      have ha':i+1≤a→a < arr.size→∃ o D,arr.toList[a]? = some o∧isAlloc o = true∧I'[a - (i+1)]? = some D∧D.eff = true:=by
        intro h1 h2
        obtain ⟨o',D',q1,q2,q3,q4⟩:=ha (by omega) h2
        refine ⟨o',D',q1,q2,?_,q4⟩
        rw [show a - i = (a - (i+1))+1 by omega] at q3
        simpa using q3
      have hrs:=rst_of henv D.rd
      rw [xdraw_cons,hrs] at hk
      have hevl:evl (lkb (rst env D.rd)) = ev (rst env D.rd):=by
        funext x
        rw [← cel_eq,cel_ev]
      rw [hevl] at hk
      -- slots behind the operation
      have hdn:∀ t,notDst (arr.toList.map (·.dst)) t = true→o.dst ≠ some t:=by
        intro t h1 h2
        simp only [notDst,List.all_eq_true,List.mem_map,bne_iff_ne,ne_eq,forall_exists_index,and_imp,forall_apply_eq_imp_iff₂] at h1
        exact h1 o (List.mem_of_getElem? ho) h2
      have henv':∀ (d:DV) (m':Mm) (t:Nat),lk (upo env o.dst d) t = rd mask (wr mask ⟨s.l,s.p,m',s.dd⟩ o.dst d) t:=by
        intro d m' t
        rw [lk_upo,rd_wr,henv t]
        rfl
      have h0':∀ (d:DV) (t:Nat),notDst (arr.toList.map (·.dst)) t = true→lk (upo env o.dst d) t = lk env0 t:=by
        intro d t ht
        rw [lk_upo_ne (hdn t ht)]
        exact h0 t ht
      have hsm:∀ d,wr mask s o.dst d = wr mask ⟨s.l,s.p,s.m,s.dd⟩ o.dst d:=fun _=>rfl
      -- an operation with an effect that gives d and m'
      have goE:∀ {d:DV} {m':Mm} {k1:DRun},xdraw L mask arr.toList call rest I' (wr mask ⟨s.l,s.p,m',s.dd⟩ o.dst d) = k1→k = k1.at s.m→Good m' →
          dwalk2 C L arr (φ.map Mm.obs) a (DrK mask e s') env0 I' (i+1) (p+1) rest (upo env o.dst d)∧φ[p]? = some s.m∧φ[p+1]? = some m'∧s'.dd = s.dd∧Good s'.m:=by
        intro d m' k1 hk1 hkk hm'
        subst hkk
        have hφ':φ.drop p = s.m :: k1.φ:=hφ
        have hp:φ[p]? = some s.m:=by
          have:=congrArg List.head? hφ'
          rw [List.head?_drop] at this
          simpa using this
        have hφ2:φ.drop (p+1) = k1.φ:=by
          have:=congrArg List.tail hφ'
          rw [List.tail_drop] at this
          exact this
        obtain ⟨g1,g2,g3,g4⟩:=ih I' (i+1) (p+1) _ (upo env o.dst d) k1 hk1 hr hφ2 hlog (by rw [wr_m]; exact hm') hl' ha' (henv' d m') (h0' d)
        rw [wr_m] at g2
        rw [wr_dd] at g3
        exact ⟨g1,hp,g2,g3,g4⟩
      -- one without
      have goP:∀ {d:DV} {k1:DRun},xdraw L mask arr.toList call rest I' (wr mask s o.dst d) = k1→k.r = k1.r→k.φ = k1.φ→(∀ g ∈ k1.log,g ∈ k.log) →
          dwalk2 C L arr (φ.map Mm.obs) a (DrK mask e s') env0 I' (i+1) p rest (upo env o.dst d)∧φ[p]? = some s.m∧s'.dd = s.dd∧Good s'.m:=by
        intro d k1 hk1 hkr hkφ hkl
        obtain ⟨g1,g2,g3,g4⟩:=ih I' (i+1) p _ (upo env o.dst d) k1 hk1 (by rw [← hkr]; exact hr) (by rw [← hkφ]; exact hφ) (fun g hg=>hlog g (hkl g hg)) (by rw [wr_m]; exact hm) hl' ha' (henv' d s.m) (h0' d)
        rw [wr_m] at g2
        rw [wr_dd] at g3
        exact ⟨g1,g2,g3,g4⟩
      simp only [dwalk2,dop2]
      by_cases hia:i = a
      · -- the allocation
        have hasz:a < arr.size:=by
          have:=(List.getElem?_eq_some_iff.1 ho).1
          rw [← hia]; simpa using this
        obtain ⟨o',D',q1,q2,q3,q4⟩:=ha (by omega) hasz
        rw [← hia,ho] at q1
        cases q1
        rw [hia,Nat.sub_self] at q3
        have:D' = D:=by simpa using q3.symm
        subst this
        unfold isAlloc at q2
        split at q2 <;> try cases q2
        rename_i t hop hgn
        have hg:xgd arr.toList (lkb (rst env D'.rd)) o = some true:=by unfold xgd; rw [hgn]
        rw [hg] at hk
        dsimp only at hk
        rw [bx_if,if_pos q4,hop] at hk
        dsimp only at hk
        split at hk
        · rename_i d m' hk1
          have hx:=cop_ok hk1
          have hx':allocX L s.m t = some (d,m'):=by
            unfold xop at hx
            simpa [xpure,xread,xeff] using hx
          obtain ⟨ti,ht,hkk,rfl,rfl⟩:=allocX_out hx'
          have hpush:=hm.push (x:=.arr t ti.k 1 (allx DV.one ti.zero.cells) [ti.zero]) ⟨rfl,allOne_one⟩
          obtain ⟨g1,g2,g3,g4⟩:=goE rfl hk.symm hpush.goodm
          rw [if_pos hia,if_pos q4]
          refine ⟨⟨t,ti,hgn,hop,ht,hkk,q4,?_,?_⟩,g2,g4⟩
          · rw [getD_obs g3,getD_obs g2]
            exact hpush.obs.symm
          · rw [getD_obs g2,← MmOf.n hm]
            exact g1
        · subst hk; cases hr
      · rw [if_neg hia]
        have hxg:∀ {b},xgd arr.toList (lkb (rst env D.rd)) o = some b→gd arr (rst env D.rd) o = some b:=fun h=>xgd_ok (fun t=>lkb_eq _ _) h
        split at hk
        · rename_i hg
          rw [hxg hg]
          dsimp only
          rw [bx_if] at hk
          split at hk
          · rename_i hE
            rw [hsm] at hk
            obtain ⟨g1,g2,g3,g4⟩:=goE rfl hk.symm hm
            rw [if_pos hE]
            refine ⟨⟨fun _=>?_,g1⟩,g2,g4⟩
            rw [getD_obs g3,getD_obs g2]
          · rename_i hE
            obtain ⟨g1,g2,g3⟩:=goP rfl (by rw [← hk]) (by rw [← hk]) (by rw [← hk]; exact fun g h=>h)
            rw [if_neg hE]
            exact ⟨⟨fun h=>absurd h hE,g1⟩,g2,g3⟩
        · rename_i hg
          rw [hxg hg]
          dsimp only
          rw [bx_if] at hk
          split at hk
          · rename_i hE
            rw [if_pos hE,if_pos hE]
            split at hk
            · rename_i g xs ts hop
              have ha2:mapx (fun x=>(cel x).f (rst env D.rd)) xs.toList = xs.toList.map (ev (rst env D.rd)):=by
                rw [mapx_eq]
                exact List.map_congr_left fun x _=>cel_ev _ _
              rw [ha2,cel_ev] at hk
              split at hk
              · rename_i d m' hkc
                obtain ⟨c1,c2,_⟩:=hc _ _ _ _ _ hkc hm
                obtain ⟨g1,g2,g3,g4⟩:=goE rfl hk.symm c1
                refine ⟨⟨.ret d,?_,g1⟩,g2,g4⟩
                rw [getD_obs g2,getD_obs g3]
                exact c2 o ⟨rst env D.rd,s.m.obs⟩ g xs ts hop rfl rfl rfl
              · rename_i d m' hkc
                obtain ⟨c1,c2,_⟩:=hc _ _ _ _ _ hkc hm
                split at hk
                · subst hk
                  have hr':RR.ok (.panic d) ⟨[],outs (arr.toList.map (·.dst)) s.p,m',s.dd⟩ = RR.ok e s':=hr
                  cases hr'
                  have hφ':φ.drop p = [s.m,m']:=hφ
                  have hp:φ[p]? = some s.m:=by
                    have:=congrArg List.head? hφ'
                    rw [List.head?_drop] at this
                    simpa using this
                  have hp1:φ[p+1]? = some m':=by
                    have:=congrArg (fun l=>l[1]?) hφ'
                    simpa [List.getElem?_drop] using this
                  refine ⟨⟨.pan d,?_,rfl,rfl,?_,fun t=>?_⟩,hp,rfl,c1⟩
                  · rw [getD_obs hp,getD_obs hp1]
                    exact c2 o ⟨rst env D.rd,s.m.obs⟩ g xs ts hop rfl rfl rfl
                  · rw [getD_obs hp1]; rfl
                  · show lk (envOf mask ⟨[],outs (arr.toList.map (·.dst)) s.p,m',s.dd⟩) t = .undef∨lk (envOf mask ⟨[],outs (arr.toList.map (·.dst)) s.p,m',s.dd⟩) t = lk (outs (arr.toList.map (·.dst)) env0) t
                    rw [lk_envOf]
                    unfold rd
                    rw [bx_if,lkb_eq,lkb_eq]
                    split
                    · rename_i hpm
                      unfold outs
                      rw [lk_outs (f:=notDst (arr.toList.map (·.dst))),lk_outs (f:=notDst (arr.toList.map (·.dst)))]
                      split
                      · rename_i hnd
                        right
                        rw [← h0 t hnd,henv t]
                        unfold rd
                        rw [bx_if,if_pos hpm,lkb_eq]
                      · exact .inl rfl
                    · exact .inl rfl
                · subst hk; cases hr
              · subst hk; cases hr
            · split at hk
              · rename_i d m' hk1
                have hx:=cop_ok hk1
                have he:(fun x=>(cel x).f (rst env D.rd)) = ev (rst env D.rd):=by funext x; exact cel_ev _ _
                rw [he] at hx
                obtain ⟨σ',c1,c2⟩:=xop_sound hL hm hx
                obtain rfl:=c2.obs
                obtain ⟨g1,g2,g3,g4⟩:=goE rfl hk.symm c2.goodm
                refine ⟨⟨.ret d,?_,g1⟩,g2,g4⟩
                rw [getD_obs g2,getD_obs g3]
                exact OpDo.of_run c1
              · subst hk; cases hr
          · rename_i hE
            rw [if_neg hE,if_neg hE]
            split at hk
            · rename_i d hx
              obtain ⟨g1,g2,g3⟩:=goP rfl (by rw [← hk]) (by rw [← hk]) (by rw [← hk]; exact fun g h=>h)
              exact ⟨⟨d,fun q _=>OpDo.of_run (xpure_sound hL hx _),g1⟩,g2,g3⟩
            · split at hk
              · rename_i d hx
                obtain ⟨k1,hk1⟩:∃ k1,k1 = xdraw L mask arr.toList call rest I' (wr mask s o.dst d):=⟨_,rfl⟩
                rw [← hk1] at hk
                cases k1 with
                | mk r φ1 log1 =>
                  dsimp only at hk
                  obtain ⟨g1,g2,g3⟩:=goP hk1.symm (by rw [← hk]) (by rw [← hk]) (by rw [← hk]; exact fun g h=>List.mem_cons_of_mem _ h)
                  refine ⟨⟨d,fun q hq=>?_,g1⟩,g2,g3⟩
                  have hlg:=hlog ⟨rst env D.rd,o.op,d,D.ph,o.pos⟩ (by rw [← hk]; exact List.mem_cons_self ..)
                  unfold xlog1 at hlg
                  rw [allx_eq,List.all_eq_true] at hlg
                  have hq':=hlg q hq
                  split at hq' <;> try cases hq'
                  rename_i mq hmq
                  rw [nth_eq] at hmq
                  split at hq' <;> try cases hq'
                  rename_i dq hdq
                  obtain rfl:=eqd_ok _ _ _ hq'
                  rw [getD_obs hmq]
                  rw [hevl] at hdq
                  exact OpDo.of_run (xread_sound hL (hgood mq (List.mem_of_getElem? hmq)) hdq)
              · subst hk; cases hr
        · subst hk; cases hr
end
end Go.VL
end
section
namespace Go.VL
open Go
section
variable {P:Program} {L:Lay} {mask:Nat} {call:DV→List DV→Mm→CR}
theorem xdraw_good (hL:LayOk P L) (hc:CallOk P call) {ops:List Oper}:∀ (l:List Oper) (I:List DI) (s:FE) (k:DRun) (e:XE) (s':FE),xdraw L mask ops call l I s = k→k.r = .ok e s'→Good s.m→∀ m ∈ k.φ,Good m:=by
  intro l
  induction l with
  | nil =>
    intro I s k e s' hk hr hm m hmm
    subst hk
    have hmm':m ∈ [s.m]:=hmm
    obtain rfl:=List.mem_singleton.1 hmm'
    exact hm
  | cons o rest ih =>
    intro I s k e s' hk hr hm
    cases I with
    | nil=>subst hk; cases hr
    | cons D I' =>
      rw [xdraw_cons] at hk
      have goE:∀ {d:DV} {m':Mm},(xdraw L mask ops call rest I' (wr mask ⟨s.l,s.p,m',s.dd⟩ o.dst d)).at s.m = k→Good m'→∀ m ∈ k.φ,Good m:=by
        intro d m' hkk hm' m hmm
        subst hkk
        have hmm':m ∈ s.m :: (xdraw L mask ops call rest I' (wr mask ⟨s.l,s.p,m',s.dd⟩ o.dst d)).φ:=hmm
        rcases List.mem_cons.1 hmm' with rfl | hmm'
        · exact hm
        · exact ih _ _ _ _ _ rfl hr (by rw [wr_m]; exact hm') m hmm'
      split at hk
      · rw [bx_if] at hk
        split at hk
        · exact goE hk hm
        · subst hk
          exact ih _ _ _ _ _ rfl hr (by rw [wr_m]; exact hm)
      · rw [bx_if] at hk
        split at hk
        · split at hk
          · split at hk
            · rename_i d m' hkc
              exact goE hk (hc _ _ _ _ _ hkc hm).1
            · rename_i d m' hkc
              split at hk
              · subst hk
                intro m hmm
                have hmm':m ∈ [s.m,m']:=hmm
                rcases List.mem_cons.1 hmm' with rfl | hmm'
                · exact hm
                · obtain rfl:=List.mem_singleton.1 hmm'
                  exact (hc _ _ _ _ _ hkc hm).1
              · subst hk; cases hr
            · subst hk; cases hr
          · split at hk
            · rename_i d m' hk1
              have hx:=cop_ok hk1
              have he:(fun x=>(cel x).f (mapx (fun t=>(t,rd mask s t)) D.rd)) = ev (mapx (fun t=>(t,rd mask s t)) D.rd):=by funext x; exact cel_ev _ _
              rw [he] at hx
              obtain ⟨σ',c1,c2⟩:=xop_sound hL hm hx
              exact goE hk c2.goodm
            · subst hk; cases hr
        · split at hk
          · subst hk
            exact ih _ _ _ _ _ rfl hr (by rw [wr_m]; exact hm)
          · split at hk
            · rename_i d hx
              obtain ⟨k1,hk1⟩:∃ k1,k1 = xdraw L mask ops call rest I' (wr mask s o.dst d):=⟨_,rfl⟩
              rw [← hk1] at hk
              cases k1 with
              | mk r φ1 log1 =>
                subst hk
                exact ih I' (wr mask s o.dst d) ⟨r,φ1,log1⟩ e s' hk1.symm hr (by rw [wr_m]; exact hm)
            · subst hk; cases hr
      · subst hk; cases hr
theorem laOf_ok {ops:List Oper} {I:List DI} (h:laOf ops I < I.length):∃ o D,ops[laOf ops I]? = some o∧isAlloc o = true∧I[laOf ops I]? = some D∧D.eff = true:=by
  unfold laOf at h ⊢
  split at h
  · rename_i i hi
    have:=List.find?_some hi
    simp only [Bool.and_eq_true] at this
    obtain ⟨⟨⟨h1,h2⟩,_⟩,_⟩:=this
    split at h1 <;> try cases h1
    rename_i o ho
    refine ⟨o,I[i],ho,h1,by simp [h],?_⟩
    rw [List.getD_eq_getElem?_getD,List.getElem?_eq_getElem h] at h2
    exact h2
  · omega
theorem drawnOk (hL:LayOk P L) (hmx:P.follows .mixedOrders = true):DrawnOk P L:=by
  intro call hc x id ops I s s' e h hcode hm
  simp only [Bool.and_eq_true] at hcode
  obtain ⟨hmap,hF⟩:=hcode
  have hmap:=eq_of_beq hmap
  have hsz:ops.size = I.length:=by simpa using congrArg List.length hmap
  have hi:∀ i:Nat,(ops.toList[i]?.map fun o=>(o.dst,dirsO o)) = I[i]?.map fun D:DI=>(D.dst,D.dir):=fun (i:Nat)=>by
    have:=congrArg (fun (q:List (Option Tmp × List Nat))=>q[i]?) hmap
    simpa only [List.getElem?_map] using this
  have h1:∀ i,dstAt ops i = (I.getD i .none).dst:=by
    intro i
    have:=hi i
    simp only [dstAt,← Array.getElem?_toList,List.getD_eq_getElem?_getD]
    cases hx:ops.toList[i]? <;> cases hy:I[i]? <;> rw [hx,hy] at this <;> simp at this ⊢
    · rfl
    · exact this.1
  have h2:∀ i,dirs ops i = (I.getD i .none).dir:=by
    intro i
    have:=hi i
    simp only [dirs,← Array.getElem?_toList,List.getD_eq_getElem?_getD]
    cases hx:ops.toList[i]? <;> cases hy:I[i]? <;> rw [hx,hy] at this <;> simp at this ⊢
    · rfl
    · exact this.2
  unfold xdrawn at h
  split at h <;> try cases h
  rename_i e1 s1 φ log hk
  obtain ⟨he,hlog⟩:=xlog_ok log h
  cases he
  have hgood:∀ m ∈ φ,Good m:=xdraw_good hL hc _ _ _ _ _ _ hk rfl hm
  have ha:laOf ops.toList I < ops.size→∃ o D,ops.toList[laOf ops.toList I]? = some o∧isAlloc o = true∧I[laOf ops.toList I]? = some D∧D.eff = true:=by
    intro h
    rw [hsz] at h
    exact laOf_ok h
  obtain ⟨a,hae⟩:∃ a,a = laOf ops.toList I:=⟨_,rfl⟩
  rw [← hae] at ha hF
  have key:∀ C:Ctx,C.P = P→dwalk2 C L ops (φ.map Mm.obs) a (DrK x.mask e s') (envOf x.mask s) I 0 0 ops.toList (envOf x.mask s)∧φ[0]? = some s.m∧s'.dd = s.dd∧Good s'.m:=by
    intro C hCP
    subst hCP
    exact xdraw_ok hL hc hgood ops.toList I 0 0 s (envOf x.mask s) ⟨.ok e s',φ,log⟩ hk rfl rfl hlog hm rfl (fun _ h=>ha h) (fun t=>lk_envOf _ _ _) fun t _=>rfl
  have hg':Good s'.m:=by
    obtain ⟨_,_,_,g⟩:=xdraw_ok (C:=⟨P,0,none,[],default,fun _ _=>False,fun _=>none,[],fun _ _=>rfl⟩) hL hc hgood ops.toList I 0 0 s (envOf x.mask s) ⟨.ok e s',φ,log⟩ hk rfl rfl hlog hm rfl (fun _ h=>ha h) (fun t=>lk_envOf _ _ _) fun t _=>rfl
    exact g
  refine ⟨hg',fun C hC act w hr=>?_⟩
  obtain ⟨hdw,hφ0,hdd,_⟩:=key (C.at s.dd) hC.P
  obtain ⟨E,ds,q0,q1,q2⟩:=dwalk2_out (I:=I) ops.toList 0 (envOf x.mask s) I 0 (Nat.zero_le _) rfl rfl rfl hdw
  have hf:(fun i=>(Array.replicate ops.size false).getD i false) = fun _=>false:=by
    funext i
    rw [Array.getD_eq_getD_getElem?]
    rw [Array.getElem?_replicate]
    split <;> rfl
  have hvf:vis I (fun _=>false) a = fun _=>false:=by funext k; exact vis_not rfl
  have hn:∀ n,nEff I (fun _=>false) n = 0:=by
    intro n
    induction n with
    | zero=>rfl
    | succ n ih=>simp [nEff,ih]
  have hv:∀ n t,vAt ops (E 0) ds (fun _=>false) n t = lk (E 0) t:=by
    intro n t
    induction n with
    | zero=>rfl
    | succ n ih=>simp [vAt,ih]
  have hCP:C.P = P:=hC.P
  have hpost:(Code.region id ops true).wpIn C.fe 0 C.P (Post (C.at s.dd) (DrK x.mask e s')) act w:=by
    refine wpIn_region_any (by rw [hCP]; exact hmx) ?_
    obtain ⟨F,μ,hr⟩:=Rel.drew hr (w.drawn+1) (Nat.le_succ _)
    refine draw_any2 (C:=C.at s.dd) (by show LayOk C.P L; rw [hCP]; exact hL) (I:=I) (φ:=φ.map Mm.obs) (a:=a) (E:=E) (ds:=ds) hsz h1 h2 (by rw [show (C.at s.dd).n = C.n from rfl,hC.n]; exact hF)
      (fun k hk=>by rw [q0]; exact q1 k (Nat.zero_le _) hk) (by rw [q0]; exact q2.imp (fun h=>h) fun ⟨k,_,b,c⟩=>⟨k,b,c⟩) _ _ act _ (by simp) ?_ ?_ ?_
    · intro i hi hl
      rw [show (Array.replicate ops.size false).getD i false = false from congrFun hf i] at hl
      cases hl
    · rw [hf]
      exact cnt_le _
    · rw [hf,hvf,hn]
      refine ⟨envOf x.mask s,F,μ,?_,fun t _=>?_,fun h=>by cases h.1⟩
      · rw [getD_obs hφ0]
        exact hr
      · rw [hv,q0]
  refine wpIn_mono hpost fun ex act' w' hp=>?_
  cases ex with
  | normal =>
    obtain ⟨st,⟨rfl,hw⟩,hr'⟩:=hp
    exact ⟨rfl,by rw [hdd]; exact hr'.weak hw⟩
  | exit i =>
    obtain ⟨st,⟨rfl,hw⟩,hr'⟩:=hp
    exact ⟨rfl,by rw [hdd]; exact hr'.weak hw⟩
  | ret =>
    obtain ⟨st,⟨rfl,hw⟩,hr'⟩:=hp
    exact ⟨rfl,by rw [hdd]; exact hr'.weak hw⟩
  | panic ch =>
    obtain ⟨st,d,v,F,μ,⟨rfl,hw⟩,h1,h2,h3⟩:=hp
    refine ⟨d,v,F,μ,rfl,h1,?_,?_⟩
    · rw [hdd]; exact h2.weak hw
    · rw [hw.ob]; exact h3
  | goto l=>exact hp.elim
  | outgrown=>exact hp.elim
end
theorem run_ok {P:Program} {L:Lay} {T:Nat→FT} (hL:LayOk P L) (hmx:P.follows .mixedOrders = true) (hT:TabOk P T) (n:Nat):RunOk P (xexec L T n)∧CallOk P (call1 L T (xexec L T n)):=by
  have hC:CallsOk P L T:=callsOk hL hT (leaveFOk hL hT) (roundsOk hT)
  have hr:=xexec_ok hL (drawnOk hL hmx) rangeOk hC n
  exact ⟨hr,hC _ hr⟩
theorem ok_of_call {P:Program} {L:Lay} {T:Nat→FT} (hL:LayOk P L) (hmx:P.follows .mixedOrders = true) (hT:TabOk P T) (n:Nat) {f:Nat} {args:List DV} {m m':Mm} {out:Out} (h:call1 L T (xexec L T n) (.fn f []) args m = .ok out m') (hm:Good m) :
    Good m'∧Ok P f args m.obs out m'.obs:=by
  obtain ⟨g1,_,g2⟩:=(run_ok hL hmx hT n).2 _ _ _ _ _ h hm
  have:=g2 f [] rfl
  rw [List.append_nil] at this
  exact ⟨g1,this⟩
end Go.VL
end
