/- Proved: TreeOwn: whatever tree, root and item come in (together of bulk at most 1048576), the call returns true and they read as they did; no other condition. This text is part 7 of 18. -/
import Derived.Test.YtghomgiklhbjiaaW06
set_option linter.unusedSimpArgs false
set_option linter.unusedVariables false
set_option maxRecDepth 10000
set_option maxHeartbeats 4000000
open List renaming all_cons → Cv,all_eq_true → AS,all_nil → Do,append_nil → AK,cons_append → Bq,drop_eq_getElem_cons → BW,drop_of_length_le → Cp,drop_zero → Ch,ext_getElem? → BV,filter_cons → Dw,getElem?_append_left → AJ,getElem?_append_right → AT,getElem?_cons_succ → BH,getElem?_cons_zero → AY,getElem?_eq_getElem → AI,getElem?_eq_none → BA,getElem?_eq_some_iff → AH,getElem?_map → AQ,getElem?_replicate → Ck,getElem?_set → B2,getElem?_set_ne → A6,getElem?_toArray → Bn,length_append → AP,length_map → AN,length_take → Bi,map_append → B8,map_cons → Bf,map_nil → BQ,map_take → Dy,mem_cons → Bh,mem_map → Ba,mem_of_getElem? → AM,not_mem_nil → Bw,range → Bs,replicate → AO,replicate_zero → BU,set_append_left → Bo,set_append_right → Cg,set_comm → Df,set_cons_zero → Dj,set_set → Dr,take_append_getElem → BN,take_length → Co
open Nat renaming add_sub_cancel_left → Cn,le_succ → DN,le_trans → Bl,lt_or_ge → Bp,reduceBEq → CH,reduceLT → Bv,sub_self → B7,sub_zero → B6,zero_add → Bc,zero_le → BD
open Option renaming bind_some → C6,getD_some → A8,map_some → AW,none → DC,some → AX
open Int renaming eq_ofNat_of_zero_le → Cj,reduceLE → CZ,reduceLT → Cq,toNat_natCast → Bg
open Array renaming empty_append → B3,ext' → BJ,getD_eq_getD_getElem? → A0,getElem?_replicate → De,replicate → BI
open Bool renaming false_eq_true → Bb
namespace Go.VL
open Go Go.Proofs
open Nat (reduceAdd reduceEqDiff reduceSub reduceMul reduceLeDiff)
section
def s3 (σ:List Ob) (a b c:Nat) (x y z:Ob):List Ob:=((σ.set a x).set b y).set c z
structure Three (σ:List Ob) (a b c:Nat):Prop where
 la:a<σ.length
 lb:b<σ.length
 lc:c<σ.length
 ab:a≠b
 ac:a≠c
 bc:b≠c
section
variable{σ:List Ob}{a b c:Nat}
theorem bN (x y z:Ob):(s3 σ a b c x y z).length=σ.length:=by simp[s3]
theorem xW (h:Three σ a b c) (x y z:Ob) (l:List Ob):(s3 σ a b c x y z++l)[a]?=some x:=by
 rw[AJ (by rw[bN];exact h.la)]
 simp[s3,h.la,h.ab.symm,h.ac.symm]
theorem xV (h:Three σ a b c) (x y z:Ob) (l:List Ob):(s3 σ a b c x y z++l)[b]?=some y:=by
 rw[AJ (by rw[bN];exact h.lb)]
 simp[s3,h.lb,h.bc.symm]
theorem zw (h:Three σ a b c) (x y z:Ob) (l:List Ob):(s3 σ a b c x y z++l)[c]?=some z:=by
 rw[AJ (by rw[bN];exact h.lc)]
 simp[s3,h.lc]
theorem xT (h:Three σ a b c) (x y z x':Ob) (l:List Ob):(s3 σ a b c x y z++l).set a x'=s3 σ a b c x' y z++l:=by
 rw[Bo _ _ (by rw[bN];exact h.la)]
 unfold s3
 rw[Df _ _ h.ac.symm,Df _ _ h.ab.symm,Dr]
theorem tB (h:Three σ a b c) (x y z x':Ob) (l:List Ob):(s3 σ a b c x y z++l).set b x'=s3 σ a b c x x' z++l:=by
 rw[Bo _ _ (by rw[bN];exact h.lb)]
 unfold s3
 rw[Df _ _ h.bc.symm,Dr]
theorem xS (h:Three σ a b c) (x y z x':Ob) (l:List Ob):(s3 σ a b c x y z++l).set c x'=s3 σ a b c x y x'++l:=by
 rw[Bo _ _ (by rw[bN];exact h.lc)]
 unfold s3
 rw[Dr]
theorem rY{n:Nat} (hn:n=σ.length) (x y z:Ob) (l:List Ob) (k:Nat):(s3 σ a b c x y z++l)[n+k]?=l[k]?:=by
 rw[hn,←bN (a:=a) (b:=b) (c:=c) x y z,AT (by omega),Cn]
theorem tC{n:Nat} (hn:n=σ.length) (x y z:Ob) (l:List Ob):(s3 σ a b c x y z++l)[n]?=l[0]?:=rY hn x y z l 0
theorem vW{n:Nat} (hn:n=σ.length) (x y z:Ob) (l:List Ob) (k:Nat) (o:Ob):(s3 σ a b c x y z++l).set (n+k) o=s3 σ a b c x y z++l.set k o:=by
 rw[hn,←bN (a:=a) (b:=b) (c:=c) x y z,Cg _ _ (by omega),Cn]
theorem xU{n:Nat} (hn:n=σ.length) (x y z:Ob) (l:List Ob) (o:Ob):(s3 σ a b c x y z++l).set n o=s3 σ a b c x y z++l.set 0 o:=vW hn x y z l 0 o
def xx (n:Nat) (o:Ob):Prop:=(∃t k xs,o=.arr t k xs∧∀x∈xs,Low n x)∨∃t ds,o=.oth t ds∧t.refs=[]∧∀d∈ds,Low n d
theorem xR (h:Three σ a b c){x y z x' y' z':Ob} (hx:xx σ.length x') (hy:xx σ.length y') (hz:xx σ.length z'):er (s3 σ a b c x y z) (s3 σ a b c x' y' z'):=by
 refine⟨by rw[bN,bN],fun i o ho=>?_⟩
 rw[bN]
 have ga:=xW h x' y' z' []
 have gb:=xV h x' y' z' []
 have gc:=zw h x' y' z' []
 rw[AK] at ga gb gc
 by_cases hc:i=c
 ·subst hc;rw[gc] at ho;cases ho;exact .inr hz
 by_cases hb:i=b
 ·subst hb;rw[gb] at ho;cases ho;exact .inr hy
 by_cases ha:i=a
 ·subst ha;rw[ga] at ho;cases ho;exact .inr hx
 left
 unfold s3 at ho⊢
 rw[A6 (by omega),A6 (by omega),A6 (by omega)] at ho⊢
 exact ho
end
theorem Tid.ret{σ σ1 G:List Ob}{c:Nat}{R:Out→List Ob→Prop}{d D:DV} (h1:er σ σ1) (hz:Gz (σ1++G) c σ.length none d D) (hR:R (.ret D) σ1):Tid σ c R (.ret d) (σ1++G):=
 ⟨σ1,G,DC,d,D,rfl,h1,hz,(fun i hi=>by cases hi),.inl ⟨rfl,by simpa[df] using hR⟩⟩
theorem Tid.pan{σ σ1 G:List Ob}{c:Nat}{R:Out→List Ob→Prop}{d D:DV} (h1:er σ σ1) (hz:Gz (σ1++G) c σ.length none d D) (hR:R (.pan D) σ1):Tid σ c R (.pan d) (σ1++G):=
 ⟨σ1,G,DC,d,D,rfl,h1,hz,(fun i hi=>by cases hi),.inr ⟨rfl,by simpa[df] using hR⟩⟩
end
section
def s2 (σ:List Ob) (a b:Nat) (x y:Ob):List Ob:=(σ.set a x).set b y
structure Two (σ:List Ob) (a b:Nat):Prop where
 la:a<σ.length
 lb:b<σ.length
 ab:a≠b
section
variable{σ:List Ob}{a b:Nat}
theorem bq (x y:Ob):(s2 σ a b x y).length=σ.length:=by simp[s2]
theorem vY (h:Two σ a b) (x y:Ob) (l:List Ob):(s2 σ a b x y++l)[a]?=some x:=by
 rw[AJ (by rw[bq];exact h.la)]
 simp[s2,h.la,h.ab.symm]
theorem xZ (h:Two σ a b) (x y:Ob) (l:List Ob):(s2 σ a b x y++l)[b]?=some y:=by
 rw[AJ (by rw[bq];exact h.lb)]
 simp[s2,h.lb]
theorem oT (h:Two σ a b) (x y x':Ob) (l:List Ob):(s2 σ a b x y++l).set a x'=s2 σ a b x' y++l:=by
 rw[Bo _ _ (by rw[bq];exact h.la)]
 unfold s2
 rw[Df _ _ h.ab.symm,Dr]
theorem tD (h:Two σ a b) (x y x':Ob) (l:List Ob):(s2 σ a b x y++l).set b x'=s2 σ a b x x'++l:=by
 rw[Bo _ _ (by rw[bq];exact h.lb)]
 unfold s2
 rw[Dr]
theorem rZ{n:Nat} (hn:n=σ.length) (x y:Ob) (l:List Ob) (k:Nat):(s2 σ a b x y++l)[n+k]?=l[k]?:=by
 rw[hn,←bq (a:=a) (b:=b) x y,AT (by omega),Cn]
theorem oU{n:Nat} (hn:n=σ.length) (x y:Ob) (l:List Ob):(s2 σ a b x y++l)[n]?=l[0]?:=rZ hn x y l 0
theorem vX{n:Nat} (hn:n=σ.length) (x y:Ob) (l:List Ob) (k:Nat) (o:Ob):(s2 σ a b x y++l).set (n+k) o=s2 σ a b x y++l.set k o:=by
 rw[hn,←bq (a:=a) (b:=b) x y,Cg _ _ (by omega),Cn]
theorem xY{n:Nat} (hn:n=σ.length) (x y:Ob) (l:List Ob) (o:Ob):(s2 σ a b x y++l).set n o=s2 σ a b x y++l.set 0 o:=vX hn x y l 0 o
theorem xX (h:Two σ a b){x y x' y':Ob} (hx:xx σ.length x') (hy:xx σ.length y'):er (s2 σ a b x y) (s2 σ a b x' y'):=by
 refine⟨by rw[bq,bq],fun i o ho=>?_⟩
 rw[bq]
 have ga:=vY h x' y' []
 have gb:=xZ h x' y' []
 rw[AK] at ga gb
 by_cases hb:i=b
 ·subst hb;rw[gb] at ho;cases ho;exact .inr hy
 by_cases ha:i=a
 ·subst ha;rw[ga] at ho;cases ho;exact .inr hx
 left
 unfold s2 at ho⊢
 rw[A6 (by omega),A6 (by omega)] at ho⊢
 exact ho
theorem Two.app (h:Two σ a b) (x y:Ob) (l:List Ob):Two (s2 σ a b x y++l) a b:=⟨by have:=h.la;simp[s2];omega,by have:=h.lb;simp[s2];omega,h.ab⟩
theorem zx (h:Two σ a b) (x y x' y':Ob) (l:List Ob):s2 (s2 σ a b x y++l) a b x' y'=s2 σ a b x' y'++l:=by
 rw[s2,oT h,tD h]
end
end
@[reducible] def eH (ro:Option Nat):Fence:={Fence.wide with round:=ro}
theorem dm (P:Program) (ro:Option Nat) (m:Machine):m.fenced P (eH ro):=fenced_wide P m
theorem eG (ro:Option Nat) (n:Nat):(eH ro).room n:=fun _ h=>by cases h
def pP (ro:Option Nat) (P:Program) (m:Machine) (b:Frame) (k:List Item) (cs:List Frame):Exit→Act→World→Prop
 |.panic ch,a,w=>∃ops l k',StepsIn (Machine.fenced P (eH ro)) P m (lone {b.atR a (.inRegion ops l::k') with mode:=.panicking ch} cs w)
 |e,a,w=>ArrivesIn (Machine.fenced P (eH ro)) P m b k cs e a w
theorem pP.of{ro:Option Nat}{P:Program}{m m1:Machine}{b:Frame}{k k0:List Item}{cs:List Frame}{e:Exit}{a:Act}{w:World} (hk:k0=k∨∃ch,e=.panic ch) (h:StepsIn (Machine.fenced P (eH ro)) P m m1) (h':pP ro P m1 b k0 cs e a w):pP ro P m b k cs e a w:=by
 by_cases hp:∃ch,e=.panic ch
 ·obtain⟨ch,rfl⟩:=hp
  obtain⟨ops,l,k',hs⟩:=h'
  exact⟨ops,l,k',h.trans hs⟩
 ·obtain rfl:k0=k:=hk.elim id fun h=>absurd h hp
  have q:∀m',pP ro P m' b k0 cs e a w=ArrivesIn (Machine.fenced P (eH ro)) P m' b k0 cs e a w:=fun m'=>by cases e<;>first|rfl|exact absurd ⟨_,rfl⟩ hp
  rw[q] at h'⊢
  exact ArrivesIn.of_steps h h'
def WpP (ro:Option Nat) (P:Program) (c:Code) (Q:Exit→Act→World→Prop) (a:Act) (w:World):Prop:=
 ∀(b:Frame) (k:List Item) (cs:List Frame),b.roundOf=ro→∃e a' w',Q e a' w'∧pP ro P (lone (b.atR a (.code c::k)) cs w) b k cs e a' w'
theorem opsP{ro:Option Nat}{P:Program}{ops:Array Oper}{Q:Exit→Act→World→Prop}:∀(l:List Nat) (a:Act) (w:World),wpOpsIn (eH ro) 0 P ops Q l a w→∀(b:Frame) (k:List Item) (cs:List Frame),b.roundOf=ro→
  ∃e a' w',Q e a' w'∧pP ro P (lone (b.atR a (.inRegion ops l::k)) cs w) b k cs e a' w'
 | [],a,w,h,b,k,cs,_=>⟨.normal,a,w,h,.one (dm _ _ _) stepR_region_end⟩
 |i::rest,a,w,h,b,k,cs,hro=>by
  have on:∀a1 w1,StepsIn (Machine.fenced P (eH ro)) P (lone (b.atR a (.inRegion ops (i::rest)::k)) cs w) (lone (b.atR a1 (.inRegion ops rest::k)) cs w1)→wpOpsIn (eH ro) 0 P ops Q rest a1 w1→
    ∃e a' w',Q e a' w'∧pP ro P (lone (b.atR a (.inRegion ops (i::rest)::k)) cs w) b k cs e a' w':=fun a1 w1 hs h1=>by
   obtain⟨e,a',w',q,r⟩:=opsP rest a1 w1 h1 b k cs hro
   exact⟨e,a',w',q,r.of (.inl rfl) hs⟩
  have pan:∀ch w1,StepsIn (Machine.fenced P (eH ro)) P (lone (b.atR a (.inRegion ops (i::rest)::k)) cs w) (lone {b.atR a (.inRegion ops (i::rest)::k) with mode:=.panicking ch} cs w1)→Q (.panic ch) a w1→
    ∃e a' w',Q e a' w'∧pP ro P (lone (b.atR a (.inRegion ops (i::rest)::k)) cs w) b k cs e a' w':=fun ch w1 hs q=>⟨.panic ch,a,w1,q,ops,i::rest,k,hs⟩
  have big:∀m1,step P (lone (b.atR a (.inRegion ops (i::rest)::k)) cs w)=.next m1→Outgrown P m1→LetsOut Q→
    ∃e a' w',Q e a' w'∧pP ro P (lone (b.atR a (.inRegion ops (i::rest)::k)) cs w) b k cs e a' w':=fun m1 h1 h2 ⟨a0,w0,q⟩=>⟨.outgrown,a0,w0,q,.inr (Outgrown.of_steps (.one h1) h2)⟩
  have al:=dm P ro
  simp only[wpOpsIn] at h
  cases ho:ops[i]? with
  |none=>
   simp only[ho] at h
   have hs:=stepR_op_skip (P:=P) (b:=b) (a:=a) (k:=k) (cs:=cs) (w:=w) (ops:=ops) (i:=i) (rest:=rest) (by simp[ho])
   simp only[ho,Option.bind_none,Act.put] at hs
   exact on _ _ (.one (al _) hs) h
  |some o=>
   simp only[ho] at h
   have hfin:∀v,(b.atR a (.inRegion ops (i::rest)::k)).finish v=b.atR (a.put o.dst v) (.inRegion ops rest::k):=fun v=>by rw[Frame.finish_atR,ho];rfl
   by_cases hw:Region.wanted o (yielded ops a.tmps)=true
   ·rw[if_pos hw] at h
    have hg:=stepGR_op (P:=P) (b:=b) (k:=k) (cs:=cs) (w:=w) (rest:=rest) ho hw
    rw[hro] at hg
    have h:=h.2
    simp only[Oper.uponIn] at h
    split at h
    ·rename_i v w' hr'
     exact on _ _ (.one (al _) (step_lone_go (by rw[hg,←hfin];simp[stepG.apply,hr']))) h
    ·rename_i w' hr'
     exact on _ _ (.one (al _) (step_lone_go (by rw[hg,←hfin];simp[stepG.apply,hr']))) h
    ·rename_i d w' hr'
     refine on _ _ (.one (al _) (step_lone_go ?_)) h
     have e:=Frame.finish_atR b {a with defers:=d::a.defers} ops i rest k undef
     rw[ho] at e
     rw[hg]
     simp only[stepG.apply,Sem.runT_eq,hr',GStep.bare_after]
     exact congrArg (fun fr=>GStep.go {frame:=fr,callers:=cs,status:=.running,dying:=none} w') e
    ·rename_i f args w' hr'
     obtain⟨e,w'',fr,hR,hs,_,hlv⟩:=h.2.2 (b.atR a (.inRegion ops (i::rest)::k)::cs) (eG _ _)
     have h1:step P (lone (b.atR a (.inRegion ops (i::rest)::k)) cs w)=.next (lone (Frame.enter P f args .normal) (b.atR a (.inRegion ops (i::rest)::k)::cs) w'):=
      step_lone_go (by rw[hg];simp[stepG.apply,hr',Frame.atR])
     cases e with
     |returned v=>exact on _ _ (.head (al _) h1 (StepsIn.trans hs (.one (al _) (by rw[←hfin];exact step_leave_returned hlv)))) hR
     |panicked ch=>exact pan _ _ (.head (al _) h1 (StepsIn.trans hs (.one (al _) (by rw[←Frame.raise_atR];exact step_leave_panicked hlv)))) hR
     |outgrown=>exact big _ h1 hs hR
    ·rename_i row args w' hr'
     obtain⟨v,w'',hR,hs⟩:=h.2 (b.atR a (.inRegion ops (i::rest)::k)) cs (eG _ _)
     have h1:step P (lone (b.atR a (.inRegion ops (i::rest)::k)) cs w)=.next (lone (Frame.ofRow P row args .normal) (b.atR a (.inRegion ops (i::rest)::k)::cs) w'):=
      step_lone_go (by rw[hg];simp[stepG.apply,hr',Frame.atR])
     exact on _ _ (.head (al _) h1 (by rw[←hfin];exact hs)) hR
    ·rename_i l f tmps assign body w' hr'
     obtain⟨e,w'',hR,hs⟩:=h.2.2 (b.atR a (.inRegion ops (i::rest)::k)) cs (eG _ _)
     have h1:step P (lone (b.atR a (.inRegion ops (i::rest)::k)) cs w)=.next (lone (Frame.round l f tmps assign body .normal) (b.atR a (.inRegion ops (i::rest)::k)::cs) w'):=
      step_lone_go (by rw[hg];simp[stepG.apply,hr',Frame.atR])
     cases e with
     |returned v=>exact on _ _ (.head (al _) h1 (by rw[←hfin];exact hs)) hR
     |panicked ch=>exact pan _ _ (.head (al _) h1 (by rw[←Frame.raise_atR];exact hs)) hR
     |outgrown=>exact big _ h1 hs hR
    ·rename_i v w' hr'
     exact pan _ _ (.one (al _) (step_lone_go (by rw[hg,←Frame.raise_atR];simp[stepG.apply,hr']))) h
    ·exact h.elim
   ·rw[if_neg hw] at h
    have hs:=stepR_op_skip (P:=P) (b:=b) (a:=a) (k:=k) (cs:=cs) (w:=w) (ops:=ops) (i:=i) (rest:=rest) (by simp[ho];simpa using hw)
    simp only[ho,C6] at hs
    exact on _ _ (.one (al _) hs) h.2
theorem WpP.any{ro:Option Nat}{P:Program}{ops:Array Oper}{Q:Exit→Act→World→Prop}{id:Nat}{a:Act}{w:World} (hm:P.follows .mixedOrders=true)
  (h:wpAnyIn (eH ro) 0 P .any ops Q ops.size (BI ops.size false) a {w with drawn:=w.drawn+1}):WpP ro P (.region id ops true) Q a w:=fun b k cs hro=>by
 have hl:∀t,wpOpsIn (eH ro) 0 P ops Q (Region.schedule (P.follows .mixedOrders) ops t) a {w with drawn:=w.drawn+1}:=fun t=>by
  simp only[Region.schedule,hm,Bool.true_or,if_true]
  exact wpAnyIn_sound ops.size t _ a _ h
 obtain⟨e,a',w',q,r⟩:=opsP _ a _ (hl _) b k cs hro
 exact⟨e,a',w',q,r.of (.inl rfl) (.one (dm _ _ _) stepR_region_draw)⟩
theorem WpP.seq{ro:Option Nat}{P:Program}{x y:Code}{Q:Exit→Act→World→Prop}{a:Act}{w:World} (h:x.wpIn (eH ro) 0 P (fun e a w=>e=.normal∧WpP ro P y Q a w) a w):WpP ro P (.seq x y) Q a w:=fun b k cs hro=>by
 obtain⟨e,a1,w1,⟨rfl,hq⟩,hs⟩:=h b (.code y::k) cs hro trivial (eG _ _)
 obtain⟨e,a2,w2,q,r⟩:=hq b k cs hro
 exact⟨e,a2,w2,q,r.of (.inl rfl) (StepsIn.head (dm _ _ _) stepR_seq hs)⟩
theorem WpP.block{ro:Option Nat}{P:Program}{x:Code}{id:Nat}{Q:Exit→Act→World→Prop}{a:Act}{w:World} (hQ:∀e a w,Q e a w→∃ch,e=.panic ch) (h:WpP ro P x Q a w):WpP ro P (.block id x) Q a w:=fun b k cs hro=>by
 obtain⟨e,a2,w2,q,r⟩:=h b (.inBlock id::k) cs hro
 exact⟨e,a2,w2,q,r.of (.inr (hQ _ _ _ q)) (.one (dm _ _ _) stepR_block)⟩
theorem zC{ro:Option Nat}{P:Program}{l:Nat}{f:FuncId}{tmps:Array Value}{assign body:Code}{w:World}{R:Ending→World→Prop}
  (h:assign.wpIn (eH (some l)) 0 P (fun e a1 w1=>e=.normal∧∃w2,(Instr.beginRound l).run P w1=.ok () w2∧WpP (some l) P body (fun e a w=>∃ch,e=.panic ch∧a.defers=[]∧R (.panicked ch) w) a1 w2) {tmps:=tmps,defers:=[]} w):
  RoundIn (eH ro) 0 P l f tmps assign body w R:=by
 refine⟨trivial,fun c cs _=>?_⟩
 obtain⟨b,hb⟩:∃b:Frame,b={(default:Frame) with fn:=f,kind:=.normal,roundOf:=some l}:=⟨_,rfl⟩
 have hbr:b.roundOf=some l:=by rw[hb]
 have hb0:Frame.round l f tmps assign body .normal=b.atR {tmps:=tmps,defers:=[]} [.code assign,.beginRound,.code body]:=by
  rw[hb];simp[Frame.round,Frame.atR]
 obtain⟨e,a1,w1,⟨rfl,w2,hbg,hbody⟩,s0⟩:=h b [.beginRound,.code body] (c::cs) hbr trivial (eG _ _)
 obtain⟨e,a2,w3,⟨ch,rfl,hd,hR⟩,ops,li,k',s2⟩:=hbody b [] (c::cs) hbr
 rw[←hb0] at s0
 refine⟨.panicked ch,w3,hR,?_⟩
 refine StepsIn.trans s0 (.head (dm _ _ _) (stepR_beginRound hbr hbg) (StepsIn.trans s2 (.one (dm _ _ _) ?_)))
 refine step_lone_go ?_
 cases hf:P.funcs[b.fn]?<;>simp[stepG,unwind,Frame.catches,Frame.atR,hd,hf]
def SWP (C:Ctx) (c:Code) (st:St) (K:XE→St→Prop):Prop:=∀a w,Rel C st a w→WpP C.rd C.P c (iM C K) a w
def td (d:DV) (σ:List Ob):XE→St→Prop:=fun e s=>e=.panic d∧s.ob=σ
theorem SWP.block{C:Ctx}{c:Code}{st:St}{id:Nat}{d:DV}{σ:List Ob} (h:SWP C c st (td d σ)):SWP C (.block id c) st (td d σ):=fun a w hr=>by
 refine WpP.block (fun e a w hq=>?_) (h a w hr)
 cases e with
 |panic ch=>exact⟨ch,rfl⟩
 |normal=>obtain⟨_,⟨h,_⟩,_⟩:=hq;cases h
 |exit i=>obtain⟨_,⟨h,_⟩,_⟩:=hq;cases h
 |ret=>obtain⟨_,⟨h,_⟩,_⟩:=hq;cases h
 |goto l=>exact hq.elim
 |outgrown=>exact hq.elim
theorem SWP.seq{C:Ctx}{x y:Code}{st:St}{K:XE→St→Prop} (h:SW C x st fun e s=>e=.normal∧SWP C y s K):SWP C (.seq x y) st K:=fun a w hr=>by
 refine WpP.seq (wpIn_mono (h a w hr) fun ex a w hq=>?_)
 cases ex with
 |normal=>obtain⟨s,⟨_,hs⟩,hr⟩:=hq;exact⟨rfl,hs _ _ hr⟩
 |exit i=>obtain⟨_,⟨h,_⟩,_⟩:=hq;cases h
 |ret=>obtain⟨_,⟨h,_⟩,_⟩:=hq;cases h
 |panic ch=>obtain⟨_,_,_,_,_,⟨h,_⟩,_⟩:=hq;cases h
 |goto l=>exact hq.elim
 |outgrown=>exact hq.elim
theorem SWP.draw{C:Ctx}{L:Lay}{N:Nat} (hL:af C.P L) (hm:C.P.follows .mixedOrders=true) (hn:C.n=N){id:Nat}{l:List Oper}{st:St}{K:XE→St→Prop} (I:List DI) (φ:List (List Ob)) (hφ:φ.getD 0 []=st.ob)
  (hA:l.map (fun o=>(o.dst,fc o))=I.map fun D:DI=>(D.dst,D.dir)) (hF:m8 I N=true) (h:dgo C L l.toArray φ K I 0 l st.env):SWP C (.region id l.toArray true) st K:=by
 subst hn
 intro a w hr
 have hB:=rp hA hF
 refine WpP.any hm ?_
 obtain⟨E,ds,h0,h1,h2⟩:=ox (I:=I) l 0 st.env I 0 (BD _) rfl rfl rfl (rq hL _ _ _ _ h)
 have hf:(fun i=>(BI l.toArray.size false).getD i false)=fun _=>false:=by
  funext i
  rw[A0,De]
  split<;>rfl
 have hn:∀n,aM I (fun _=>false) n=0:=fun n=>by
  induction n with
  |zero=>rfl
  |succ n ih=>simp[aM,ih]
 have hv:∀n t,vAt l.toArray (E 0) ds (fun _=>false) n t=lk (E 0) t:=fun n t=>by
  induction n with
  |zero=>rfl
  |succ n ih=>simp[vAt,ih]
 refine rn (I:=I) (φ:=φ) (E:=E) (ds:=ds) hB (fun k hk=>h1 k (BD _) hk) (h2.imp (fun h=>h) fun⟨k,_,a,b⟩=>⟨k,a,b⟩) _ _ a _ (by simp) ?_ ?_ ⟨st.env,?_,fun t=>?_⟩
 ·intro i hi hl
  rw[show(BI l.toArray.size false).getD i false=false from congrFun hf i] at hl
  cases hl
 ·rw[hf]
  exact pF _
 ·rw[hf,hn,hφ]
  exact Rel.drew hr _ (DN _)
 ·rw[hf,hv,h0]
theorem uF{P:Program}{n:Nat}{σ:List Ob}{id:Nat}{args ds:List DV}{st0:LoopState}{q0:Option Code}{fid:FuncId}{ps:List Tmp}{asg bo:Code}{did:Nat}{p:List (Nat×DV)} (ho:σ[id]?=some (.oth (.loop st0 q0 fid ps asg bo did) ds)) (hlen:ds.length=n)
  (hp:rX n ps args (bL 0 ds)=some p){st1:St} (hasg:∀C:Ctx,C.P=P→C.n=n→aJ C asg ⟨p,σ⟩ [] .normal st1 []){q1:Option Code}{f1:FuncId}{p1:List Tmp}{a1 b1:Code}{d1:Nat}{e1:List DV}
  (ho1:st1.ob[id]?=some (.oth (.loop .ready q1 f1 p1 a1 b1 d1) e1)){d:DV}{σ2:List Ob} (hbo:∀C:Ctx,C.P=P→C.n=n→SWP C bo ⟨st1.env,st1.ob.set id (.oth (.loop .busy q1 f1 p1 a1 b1 d1) e1)⟩ (td d σ2)):
  cU P (.yld id) args σ (.pan d) σ2:=by
 intro o st gop xs ts hop hg hargs hob ro a w F μ K' Q hh he hk
 rw[hob] at hh he hk
 have hv:=he gop
 rw[hg] at hv
 obtain⟨r,d',fn',vs,k1,k2,k3,k4⟩:=dE hh ho
 have hge:a.eval gop=.func (.yield r) #[] #[]:=by
  generalize a.eval gop=v at hv
  cases hv with
  |yld h _=>rw[k1] at h;cases h;rfl
 have hrm:bF w F μ σ args (xs.toList.map a.eval):=by
  subst hargs
  refine⟨by simp,fun i d v hd hv=>?_⟩
  rw[AQ] at hd hv
  cases hx:xs.toList[i]? with
  |none=>simp[hx] at hd
  |some x=>
   simp only[hx,AW,AX.injEq] at hd hv
   subst hd;subst hv
   exact he x
 have hvs:vs.length=n:=by rw[←k4.1];exact hlen
 obtain⟨l1,l2,l3⟩:=lH (w:=w) (F:=F) (μ:=μ) (σ:=σ) ps args (bL 0 ds) p (xs.toList.map a.eval) ⟨vs⟩ hp hrm (by simpa using hvs) (fun t=>by
  rw[db,if_pos (BD t),B6]
  rcases Bp t ds.length with ht|ht
  ·rw[AI ht,A8]
   have ht':t<vs.length:=by rw[←k4.1];exact ht
   have:(⟨vs⟩:Array Value).getD t undef=vs[t]:=by
    rw[A0]
    simp[ht']
   rw[this]
   exact k4.2 t _ _ (AI ht) (AI ht')
  ·rw[BA ht]
   exact .undef)
 have hsz:(xs.map a.eval).size=ps.length:=by simpa using l1
 have hmap:xs.map a.eval=⟨xs.toList.map a.eval⟩:=by apply BJ;simp
 have hrunop:(execOp a.eval o).run P w=.ok (.round r fn' ((ps.zip (xs.toList.map a.eval)).foldl (fun tmps (t,a)=>tmps.setIfInBounds t a) ⟨vs⟩) asg bo) w:=by
  unfold execOp
  rw[hop]
  dsimp only[resolve]
  rw[hge]
  simp only[Deferred.ofValue,Sem.run_bind,Sem.run_pure,Result.andThen_ok,invoke,B3]
  have:=run_yield (P:=P) (args:=xs.map a.eval) k3 hsz
  rw[hmap] at this⊢
  rw[this,mY]
 refine⟨fun _ _=>trivial,?_⟩
 show o.uponIn _ 0 P a K' Q ((o.semAt ro a.eval).run P w)
 rw[Oper.semAt_eq _ _ _ (by intro c hc;rw[hop] at hc;cases hc),hrunop,Oper.uponIn_round]
 refine⟨fun e=>(by cases e),?_⟩
 refine zC (ro:=ro) ?_
 let C:Ctx:=⟨P,n,some r,[],w,F,μ,σ,hh.out⟩
 have hrel:Rel (C.at []) ⟨p,σ⟩ {tmps:=(ps.zip (xs.toList.map a.eval)).foldl (fun tmps (t,a)=>tmps.setIfInBounds t a) ⟨vs⟩,defers:=[]} w:=
  ⟨F,μ,hh,l3,Step.refl ..,Fr.refl ..,fun _ _ h=>.inl h,l2,rfl⟩
 refine wpIn_mono (hasg C rfl rfl _ w hrel) fun ex a1' w1 q=>?_
 cases ex with
 |exit i=>cases q.1
 |ret=>cases q.1
 |panic ch=>obtain⟨_,_,_,_,h1,_⟩:=q;cases h1
 |goto l=>exact q.elim
 |outgrown=>exact q.elim
 |normal=>
  obtain⟨_,F1,μ1,hq⟩:=q
  obtain⟨r1,dx1,fn1,vs1,n1,n2,n3,n4⟩:=dE hq.hr ho1
  have hr1':r1=r:=by
   have:=hq.step.othsame id _ _ ho
   rw[n1] at this
   rw[show C.μ0=μ from rfl,k1] at this
   exact AX.inj this
  subst hr1'
  obtain⟨t1,t2,t3⟩:=dA (fn:=fn1) (st':=.busy) (q':=q1) hq.hr ho1 n1 n2 n4
  refine⟨rfl,_,run_beginRound n3 rfl,?_⟩
  have hrel2:Rel (C.at []) ⟨st1.env,st1.ob.set id (.oth (.loop .busy q1 f1 p1 a1 b1 d1) e1)⟩ a1' _:=
   ⟨F1,μ1,t1,fun t=>(hq.env t).step t2,hq.step.trans t2,hq.fr.trans t3,hq.col,hq.size,bS.step t2 hq.defers⟩
  have hb:=hbo C rfl rfl _ _ hrel2
  intro b k cs hro
  obtain⟨e,a2,w2,hq2,harr⟩:=hb b k cs hro
  refine⟨e,a2,w2,?_,harr⟩
  cases e with
  |panic ch=>
   obtain⟨s,dx,v,F2,μ2,⟨e1,e2⟩,rfl,hq2,hrep⟩:=hq2
   cases e1
   rw[e2] at hrep
   have hob2:=hq2.hr
   rw[e2] at hob2
   have hst2:=hq2.step
   rw[e2] at hst2
   exact⟨_,rfl,hq2.defers,hk v w2 F2 μ2 ⟨hob2,hst2,hq2.fr,hq2.col⟩ hrep⟩
  |normal=>obtain⟨_,⟨h,_⟩,_⟩:=hq2;cases h
  |exit i=>obtain⟨_,⟨h,_⟩,_⟩:=hq2;cases h
  |ret=>obtain⟨_,⟨h,_⟩,_⟩:=hq2;cases h
  |goto l=>exact hq2.elim
  |outgrown=>exact hq2.elim
theorem aa.opdop{C:Ctx}{ops:Array Oper}{rest:List Oper}{o:Oper}{st:St}{K:XE→St→Prop}{d:DV}{ob':List Ob} (hg:gd ops st.env o=some true) (hop:bK C.P o st (.pan d) ob') (h:K (.panic d) ⟨st.env,ob'⟩):aa C ops (o::rest) st K:=by
 rintro a w ⟨F,μ,hr⟩
 refine wpListIn_step fun K' hK=>?_
 rw[if_pos (aK hr hg)]
 exact hop C.rd a w F μ K' _ hr.hr (bb hr) fun v w' F' μ' haf hrep=>
  ⟨⟨st.env,ob'⟩,d,v,F',μ',h,rfl,⟨haf.hr,fun t=>(hr.env t).step haf.step,hr.step.trans haf.step,hr.fr.trans haf.fr,
   fun c b hb=>(haf.col c b hb).elim (hr.col c b) (fun q=>.inr (Bl hr.fr.size q)),hr.size,hr.defers.step haf.step⟩,hrep⟩
theorem aa.yieldp{C:Ctx}{P:Program}{ops:Array Oper}{rest:List Oper}{o:Oper}{st:St}{K:XE→St→Prop}{g:Operand}{xs:Array Operand}{ts:Array TypeId}{id:Nat}{args:List DV}{d:DV}{σ':List Ob} (hP:C.P=P)
  (hc:cU P (.yld id) args st.ob (.pan d) σ') (hg:gd ops st.env o=some true) (ho:o.op=.call {callee:=.value g,args:=xs,argTypes:=ts}) (hf:ev st.env g=.yld id) (ha:xs.toList.map (ev st.env)=args)
  (h:K (.panic d) ⟨st.env,σ'⟩):aa C ops (o::rest) st K:=
 aa.opdop hg (by rw[hP];exact hc o st g xs ts ho hf ha rfl) h
section
theorem mJ{ob:List Ob}{i:Nat}{o:Ob} (h:ob[i]?=some o):ob.set i o=ob:=by
 apply BV
 intro j
 rw[B2]
 split
 ·rename_i e
  subst e
  have:=(AH.1 h).1
  rw[if_pos this,h]
 ·rfl
def s1 (σ:List Ob) (a:Nat) (x:Ob):List Ob:=σ.set a x
section
variable{σ:List Ob}{a:Nat}
theorem ey (x:Ob):(s1 σ a x).length=σ.length:=by simp[s1]
theorem du (h:a<σ.length) (x:Ob) (l:List Ob):(s1 σ a x++l)[a]?=some x:=by
 rw[AJ (by rw[ey];exact h)]
 simp[s1,h]
theorem gQ (h:a<σ.length) (x x':Ob) (l:List Ob):(s1 σ a x++l).set a x'=s1 σ a x'++l:=by
 rw[Bo _ _ (by rw[ey];exact h)]
 unfold s1
 rw[Dr]
theorem eO{b:Nat}{y:Ob} (hb:σ[b]?=some y) (hne:b≠a) (x:Ob) (l:List Ob):(s1 σ a x++l)[b]?=some y:=by
 rw[AJ (by rw[ey];exact(AH.1 hb).1)]
 unfold s1
 rw[A6 (by omega)]
 exact hb
theorem oY{x:Ob} (h:σ[a]?=some x):s1 σ a x=σ:=mJ h
end
theorem aa.xone{C:Ctx}{L:Lay} (hL:af C.P L){ops:Array Oper}{rest:List Oper}{o:Oper}{st:St}{K:XE→St→Prop} (hd:cm C.n [o]=true)
  (h:match gd ops st.env o with
   |some true=>(match fY L st o.op with
    |some (d,ob')=>aa C ops rest ⟨upo st.env o.dst d,ob'⟩ K
    |none=>False)
   |_=>False):aa C ops (o::rest) st K:=by
 split at h
 ·rename_i hg
  split at h
  ·rename_i d ob' hs
   exact aa.op hg (kP hd).1 (ar.of_xsop (o:=o) hL hs) h
  ·exact h.elim
 ·exact h.elim
theorem aa.weak'{C:Ctx}{ops:Array Oper}{rest:List Oper}{env l:List (Nat×DV)}{ob:List Ob}{K:XE→St→Prop} (h:aC env l) (k:aa C ops rest ⟨l,ob⟩ K):aa C ops rest ⟨env,ob⟩ K:=aa.weak (Weak.of_agree rfl h) k
theorem bB{ob ob':List Ob}{k tt id g off len:Nat}{xs ys Z:List DV} (ho:ob[id]?=some (.arr tt k xs)) (hg:g=xs.length) (hZ:Z=xs.take off++ys++xs.drop (off+ys.length)) (hob:ob.set id (.arr tt k Z)=ob') (hsame:ys.length=0→ob=ob'):bW ob k (.sl id g off len) ys=some ob':=by
 unfold bW
 by_cases h0:ys.length=0
 ·rw[if_pos h0,hsame h0]
 rw[if_neg h0]
 simp only[ho,hg]
 rw[if_pos (by simp),←hZ,hob]
theorem ar.copyT{P:Program}{L:Lay} (hL:af P L){o:Oper}{st:St}{xa:Array Operand}{ts:Array TypeId}{t t' e i2 g2 o2 l2 n:Nat}{te:TI}{x1 x2:Operand}{q0:Bool}{k0 b0:Nat}{z0 d1:DV}{ys:List DV}{ob':List Ob}
  (ho:o.op=.call {callee:=.builtin .copy,args:=xa,argTypes:=ts}) (hx:xa.toList=[x1,x2]) (hts:ts.toList=[t,t']) (ht:L t=some ⟨q0,k0,b0,.slice e,z0⟩) (hte:L e=some te) (h1:ev st.env x1=d1) (hlen:qP d1=some n) (h2:ev st.env x2=.sl i2 g2 o2 l2) (hys:bV st.ob te.k (.sl i2 g2 o2 l2)=some ys)
  (hone:∀y∈ys.take (min ys.length n),∀c∈y.cells,c.one=true) (hov:bW st.ob te.k d1 (ys.take (min ys.length n))=some ob'):ar P o st (.int .i64 (min ys.length n:Nat)) ob':=by
 obtain⟨desc,hu,rfl⟩:=(hL _ _ ht).und
 refine ar.mem fun a w F μ hr he=>?_
 have hargs:xa.map a.eval=⟨xa.toList.map a.eval⟩:=by apply BJ;simp
 have hts0:ts[0]?=some t:=by
  have:ts.toList[0]?=some t:=by rw[hts];rfl
  simpa using this
 have r1:=he x1
 have r2:=he x2
 rw[h1] at r1
 rw[h2] at r2
 obtain⟨A1,cap1,e1⟩:=mv hlen r1
 obtain⟨A2,l2',cap2,e2⟩:∃A2 l2' cap2,a.eval x2=.slice A2 l2' cap2:=by
  generalize a.eval x2=v at r2
  cases r2 with
  |sl _=>exact⟨_,_,_,rfl⟩
 rw[e2] at r2
 obtain⟨hl2,t1,t2⟩:=p6 hys (Nat.min_le_left ys.length n) r2
 subst hl2
 obtain⟨A3,cap3,news,e3,hn,hf⟩:=dp (P:=P) hr t1 t2 hone
 have hl:(ys.take (min ys.length n)).length=min ys.length n:=by simp
 rw[e1] at r1
 obtain⟨w',q1,q2,q3,q4⟩:=kz (P:=P) hr hov r1 hn (by omega)
 have hf':(Builtin.firstCells te.k (min ys.length n) (.slice A2 ys.length cap2)).run P w=.ok news w:=by
  have:=hf w rfl
  rw[hl] at this
  cases A2<;>exact this
 have hmin:Nat.min ys.length n=min ys.length n:=rfl
 have hrun:(Builtin.copy_ ts o.type #[a.eval x1,a.eval x2]).run P w=.ok (.int .i64 (min ys.length n:Nat)) w':=by
  rw[e1,e2]
  simp only[Builtin.copy_,hts0,Bn,AY,BH,run_underlying hu,Sem.run_bind,Sem.run_pure,Result.andThen_ok,Builtin.lenOf,(hL _ _ hte).size,hmin,hf']
  cases A1 with
  |none=>simp only[Sem.run_pure,goInt] at q1⊢;cases q1;rfl
  |some a=>simp only[Sem.run_bind,Sem.run_pure,goInt] at q1⊢;rw[q1];rfl
 refine⟨Builtin.copy_ ts o.type #[a.eval x1,a.eval x2],⟨_,w',μ,hrun,q2,q3,q4,.int⟩,fun v w' h1=>?_⟩
 simp only[execOp,ho,resolve,Sem.run_bind,Sem.run_pure,Result.andThen_ok,invoke,hargs,hx,Bf,BQ,builtin,h1]
theorem aI.run{C:Ctx}{φ:List (List Ob)}{D:DI}{p:Nat}{o:Oper}{env:List (Nat×DV)}{last:Bool}{K:XE→St→Prop}{next:(XE→St→Prop)→DV→Prop}{d:DV} (he:D.eff=true) (h:ar C.P o ⟨env,φ.getD p []⟩ d (φ.getD (p+1) [])) (hx:next K d):aI C φ D p o env last K next:=by
 unfold aI
 rw[if_pos he]
 exact⟨.ret d,bK.of_run h,hx⟩
end
section
structure Rng (P:Program) (N D p q:Nat) (asg bo:Code) (env keep:List (Nat×DV)) (S:Nat→Ob→List Ob) (vs:Nat→DV) (j:Nat):Prop where
 nd:p<N
 fresh:∀t d,(t,d)∈keep→t≠p∧t<N∧lk env t=d
 set:∀i x y,(S i x).set (D+1) y=S i y
 get:∀i x,(S i x)[D+1]?=some x
 asgs:∀C:Ctx,C.P=P→C.n=N→∀(d:DV) (ob:List Ob),SW C asg ⟨keep++[(p,d)],ob⟩ (cX C .normal ⟨keep++[(q,d)],ob⟩)
 body:∀C:Ctx,C.P=P→C.n=N→∀i x,i<j→SW C bo ⟨keep++[(q,vs i)],S i x⟩ (cX C .normal ⟨[],S (i+1) x⟩)
def lpO (N D p:Nat) (fid:FuncId) (asg bo:Code) (env:List (Nat×DV)) (s:LoopState):Ob:=.oth (.loop s none fid [p] asg bo D) ((Bs N).map (lk env))
section
variable{P:Program}{N D p q j:Nat}{fid:FuncId}{asg bo:Code}{env keep:List (Nat×DV)}{S:Nat→Ob→List Ob}{vs:Nat→DV}
theorem yo{keep:List (Nat×DV)}{l:List (Nat×DV)}{t:Nat}:lk (keep++l) t=if t∈keep.map (·.1) then lk keep t else lk l t:=by
 induction keep with
 |nil=>simp
 |cons x r ih=>
  obtain⟨s,d⟩:=x
  simp only[Bq,lk,Bf,Bh,ih]
  by_cases h:s=t
  ·subst h;simp
  ·have:¬ t=s:=fun e=>h e.symm
   simp only[h,if_false,this,false_or]
theorem zM{keep:List (Nat×DV)}{t:Nat} (h:t∈keep.map (·.1)):(t,lk keep t)∈keep:=by
 induction keep with
 |nil=>simp at h
 |cons x r ih=>
  obtain⟨s,d⟩:=x
  simp only[lk]
  by_cases e:s=t
  ·subst e;simp
  ·rw[if_neg e]
   simp only[Bf,Bh] at h
   rcases h with h|h
   ·exact absurd h.symm e
   ·exact List.mem_cons_of_mem _ (ih h)
theorem Rng.weak (h:Rng P N D p q asg bo env keep S vs j) (d:DV) (ob:List Ob):∃e,rX N [p] [d] (bL 0 ((Bs N).map (lk env)))=some e∧Weak ⟨e,ob⟩ ⟨keep++[(p,d)],ob⟩:=by
 have hle:(p+1).ble N=true:=Nat.ble_eq_true_of_le h.nd
 refine⟨upb (bL 0 ((Bs N).map (lk env))) p d,by simp[rX,hle,bx],rfl,fun t=>?_⟩
 dsimp only
 rw[yo]
 split
 ·rename_i ht
  have hm:=zM ht
  obtain⟨h1,h2,h3⟩:=h.fresh _ _ hm
  refine .inr ?_
  rw[l8,iT,if_neg (fun e=>h1 e.symm),db]
  simp[h2,h3]
 ·simp only[lk]
  split
  ·rename_i ht
   subst ht
   refine .inr ?_
   rw[l8,iT,if_pos rfl]
  ·exact .inl rfl
theorem Rng.round (h:Rng P N D p q asg bo env keep S vs j) (i:Nat) (hi:i<j):cU P (.yld (D+1)) [vs i] (S i (lpO N D p fid asg bo env .ready)) (.ret (.bool true)) (S (i+1) (lpO N D p fid asg bo env .ready)):=by
 obtain⟨e,he,hw⟩:=h.weak (vs i) (S i (lpO N D p fid asg bo env .ready))
 have:=we (P:=P) (n:=N) (id:=D+1) (args:=[vs i]) (h.get i _) (by simp) he (st1:=⟨keep++[(q,vs i)],S i (lpO N D p fid asg bo env .ready)⟩) (dd1:=[])
  (fun C hP hn=>(aJ.part hP hn (fun d h=>by cases h) fun E hP hn=>h.asgs E hP hn _ _).weak hw) (h.get i _) (e:=.normal) (st2:=⟨[],S (i+1) (lpO N D p fid asg bo env .busy)⟩) (dd2:=[])
  (fun C hP hn=>aJ.part hP hn (fun d h=>by cases h) fun E hP hn=>by
   have:=h.body E hP hn i (lpO N D p fid asg bo env .busy) hi
   dsimp only
   rw[h.set]
   exact this) (h.get (i+1) _) (j:=none) rfl
 simp only[Option.isNone_none,if_true] at this
 rw[h.set] at this
 exact this
theorem Rng.panic (h:Rng P N D p q asg bo env keep S vs j){d:DV}{σp:Ob→List Ob} (hb:∀C:Ctx,C.P=P→C.n=N→∀x,SWP C bo ⟨keep++[(q,vs j)],S j x⟩ (td d (σp x))):
  cU P (.yld (D+1)) [vs j] (S j (lpO N D p fid asg bo env .ready)) (.pan d) (σp (lpO N D p fid asg bo env .busy)):=by
 obtain⟨e,he,hw⟩:=h.weak (vs j) (S j (lpO N D p fid asg bo env .ready))
 refine uF (P:=P) (n:=N) (id:=D+1) (args:=[vs j]) (h.get j _) (by simp) he (st1:=⟨keep++[(q,vs j)],S j (lpO N D p fid asg bo env .ready)⟩)
  (fun C hP hn=>(aJ.part hP hn (fun d h=>by cases h) fun E hP hn=>h.asgs E hP hn _ _).weak hw) (h.get j _) fun C hP hn=>?_
 have:=hb C hP hn (lpO N D p fid asg bo env .busy)
 dsimp only
 rw[h.set]
 exact this
variable{L:Lay}{f:Nat}{fn:Func}{A R E:Code}{g:Nat}{args caps:List DV}{hh:FuncId}{σ obA ob0:List Ob}{envA envE envF:List (Nat×DV)}{obF:Ob→List Ob}{dres d:DV}
theorem nX (h:Rng P N D p q asg bo env keep S vs j) (hL:af P L) (hf:P.funcs[f]?=some fn) (hname:(fn.name== "runtime.NumGoroutine")=false) (hlen:args.length≤fn.ntmps) (hN:fn.ntmps=N) (hb:fn.body=some (A.seq ((R.seq (.block 0 (.rangeFunc (.tmp g) #[p] asg bo))).seq (E.seq .ret))))
  (hA:∀C:Ctx,C.P=P→C.n=N→SW C A ⟨bL 0 args,σ⟩ (cX C .normal ⟨envA,obA⟩)) (hR:∀C:Ctx,C.P=P→C.n=N→SW C R ⟨envA,obA⟩ (cX C .normal ⟨env,ob0⟩))
  (hD:ob0.length=D) (h0:∀x,S 0 x=(ob0++[.oth .defd []])++[x]) (hg:lk env g=.fn hh caps)
  (hcall:∀x,(∀i,i<j→cU P (.yld (D+1)) [vs i] (S i x) (.ret (.bool true)) (S (i+1) x))→Ok P hh ([.yld (D+1)]++caps) (S 0 x) (.ret (.tup [])) (S j x))
  (hw:aC env envE) (hE:∀C:Ctx,C.P=P→C.n=N→∀x,SW C E ⟨envE,S j x⟩ (cX C .normal ⟨envF,obF x⟩)) (hdf:∀x,(obF x)[D]?=some (.oth .defd [])) (hres:∀x,aF L ⟨envF,(obF x).set D (.oth .defd [.bool true])⟩ fn.results.toList=some dres):
  ∃x,Ok P f args σ (.ret dres) ((obF x).set D (.oth .defd [.bool true])):=by
 refine⟨lpO N D p f asg bo env .exhausted,?_⟩
 refine mI hL hf hb hname hlen (e:=.ret) (md:=.ret) (st1:=⟨envF,obF (lpO N D p f asg bo env .exhausted)⟩) (dd1:=[.col D]) (fun C hP hn hrd hσ hfix=>?_) rfl ⟨hdf _,rfl,_,hres _,rfl⟩
 have hn:C.n=N:=hn.trans hN
 have hr:=aJ.range (C:=C) hrd (st:=⟨env,ob0⟩) (dd:=[]) (g:=.tmp g) (ps:= #[p]) (asg:=asg) (bo:=bo) (f:=hh) (caps:=caps) (fid:=f) (ts:=(Bs N).map (lk env)) hg (by rw[hn];simp) (fun i hi=>by rw[hn] at hi;simp[hi])
  (out:=.ret (.tup [])) (σ2:=S j (lpO N D p f asg bo env .ready)) (by
   have:=hcall (lpO N D p f asg bo env .ready) fun i hi=>h.round i hi
   rw[h0] at this
   rw[hP,hD]
   exact this) (e:=.normal) (st':=⟨env,S j (lpO N D p f asg bo env .exhausted)⟩)
  (.inl ⟨.tup [],.ready,none,f,[p],asg,bo,D,_,rfl,by rw[hD];exact h.get _ _,by simp,rfl,by
   have:=h.set j (lpO N D p f asg bo env .ready) (lpO N D p f asg bo env .exhausted)
   rw[hD]
   exact congrArg (fun x=>(⟨env,x⟩:St)) this.symm⟩)
 rw[hD] at hr
 refine aJ.seq (aJ.part hP hn (fun d h=>by cases h) hA) (aJ.seq (aJ.seq (aJ.part hP hn (fun d h=>by cases h) hR) (aJ.block (id:=0) hr)) (aJ.seq (aJ.weak (Weak.of_agree rfl hw) (aJ.part (dd:=[.col D]) hP hn (fun d h=>by cases h) fun C hP hn=>hE C hP hn _)) aJ.ret))
theorem nY (h:Rng P N D p q asg bo env keep S vs j) (hL:af P L) (hf:P.funcs[f]?=some fn) (hname:(fn.name== "runtime.NumGoroutine")=false) (hlen:args.length≤fn.ntmps) (hN:fn.ntmps=N) (hb:fn.body=some (A.seq ((R.seq (.block 0 (.rangeFunc (.tmp g) #[p] asg bo))).seq (E.seq .ret))))
  (hA:∀C:Ctx,C.P=P→C.n=N→SW C A ⟨bL 0 args,σ⟩ (cX C .normal ⟨envA,obA⟩)) (hR:∀C:Ctx,C.P=P→C.n=N→SW C R ⟨envA,obA⟩ (cX C .normal ⟨env,ob0⟩))
  (hD:ob0.length=D) (h0:∀x,S 0 x=(ob0++[.oth .defd []])++[x]) (hg:lk env g=.fn hh caps){σp:Ob→List Ob} (hbp:∀C:Ctx,C.P=P→C.n=N→∀x,SWP C bo ⟨keep++[(q,vs j)],S j x⟩ (td d (σp x)))
  (hcall:∀x y,(∀i,i<j→cU P (.yld (D+1)) [vs i] (S i x) (.ret (.bool true)) (S (i+1) x))→cU P (.yld (D+1)) [vs j] (S j x) (.pan d) (σp y)→Ok P hh ([.yld (D+1)]++caps) (S 0 x) (.pan d) (σp y)) (hdf:∀x,(σp x)[D]?=some (.oth .defd [])):
  ∃x,Ok P f args σ (.pan d) ((σp x).set D (.oth .defd [.bool true])):=by
 refine⟨lpO N D p f asg bo env .busy,?_⟩
 refine mI hL hf hb hname hlen (e:=.panic d) (md:=.pan d) (st1:=⟨env,σp (lpO N D p f asg bo env .busy)⟩) (dd1:=[.col D]) (fun C hP hn hrd hσ hfix=>?_) rfl ⟨hdf _,rfl,rfl⟩
 have hn:C.n=N:=hn.trans hN
 have hr:=aJ.range (C:=C) hrd (st:=⟨env,ob0⟩) (dd:=[]) (g:=.tmp g) (ps:= #[p]) (asg:=asg) (bo:=bo) (f:=hh) (caps:=caps) (fid:=f) (ts:=(Bs N).map (lk env)) hg (by rw[hn];simp) (fun i hi=>by rw[hn] at hi;simp[hi])
  (out:=.pan d) (σ2:=σp (lpO N D p f asg bo env .busy)) (by
   have:=hcall (lpO N D p f asg bo env .ready) (lpO N D p f asg bo env .busy) (fun i hi=>h.round i hi) (h.panic hbp)
   rw[h0] at this
   rw[hP,hD]
   exact this) (e:=.panic d) (st':=⟨env,σp (lpO N D p f asg bo env .busy)⟩) (.inr ⟨d,rfl,rfl,rfl⟩)
 rw[hD] at hr
 exact aJ.seq (aJ.part hP hn (fun d h=>by cases h) hA) (aJ.seqOut (by simp) (aJ.seq (aJ.part hP hn (fun d h=>by cases h) hR) (aJ.block (id:=0) hr)))
end
end
theorem Fz.list{α:Type} (e:α→DV) (h:∀a,Low 0 (e a)){O:List Ob}{c id t k:Nat}{l:List α} (ho:O[id]?=some (.arr t k (l.map e))):Fz O c (.sl id l.length 0 l.length) (.vec c k (l.map e)):=by
 have:=Fz.sl (O:=O) (c:=c) (off:=0) (l:=l.length) (ys:=l.map e) ho (by simp) (fun j x y _ hx hy=>by rw[Bc,hy] at hx;cases hx;rfl) (fun j i x y d D _ hx hy hd hD=>by
  rw[Bc,hy] at hx;cases hx
  rw[hd] at hD;cases hD
  refine .low (cI (h:=?_) hd)
  obtain⟨a,_,rfl⟩:=Ba.1 (AM hy)
  exact h a)
 rwa [AN] at this
theorem Fz.two{O:List Ob}{c:Nat}{a b a' b':DV} (h:Fz O c a a') (k:Fz O c b b'):Fz O c (.tup [a,b]) (.tup [a',b']):=by
 refine .tup rfl fun i x y hx hy=>?_
 match i,hx,hy with
 |0,hx,hy=>cases hx;cases hy;exact h
 |1,hx,hy=>cases hx;cases hy;exact k
 |i+2,hx,_=>simp at hx
theorem Fz.agg2{O:List Ob}{c:Nat}{a b a' b':DV} (h:Fz O c a a') (k:Fz O c b b'):Fz O c (.agg [a,b]) (.agg [a',b']):=by
 refine .agg rfl fun i x y hx hy=>?_
 match i,hx,hy with
 |0,hx,hy=>cases hx;cases hy;exact h
 |1,hx,hy=>cases hx;cases hy;exact k
 |i+2,hx,_=>simp at hx
def eI (n:Int):DV:=.int .i64 n
def eV (n:Int):DV:=.int .u64 n
theorem mS (n:Nat) (b:UInt8):Low n (eB b):=(ax _ _).2 trivial
theorem sR (n:Nat) (b:Int):Low n (eI b):=(ax _ _).2 trivial
theorem zK (n:Nat) (b:Int):Low n (eV b):=(ax _ _).2 trivial
theorem j7 (n c k:Nat){α:Type} (e:α→DV) (h:∀a,Low n (e a)) (l:List α):Low n (.vec c k (l.map e)):=by
 rw[iD]
 intro u hu
 obtain⟨v,_,rfl⟩:=Ba.1 hu
 exact h v
theorem uc{α:Type} (e:α→DV) (h:∀a,(e a).cells.all DV.one=true) (l:List α):((l.map e).all fun y=>y.cells.all DV.one)=true:=by
 rw[AS]
 intro y hy
 obtain⟨x,_,rfl⟩:=Ba.1 hy
 exact h x
theorem kU (l:List UInt8):((l.map eB).all fun y=>y.cells.all DV.one)=true:=uc eB (fun _=>rfl) l
def b8 (x:Int):UInt8:=UInt8.ofNat x.toNat
theorem eB_b8 (x:Int):eB (b8 (IntKind.u8.wrap x))=.int .u8 (IntKind.u8.wrap x):=by
 have:=IntKind.wrap_u8 x
 have h:0≤IntKind.u8.wrap x∧IntKind.u8.wrap x<256:=by rw[this];omega
 unfold eB b8
 congr 1
 rw[UInt8.toNat_ofNat']
 omega
def pB (n:Int) (i:Nat):UInt8:=b8 (IntKind.u8.wrap (n.fdiv (2^min (8*i) 64)))
def jV (n:Int) (k:Nat):List UInt8:=(Bs k).map (pB n)
theorem cC (n:Int) (k:Nat):(jV n k).length=k:=by simp[jV]
def bu (n size:Int):List UInt8×Int:=
 if size<1∨8<size then([],1) else if size<8∧n.fdiv (2^min (8*size).toNat 64)≠0 then([],4) else(jV n size.toNat,0)
theorem uK (n:Int) (k S:Nat) (h:k<S):((jV n k).map eB++AO (S-k) (DV.int .u8 0)).set k (eB (pB n k))=(jV n (k+1)).map eB++AO (S-(k+1)) (.int .u8 0):=by
 rw[Cg _ _ (by simp[jV]),AN,cC,B7,show S-k=(S-(k+1))+1 by omega,List.replicate_succ,Dj]
 simp[jV,List.range_succ]
theorem uL (n:Int) (S:Nat) (h1:1≤S∧S≤8) (h2:¬((S:Int)<8∧n.fdiv (2^min (8*S) 64)≠0)) (σ:List Ob):
  Ok Try.prog 89 [.int .u64 n,.int .i64 S] σ (.ret (.tup [.sl σ.length S 0 S,.int .i64 0])) (σ++[.arr 5 1 ((jV n S).map eB)]):=by
 refine Ok.of_body ae Try.func89 rfl (by decide) (by simp[Try.ntmps89]) fun C hP hn hσ hfix hdd=>?_
 rw[show Try.f89.ntmps=40 from rfl] at hn
 have hL:af C.P L:=hP▸ae
 have hm:C.P.follows .mixedOrders=true:=hP▸ao
 have d1:decide ((S:Int)<1)=false:=decide_eq_false (by omega)
 have d2:decide ((S:Int)>8)=false:=decide_eq_false (by omega)
 have w1:IntKind.i64.wrap (8*(S:Int))=((8*S:Nat):Int):=wi (by omega) (by omega)
 have z1:(((8*S:Nat):Int)<0)=False:=eq_false (by omega)
 have hms:pc L σ 67 (.int .i64 (S:Int)) (.int .i64 (S:Int))=some (.sl σ.length S 0 S,σ++[.arr 5 1 (AO S (.int .u8 0))]):=by
  simp only[pc,L67,L5]
  rw[if_pos ⟨by omega,by omega,by omega,by omega,rfl,by decide⟩,Bg]
 have d3:(decide ((S:Int)<8)=true∧(n.fdiv (2^min (8*S) 64) !=0)=false)∨decide ((S:Int)<8)=false:=by
  by_cases h:(S:Int)<8
  ·refine .inl ⟨decide_eq_true h,?_⟩
   simpa using fun e=>h2 ⟨h,e⟩
  ·exact .inr (decide_eq_false h)
 rcases d3 with⟨d3,d4⟩|d3
 rotate_left
 repeat(first|(refine sB hL hn rfl ?_;simp only[go_sem,seval,d1,d2,d3,hms])|refine sN rfl ?_|refine sC ?_)
 rotate_left
 repeat(first|(refine sB hL hn rfl ?_;simp only[go_sem,seval,d1,d2,d3,bA,w1,z1,Bg,d4,hms])|refine sN rfl ?_|refine sC ?_)
 all_goals
  refine SW.lpg (fun k:Nat=>⟨[(0,.int .u64 n),(6,.sl σ.length S 0 S),(26,.int .i64 S),(27,.int .i64 k)],σ++[.arr 5 1 ((jV n k).map eB++AO (S-k) (.int .u8 0))]⟩) (fun k=>S-k) (fun k=>k≤S) 0 (by omega) (.of rfl ⟨rfl,rfl,rfl,rfl,trivial⟩) ?_
  intro k hk
  by_cases hlt:k<S
  ·have e1:decide ((k:Int)<(S:Int))=true:=decide_eq_true (by omega)
   have e2:(0≤(k:Int)∧(k:Int)<(S:Int)):=by omega
   have w3:IntKind.i64.wrap (8*(k:Int))=((8*k:Nat):Int):=wi (by omega) (by omega)
   have w4:IntKind.i64.wrap ((k:Int)+1)=((k+1:Nat):Int):=wi (by omega) (by omega)
   have z2:(((8*k:Nat):Int)<0)=False:=eq_false (by omega)
   obtain⟨O,hO⟩:∃O,O=(jV n k).map eB++AO (S-k) (DV.int .u8 0):=⟨_,rfl⟩
   have hOl:O.length=S:=by rw[hO];simp[cC];omega
   have hl1:k+1≤S:=by omega
   have hset:O.set k (.int .u8 (IntKind.u8.wrap (n.fdiv (2^min (8*k) 64))))=(jV n (k+1)).map eB++AO (S-(k+1)) (DV.int .u8 0):=by
    rw[←uK n k S hlt,←hO]
    simp only[pB,eB_b8]
   have hOk:O[k]?=some (DV.int .u8 0):=by
    rw[hO,AT (by simp[cC]),AN,cC,Ck,if_pos (by omega)]
   rw[←hO]
   repeat(first|(refine sB hL hn rfl ?_;simp only[go_sem,seval,e2,hOk,w3,z2,bA,Bg,cF,hOl,dD,bg,bH,de,ck,DV.one,Cv,Do,w4])|refine sN rfl ?_|refine sC ?_)
   exact Lp.nextg (k+1) (by omega) (by omega) (.of (by rw[←hset];rfl) ⟨rfl,rfl,rfl,rfl,trivial⟩)
  ·have e1:decide ((k:Int)<(S:Int))=false:=decide_eq_false (by omega)
   obtain rfl:k=S:=by omega
   rw[B7,BU,AK]
   repeat(first|(refine sB hL hn rfl ?_;simp only[go_sem,seval,e1])|refine sN rfl ?_|refine sC ?_)
   exact⟨_,_,_,ai.refl _ _,rfl,ag.refl _ _ _,rfl⟩
theorem aW (n c:Nat) (l:List UInt8):Low n (.vec c 1 (l.map eB)):=j7 n c 1 eB (mS n) l
theorem wo (n size:Int) (hs: -9223372036854775808≤size∧size≤9223372036854775807) (σ:List Ob):
  Ok Try.prog 89 [.int .u64 n,.int .i64 size] σ (.ret (.tup [.vec 0 1 ((bu n size).1.map eB),.int .i64 (bu n size).2])) σ:=by
 by_cases h1:size<1∨8<size
 ·rw[show bu n size=([],1) by simp[bu,h1]]
  refine Ok.thaw (c:=0) (d:=.tup [.nils,.int .i64 1]) (O:=[]) ?_ (.two .nil (.low (ax _ _|>.2 trivial))) (by simp[ax]) σ
  refine Ok.of_body ae Try.func89 rfl (by decide) (by simp[Try.ntmps89]) fun C hP hn hσ hfix hdd=>?_
  rw[show Try.f89.ntmps=40 from rfl] at hn
  have hL:af C.P L:=hP▸ae
  have hm:C.P.follows .mixedOrders=true:=hP▸ao
  by_cases h:size<1
  ·have d1:decide (size<1)=true:=decide_eq_true h
   repeat(first|(refine sB hL hn rfl ?_;simp only[go_sem,seval,d1])|refine sN rfl ?_|refine sC ?_)
   exact⟨_,_,_,ai.refl _ _,rfl,ag.refl _ _ _,rfl⟩
  ·have d1:decide (size<1)=false:=decide_eq_false h
   have d2:decide (size>8)=true:=decide_eq_true (by omega)
   repeat(first|(refine sB hL hn rfl ?_;simp only[go_sem,seval,d1,d2])|refine sN rfl ?_|refine sC ?_)
   exact⟨_,_,_,ai.refl _ _,rfl,ag.refl _ _ _,rfl⟩
 ·obtain⟨S,rfl⟩:=Cj (show 0≤size by omega)
  have e8:(8*(S:Int)).toNat=8*S:=by omega
  by_cases h2:(S:Int)<8∧n.fdiv (2^min (8*S) 64)≠0
  ·rw[show bu n S=([],4) by simp only[bu,if_neg h1,e8,if_pos h2]]
   refine Ok.thaw (c:=0) (d:=.tup [.nils,.int .i64 4]) (O:=[]) ?_ (.two .nil (.low (ax _ _|>.2 trivial))) (by simp[ax]) σ
   refine Ok.of_body ae Try.func89 rfl (by decide) (by simp[Try.ntmps89]) fun C hP hn hσ hfix hdd=>?_
   rw[show Try.f89.ntmps=40 from rfl] at hn
   have hL:af C.P L:=hP▸ae
   have hm:C.P.follows .mixedOrders=true:=hP▸ao
   have d1:decide ((S:Int)<1)=false:=decide_eq_false (by omega)
   have d2:decide ((S:Int)>8)=false:=decide_eq_false (by omega)
   have w1:IntKind.i64.wrap (8*(S:Int))=((8*S:Nat):Int):=wi (by omega) (by omega)
   have z1:(((8*S:Nat):Int)<0)=False:=eq_false (by omega)
   have d3:decide ((S:Int)<8)=true:=decide_eq_true h2.1
   have d4:(n.fdiv (2^min (8*S) 64) !=0)=true:=by simpa using h2.2
   repeat(first|(refine sB hL hn rfl ?_;simp only[go_sem,seval,d1,d2,d3,bA,w1,z1,Bg,d4])|refine sN rfl ?_|refine sC ?_)
   exact⟨_,_,_,ai.refl _ _,rfl,ag.refl _ _ _,rfl⟩
  ·have e:bu n S=(jV n S,0):=by simp only[bu,if_neg h1,e8,if_neg h2,Bg]
   rw[e]
   have:=uL n S (by omega) h2 []
   refine Ok.thaw (c:=0) this (.two ?_ (.low (ax _ _|>.2 trivial))) (by simp[ax]) σ
   have h:=Fz.list (O:=[Ob.arr 5 1 ((jV n S).map eB)]) (c:=0) (id:=0) (t:=5) (k:=1) (l:=jV n S) eB (mS 0) rfl
   rw[cC] at h
   exact h
theorem iS (n size:Int):(bu n size).1.length≤8:=by
 unfold bu
 split
 ·simp
 ·split
  ·simp
  ·simp[cC];omega
def gC:List (Int×Int)→List UInt8→List UInt8×Int
 | [],acc=>(acc,0)
 |(w,v)::r,acc=>if(bu v w).2=0 then gC r (acc++(bu v w).1) else([],(bu v w).2)
def cd (ws vs:List Int):List UInt8×Int:=if ws.length≠vs.length∨64<ws.length then([],3) else gC (ws.zip vs) []
theorem Fz.bytes{O:List Ob}{c id t:Nat}{l:List UInt8}{n:Nat} (hn:n=l.length) (ho:O[id]?=some (.arr t 1 (l.map eB))):Fz O c (.sl id n 0 n) (.vec c 1 (l.map eB)):=by
 subst hn;exact Fz.list eB (mS 0) ho
theorem oA (c:Nat) (bs:List UInt8) (hb:bs.length≤134217728) (σ:List Ob):Ok Try.prog 50 [.vec c 1 (bs.map eB)] σ (.ret (.vec 0 1 (bs.map eB))) σ:=by
 by_cases h0:bs=[]
 ·subst h0
  rw[BQ]
  refine(OkE.thaw (c:=0) (R:=fun D=>D=.vec 0 1 []) ?_ (by simp[iD]) σ).ok fun o σ' ⟨e,D',e1,e2⟩=>by subst e2;exact⟨e1,e⟩
  refine OkE.of_body ae Try.func50 rfl (by decide) (by simp[Try.ntmps50]) fun C hP hn hσ hfix hdd=>?_
  rw[show Try.f50.ntmps=8 from rfl] at hn
  have hL:af C.P L:=hP▸ae
  have hm:C.P.follows .mixedOrders=true:=hP▸ao
  repeat(first|(refine sB hL hn rfl ?_;simp only[go_sem,seval])|refine sN rfl ?_|refine sC ?_)
  refine aa.eqNil hL (by rw[hn];rfl) rfl rfl ⟨_,_,rfl,rfl⟩ rfl rfl fun b hb=>?_
  refine aa.nil ?_
  simp only[upo,up,ap]
  cases b
  ·repeat(first|(refine sB hL hn rfl ?_;simp only[go_sem,seval,aG])|refine sN rfl ?_|refine sC ?_)
   refine⟨.ret .emp,[],⟨_,_,rfl,.emp,rfl⟩,?_⟩
   exact⟨_,_,_,ai.refl _ _,rfl,ag.refl _ _ _,rfl⟩
  ·repeat(first|(refine sB hL hn rfl ?_;simp only[go_sem,seval])|refine sN rfl ?_|refine sC ?_)
   refine⟨.ret .nils,[],⟨_,_,rfl,.nil,rfl⟩,?_⟩
   exact⟨_,_,_,ai.refl _ _,rfl,ag.refl _ _ _,rfl⟩
 ·have hl:0<bs.length:=List.length_pos_iff.2 h0
  obtain⟨X,hX⟩:∃X,X=bs.map eB:=⟨_,rfl⟩
  have hXl:X.length=bs.length:=by rw[hX,AN]
  have aX:=kU bs
  have hfz:Fz [Ob.arr 5 1 X] 0 (.sl 0 X.length 0 X.length) (.vec 0 1 X):=by
   rw[hX];exact Fz.bytes (by simp) rfl
  have hlow:Low 0 (.vec c 1 X):=by rw[hX];exact aW 0 c bs
  rw[←hX] at aX⊢
  refine Ok.thaw ?_ hfz (by simpa using hlow) σ
  simp only[DV.cells] at aX
  have hcap:(X.length≤140737488355328)=True:=eq_true (by omega)
  have n0:(X.length=0)=False:=eq_false (by omega)
  obtain⟨x,R,hXR⟩:∃x R,X=x::R:=by
   cases X with
   |nil=>simp at hXl;omega
   |cons x R=>exact⟨x,R,rfl⟩
  have hcap':(R.length≤140737488355327)=True:=eq_true (by rw[hXR] at hXl;simp at hXl;omega)
  rw[hXR] at aX hcap n0⊢
  refine Ok.of_body ae Try.func50 rfl (by decide) (by simp[Try.ntmps50]) fun C hP hn hσ hfix hdd=>?_
  rw[show Try.f50.ntmps=8 from rfl] at hn
  have hL:af C.P L:=hP▸ae
  have hm:C.P.follows .mixedOrders=true:=hP▸ao
  repeat(first|(refine sB hL hn rfl ?_;simp only[go_sem,seval,aG,aX,hcap',List.size_toArray])|refine sN rfl ?_|refine sC ?_)
  exact⟨_,_,_,ai.refl _ _,rfl,ag.refl _ _ _,rfl⟩
def eqB (a b:List UInt8):Bool:=(jP a).toList==(jP b).toList
theorem o8:∀l:List UInt8,iK (l.map eB)=some l
 | []=>rfl
 |x::r=>by
  have:UInt8.ofNat ((x.toNat:Int).toNat)=x:=by simp
  simp only[Bf,eB,iK,o8 r,AW,this]
theorem u6 (c c':Nat) (a b:List UInt8) (σ:List Ob):Ok Try.prog 71 [.vec c 1 (a.map eB),.vec c' 1 (b.map eB)] σ (.ret (.bool (eqB a b))) σ:=by
 refine Ok.of_body ae Try.func71 rfl (by decide) (by simp[Try.ntmps71]) fun C hP hn hσ hfix hdd=>?_
 rw[show Try.f71.ntmps=10 from rfl] at hn
 have hL:af C.P L:=hP▸ae
 have hm:C.P.follows .mixedOrders=true:=hP▸ao
 have ho:ic L 5=true:=rfl
 repeat(first|(refine sB hL hn rfl ?_;simp only[go_sem,seval,ho,o8,jz])|refine sN rfl ?_|refine sC ?_)
 exact⟨_,_,_,ai.refl _ _,rfl,ag.refl _ _ _,rfl⟩
def eP (p:Nat×List UInt8):DV:=.vec p.1 1 (p.2.map eB)
def dT (l:List (Nat×List UInt8)):Nat:=(l.map fun p=>p.2.length).sum
def kR (l:List (Nat×List UInt8)):List UInt8:=(l.map (·.2)).flatten
theorem lz (l:List (Nat×List UInt8)):(kR l).length=dT l:=by simp[kR,dT,List.length_flatten];rfl
theorem nO (l:List (Nat×List UInt8)) (k:Nat) (h:k<l.length):dT (l.take (k+1))=dT (l.take k)+(l[k]'h).2.length:=by
 simp only[dT]
 rw[←BN h,B8,List.sum_append]
 simp
theorem vj (l:List (Nat×List UInt8)) (k:Nat) (h:k<l.length):kR (l.take (k+1))=kR (l.take k)++(l[k]'h).2:=by
 simp only[kR]
 rw[←BN h,B8,List.flatten_append]
 simp
theorem tx (l:List (Nat×List UInt8)) (k:Nat):dT (l.take k)≤dT l:=by
 conv=>rhs;rw[←List.take_append_drop k l]
 simp only[dT,B8,List.sum_append]
 omega
theorem s4 (c:Nat) (l:List (Nat×List UInt8)) (h0:0<dT l) (h1:dT l≤134217728) (σ:List Ob):Ok Try.prog 92 [.vec c 1 (l.map eP)] σ (.ret (.vec 0 1 ((kR l).map eB))) σ:=by
 obtain⟨X,hX⟩:∃X,X=l.map eP:=⟨_,rfl⟩
 have hXl:X.length=l.length:=by rw[hX,AN]
 have hlow:Low 0 (.vec c 1 X):=by rw[hX];exact j7 0 c 1 eP (fun p=>aW 0 p.1 p.2) l
 rw[←hX]
 have hfz:Fz [Ob.arr 5 1 ((kR l).map eB)] 0 (.sl 0 (dT l) 0 (dT l)) (.vec 0 1 ((kR l).map eB)):=Fz.bytes (lz l).symm rfl
 refine Ok.thaw ?_ hfz (by simpa using hlow) σ
 refine Ok.of_body ae Try.func92 rfl (by decide) (by simp[Try.ntmps92]) fun C hP hn hσ hfix hdd=>?_
 rw[show Try.f92.ntmps=36 from rfl] at hn
 have hL:af C.P L:=hP▸ae
 have hm:C.P.follows .mixedOrders=true:=hP▸ao
 refine SW.vlen 0 rfl fun hlen=>?_
 rw[hXl] at hlen
 repeat(first|(refine sB hL hn rfl ?_;simp only[go_sem,seval,hXl])|refine sN rfl ?_|refine sC ?_)
 refine SW.lpg (fun k:Nat=>⟨[(0,.vec c 1 X),(3,.int .i64 (dT (l.take k))),(9,.vec c 1 X),(10,.int .i64 l.length),(11,.int .i64 k)],[]⟩) (fun k=>l.length-k) (fun k=>k≤l.length) 0 (by omega) (.of rfl (by simp[aC,lk,dT])) ?_
 intro k hk
 by_cases hlt:k<l.length
 ·have e1:decide ((k:Int)<((l.length:Nat):Int))=true:=decide_eq_true (by omega)
  have e2:(0≤(k:Int)∧(k:Int)<((X.length:Nat):Int)):=by omega
  obtain⟨p,hp⟩:∃p,p=l[k]'hlt:=⟨_,rfl⟩
  obtain⟨q,hq⟩:∃q,q=p.2.map eB:=⟨_,rfl⟩
  have hql:q.length=p.2.length:=by rw[hq,AN]
  have e3:X[k]?.getD .undef=.vec p.1 1 q:=by rw[hX,hq,hp];simp[hlt,eP]
  have hs:=nO l k hlt
  have hs2:=tx l (k+1)
  rw[←hp] at hs
  have w1:IntKind.i64.wrap (((dT (l.take k):Nat):Int)+((p.2.length:Nat):Int))=((dT (l.take (k+1)):Nat):Int):=wi (by omega) (by omega)
  have d1:decide (((dT (l.take (k+1)):Nat):Int)<0)=false:=decide_eq_false (by omega)
  have w2:IntKind.i64.wrap ((k:Int)+1)=((k+1:Nat):Int):=wi (by omega) (by omega)
  repeat(first|(refine sB hL hn rfl ?_;simp only[go_sem,seval,e1,e2,e3,hql,w1,d1,w2])|refine sN rfl ?_|refine sC ?_)
  exact Lp.nextg (k+1) (by omega) (by omega) (.of rfl (by simp[aC,lk]))
 ·have e1:decide ((k:Int)<((l.length:Nat):Int))=false:=decide_eq_false (by omega)
  obtain rfl:k=l.length:=by omega
  rw[Co]
  repeat(first|(refine sB hL hn rfl ?_;simp only[go_sem,seval,e1])|refine sN rfl ?_|refine sC ?_)
  refine sK hP hL hn rfl rfl (ra (dT l) _ h0 h1) rfl rfl rfl rfl ?_;simp (maxSteps:=2000000) only[go_sem,seval]
  repeat(first|(refine sB hL hn rfl ?_;simp only[go_sem,seval,hXl])|refine sN rfl ?_|refine sC ?_)
  refine SW.lpg (fun k:Nat=>⟨[(6,.sl 0 (dT (l.take k)) 0 (dT (l.take k))),(25,.vec c 1 X),(26,.int .i64 l.length),(27,.int .i64 k)],[.arr 5 1 ((kR (l.take k)).map eB)]⟩) (fun k=>l.length-k) (fun k=>k≤l.length) 0 (by omega) (.of (by simp[kR]) (by simp[aC,lk,dT])) ?_
  intro k hk
  by_cases hlt:k<l.length
  ·have e1:decide ((k:Int)<((l.length:Nat):Int))=true:=decide_eq_true (by omega)
   have e2:(0≤(k:Int)∧(k:Int)<((X.length:Nat):Int)):=by omega
   obtain⟨p,hp⟩:∃p,p=l[k]'hlt:=⟨_,rfl⟩
   obtain⟨q,hq⟩:∃q,q=p.2.map eB:=⟨_,rfl⟩
   have hql:q.length=p.2.length:=by rw[hq,AN]
   have e3:X[k]?.getD .undef=.vec p.1 1 q:=by rw[hX,hq,hp];simp[hlt,eP]
   have hs:=nO l k hlt
   have hs2:=tx l (k+1)
   have hc:=vj l k hlt
   rw[←hp] at hs hc
   have w2:IntKind.i64.wrap ((k:Int)+1)=((k+1:Nat):Int):=wi (by omega) (by omega)
   obtain⟨A,hA⟩:∃A,A=(kR (l.take k)).map eB:=⟨_,rfl⟩
   have hAl:A.length=dT (l.take k):=by rw[hA,AN,lz]
   have aq:(q.all fun y=>y.cells.all DV.one)=true:=by rw[hq];exact kU _
   simp only[DV.cells] at aq
   have gA:([Ob.arr 5 1 A])[0]?=some (.arr 5 1 A):=rfl
   have hcap:(dT (l.take k)+q.length≤140737488355328)=True:=eq_true (by omega)
   rw[←hA]
   repeat(first|(refine sB hL hn rfl ?_;simp only[go_sem,seval,e1,e2,e3,aG,aq,gA,hAl,hcap,w2])|refine sN rfl ?_|refine sC ?_)
   exact Lp.nextg (k+1) (by omega) (by omega) (.of (by simp[hc,hA,hq]) (by simp[aC,lk,hs,hql]))
  ·have e1:decide ((k:Int)<((l.length:Nat):Int))=false:=decide_eq_false (by omega)
   obtain rfl:k=l.length:=by omega
   rw[Co]
   repeat(first|(refine sB hL hn rfl ?_;simp only[go_sem,seval,e1])|refine sN rfl ?_|refine sC ?_)
   exact⟨_,_,_,ai.refl _ _,rfl,ag.refl _ _ _,rfl⟩
theorem pG{α:Type} (e:α→DV) (c:Nat) (K:Nat→Prop) (h:∀a,Cl c K (e a)){c' k:Nat} (hc:c'≠c) (l:List α):Cl c K (.vec c' k (l.map e)):=
 .vec hc fun x hx=>by obtain⟨a,_,rfl⟩:=Ba.1 hx;exact h a
theorem kj (K:Nat→Prop) (l:List UInt8):Cl 1 K (.vec 0 1 (l.map eB)):=pG eB 1 K (fun _=>.int) (by decide) l
theorem ki{c:Nat}{K:Nat→Prop}{a b:DV} (ha:Cl c K a) (hb:Cl c K b):Cl c K (.tup [a,b]):=.tup fun x hx=>by
 simp only[Bh,Bw,or_false] at hx
 rcases hx with rfl|rfl<;>assumption
theorem ol{P:Program}{f:FuncId}{d d' D:DV}{σ:List Ob} (h:∀σ,Ok P f [d'] σ (.ret D) σ) (hz:Fz σ 1 d d') (hD:Cl 1 (fun _=>True) D):Ok P f [d] σ (.ret D) σ:=
 Ok.lendF (h []) rfl (fun i x y hx hy=>by
  match i,hx,hy with
  |0,hx,hy=>cases hx;cases hy;exact hz
  |i+1,hx,_=>simp at hx) hD
theorem Fz.int{O:List Ob}{c:Nat}{k:IntKind}{n:Int}:Fz O c (.int k n) (.int k n):=.low ((ax _ _).2 trivial)
def mj (bs:List UInt8):List UInt8:=bs++(bu (IntKind.u64.wrap (vU bs)) 4).1
theorem xQ (c:Nat) (bs:List UInt8) (h0:0<bs.length) (h1:bs.length≤1048576) (σ:List Ob):Ok Try.prog 78 [.vec c 1 (bs.map eB)] σ (.ret (.vec 0 1 ((mj bs).map eB))) σ:=by
 obtain⟨n,hn'⟩:∃n,n=IntKind.u64.wrap (vU bs):=⟨_,rfl⟩
 obtain⟨tl,htl⟩:∃tl,tl=(bu n 4).1:=⟨_,rfl⟩
 have htll:tl.length≤8:=by rw[htl];exact iS n 4
 have hs:dT [(c,bs),(0,tl)]=bs.length+tl.length:=by simp[dT]
 have hc:kR [(c,bs),(0,tl)]=mj bs:=by simp[kR,mj,htl,hn']
 obtain⟨X,hX⟩:∃X,X=bs.map eB:=⟨_,rfl⟩
 obtain⟨T,hT⟩:∃T,T=tl.map eB:=⟨_,rfl⟩
 obtain⟨D,hD⟩:∃D,D=(mj bs).map eB:=⟨_,rfl⟩
 have hlX:∀m,Low m (.vec c 1 X):=fun m=>by rw[hX];exact aW m c bs
 have hlT:∀m,Low m (.vec 0 1 T):=fun m=>by rw[hT];exact aW m 0 tl
 have hlD:Low 0 (.vec 0 1 D):=by rw[hD];exact aW 0 0 _
 have hsum:=vT c bs
 have hput:=wo n 4 (by omega)
 rw[←htl] at hput
 have hcat:Ok Try.prog 92 [.sl 0 2 0 2] [Ob.arr 67 1 [.vec c 1 X,.vec 0 1 T]] (.ret (.vec 0 1 D)) [Ob.arr 67 1 [.vec c 1 X,.vec 0 1 T]]:=by
  refine ol (d':=.vec 1 1 ([(c,bs),(0,tl)].map eP)) (fun σ=>?_) ?_ (by rw[hD];exact kj _ _)
  ·have:=s4 1 [(c,bs),(0,tl)] (by omega) (by omega) σ
   rw[hc,←hD] at this
   exact this
  ·have:=Fz.list (O:=[Ob.arr 67 1 ([(c,bs),(0,tl)].map eP)]) (c:=1) (id:=0) (t:=67) (k:=1) (l:=[(c,bs),(0,tl)]) eP (fun p=>aW 0 p.1 p.2) rfl
   simp only[Bf,BQ,eP,←hX,←hT] at this⊢
   exact this
 rw[←hX] at hsum⊢
 rw[←hT] at hput
 rw[←hD]
 refine Ok.thaw (c:=0) (O:=[Ob.arr 67 1 [.vec c 1 X,.vec 0 1 T]]) ?_ (.low hlD) (by simpa using hlX 0) σ
 refine Ok.of_body ae Try.func78 rfl (by decide) (by simp[Try.ntmps78]) fun C hP hn hσ hfix hdd=>?_
 rw[show Try.f78.ntmps=16 from rfl] at hn
 have hL:af C.P L:=hP▸ae
 have hm:C.P.follows .mixedOrders=true:=hP▸ao
 repeat(first|((first|refine sA hL hn rfl ?_|refine sB hL hn rfl ?_);simp only[go_sem,reduceEqDiff,reduceCtorEq])|((first|refine sC ?_|refine sH ?_|refine sI ?_|refine sJ ?_);try simp only[ap,aY,cx,bP,if_true,if_false,reduceEqDiff])|refine sD ?_|refine sE ?_|refine sF rfl ?_|refine sG rfl ?_)
 refine sK hP hL hn rfl rfl (hsum _) rfl rfl rfl rfl ?_;simp (maxSteps:=2000000) only[go_sem,reduceEqDiff,reduceCtorEq,eU,cF,←hn']
 refine sK hP hL hn rfl rfl (hput _) rfl rfl rfl rfl ?_;simp (maxSteps:=2000000) only[go_sem,reduceEqDiff,reduceCtorEq]
 repeat(first|((first|refine sA hL hn rfl ?_|refine sB hL hn rfl ?_);simp only[go_sem,reduceEqDiff,reduceLeDiff,reduceCtorEq])|((first|refine sC ?_|refine sH ?_|refine sI ?_|refine sJ ?_);try simp only[ap])|refine sD ?_|refine sE ?_|refine sF rfl ?_|refine sG rfl ?_)
 refine sK hP hL hn rfl rfl (hcat) rfl rfl rfl rfl ?_;simp (maxSteps:=2000000) only[go_sem,reduceEqDiff,reduceCtorEq]
 repeat(first|((first|refine sA hL hn rfl ?_|refine sB hL hn rfl ?_);simp only[go_sem,CH,Cq,CZ,reduceAdd,reduceEqDiff,reduceIte,reduceSub,Bv,reduceMul,reduceLeDiff,reduceCtorEq])|((first|refine sC ?_|refine sH ?_|refine sI ?_|refine sJ ?_);try simp only[ap])|refine sD ?_|refine sE ?_|refine sF rfl ?_|refine sG rfl ?_)
 exact⟨_,_,_,ai.refl _ _,rfl,ag.refl _ _ _,rfl⟩
def cv (bs:List UInt8):List UInt8×Int:=if IntKind.u32.wrap (dc ((bs.drop 60).take 4))≠vU (bs.take 60) then([],21) else(bs.take 60,0)
theorem yd (c:Nat) (bs:List UInt8) (h:bs.length=64) (σ:List Ob):Ok Try.prog 69 [.vec c 1 (bs.map eB)] σ (.ret (.tup [.vec 0 1 ((cv bs).1.map eB),.int .i64 (cv bs).2])) σ:=by
 have hg:=wV c bs 60 4 [] (by omega)
 rw[show cq bs 60 4=(dc ((bs.drop 60).take 4),0) by simp[cq,h]] at hg
 obtain⟨n,hn'⟩:∃n:Nat,n=dc ((bs.drop 60).take 4):=⟨_,rfl⟩
 obtain⟨X,hX⟩:∃X,X=bs.map eB:=⟨_,rfl⟩
 have hXl:X.length=64:=by rw[hX,AN,h]
 obtain⟨Y,hY⟩:∃Y,Y=(bs.take 60).map eB:=⟨_,rfl⟩
 have hxy:X.take 60=Y:=by rw[hX,hY,Dy]
 have hsum:=vT c (bs.take 60)
 have hcl:=oA c (bs.take 60) (by simp;omega)
 have hlX:∀m,Low m (.vec c 1 X):=fun m=>by rw[hX];exact aW m c bs
 have hlY:Low 0 (.vec 0 1 Y):=by rw[hY];exact aW 0 0 _
 obtain⟨S,hS⟩:∃S,S=vU (bs.take 60):=⟨_,rfl⟩
 have b1:au (some (.int .i64 60)) 64 64=some 60:=rfl
 have w1:IntKind.i64.wrap (((64:Nat):Int)-4)=60:=rfl
 have m1:mx 60 0=60:=rfl
 have d1:((0:Int) !=0)=false:=rfl
 rw[←hX,←hn'] at hg
 rw[←hY,←hS] at hsum
 rw[←hY] at hcl
 rw[←hX]
 by_cases hq:IntKind.u32.wrap n=S
 ·rw[show cv bs=(bs.take 60,0) by rw[hn',hS] at hq;simp[cv,hq],←hY]
  refine Ok.thaw (c:=0) (O:=[]) ?_ (.low (by simp[eh,ax,hlY])) (by simpa using hlX 0) σ
  have d2:(IntKind.u32.wrap (n:Int) !=S)=false:=by simp[hq]
  refine Ok.of_body ae Try.func69 rfl (by decide) (by simp[Try.ntmps69]) fun C hP hn hσ hfix hdd=>?_
  rw[show Try.f69.ntmps=33 from rfl] at hn
  have hL:af C.P L:=hP▸ae
  have hm:C.P.follows .mixedOrders=true:=hP▸ao
  repeat(first|((first|refine sA hL hn rfl ?_|refine sB hL hn rfl ?_);simp only[go_sem,reduceEqDiff,reduceCtorEq,hXl,w1,m1,mQ])|((first|refine sC ?_|refine sH ?_|refine sI ?_|refine sJ ?_);try simp only[ap,aY,cx,bP,if_true,if_false,reduceEqDiff])|refine sD ?_|refine sE ?_|refine sF rfl ?_|refine sG rfl ?_)
  refine sK hP hL hn rfl rfl (hg) rfl rfl rfl rfl ?_;simp (maxSteps:=2000000) only[go_sem,reduceEqDiff,reduceCtorEq,eN]
  repeat(first|((first|refine sA hL hn rfl ?_|refine sB hL hn rfl ?_);simp only[go_sem,reduceEqDiff,reduceCtorEq,d1,cF,aw,hXl,b1,hxy])|((first|refine sC ?_|refine sH ?_|refine sI ?_|refine sJ ?_);try simp only[ap])|refine sD ?_|refine sE ?_|refine sF rfl ?_|refine sG rfl ?_)
  refine sK hP hL hn rfl rfl (hsum _) rfl rfl rfl rfl ?_;simp (maxSteps:=2000000) only[go_sem,reduceEqDiff,reduceCtorEq,eU,d2]
  repeat(first|((first|refine sA hL hn rfl ?_|refine sB hL hn rfl ?_);simp only[go_sem,reduceEqDiff,reduceCtorEq,hXl,b1,hxy,aw])|((first|refine sC ?_|refine sH ?_|refine sI ?_|refine sJ ?_);try simp only[ap,aY])|refine sD ?_|refine sE ?_|refine sF rfl ?_|refine sG rfl ?_)
  refine sK hP hL hn rfl rfl (hcl _) rfl rfl rfl rfl ?_;simp (maxSteps:=2000000) only[go_sem,reduceEqDiff,reduceCtorEq]
  repeat(first|((first|refine sA hL hn rfl ?_|refine sB hL hn rfl ?_);simp only[go_sem,CH,Cq,CZ,reduceAdd,reduceEqDiff,reduceIte,reduceSub,Bv,reduceMul,reduceLeDiff,reduceCtorEq])|((first|refine sC ?_|refine sH ?_|refine sI ?_|refine sJ ?_);try simp only[ap])|refine sD ?_|refine sE ?_|refine sF rfl ?_|refine sG rfl ?_)
  exact⟨_,_,_,ai.refl _ _,rfl,ag.refl _ _ _,rfl⟩
 ·rw[show cv bs=([],21) by rw[hn',hS] at hq;simp[cv,hq]]
  refine Ok.thaw (c:=0) (O:=[]) (d:=.tup [.nils,.int .i64 21]) ?_ (.two .nil .int) (by simpa using hlX 0) σ
  have d2:(IntKind.u32.wrap (n:Int) !=S)=true:=by simp[hq]
  refine Ok.of_body ae Try.func69 rfl (by decide) (by simp[Try.ntmps69]) fun C hP hn hσ hfix hdd=>?_
  rw[show Try.f69.ntmps=33 from rfl] at hn
  have hL:af C.P L:=hP▸ae
  have hm:C.P.follows .mixedOrders=true:=hP▸ao
  repeat(first|((first|refine sA hL hn rfl ?_|refine sB hL hn rfl ?_);simp only[go_sem,reduceEqDiff,reduceCtorEq,hXl,w1,m1,mQ])|((first|refine sC ?_|refine sH ?_|refine sI ?_|refine sJ ?_);try simp only[ap,aY,cx,bP,if_true,if_false,reduceEqDiff])|refine sD ?_|refine sE ?_|refine sF rfl ?_|refine sG rfl ?_)
  refine sK hP hL hn rfl rfl (hg) rfl rfl rfl rfl ?_;simp (maxSteps:=2000000) only[go_sem,reduceEqDiff,reduceCtorEq,eN]
  repeat(first|((first|refine sA hL hn rfl ?_|refine sB hL hn rfl ?_);simp only[go_sem,reduceEqDiff,reduceCtorEq,d1,cF,aw,hXl,b1,hxy])|((first|refine sC ?_|refine sH ?_|refine sI ?_|refine sJ ?_);try simp only[ap])|refine sD ?_|refine sE ?_|refine sF rfl ?_|refine sG rfl ?_)
  refine sK hP hL hn rfl rfl (hsum _) rfl rfl rfl rfl ?_;simp (maxSteps:=2000000) only[go_sem,reduceEqDiff,reduceCtorEq,eU,d2]
  repeat(first|((first|refine sA hL hn rfl ?_|refine sB hL hn rfl ?_);simp only[go_sem,reduceEqDiff,reduceCtorEq])|((first|refine sC ?_|refine sH ?_|refine sI ?_|refine sJ ?_);try simp only[ap,aY])|refine sD ?_|refine sE ?_|refine sF rfl ?_|refine sG rfl ?_)
  exact⟨_,_,_,ai.refl _ _,rfl,ag.refl _ _ _,rfl⟩
abbrev It:=Int×Int
def eT (p:It):DV:=.agg [.int .u64 p.1,.int .u64 p.2]
theorem cD (n:Nat) (p:It):Low n (eT p):=by simp[eT,aH,ax]
theorem xr (l:List It):((l.map eT).all fun y=>y.cells.all DV.one)=true:=uc eT (fun _=>rfl) l
theorem iE (n c:Nat) (l:List It):Low n (.vec c 2 (l.map eT)):=j7 n c 2 eT (cD n) l
theorem dL (n c:Nat) (l:List Int):Low n (.vec c 1 (l.map eI)):=j7 n c 1 eI (sR n) l
def jY (c c':Nat) (xs:List It) (ks:List Int):DV:=.agg [.vec c 2 (xs.map eT),.vec c' 1 (ks.map eI)]
def qX (v:Int):List Int→Nat→Int
 | [],_=> -1
 |k::r,i=>if v=k then i else qX v r (i+1)
theorem wT (c:Nat) (ks:List Int) (v:Int) (hl:ks.length≤1048576) (σ:List Ob):Ok Try.prog 96 [.vec c 1 (ks.map eI),.int .i64 v] σ (.ret (.int .i64 (qX v ks 0))) σ:=by
 obtain⟨R,hR⟩:∃R,R=qX v ks 0:=⟨_,rfl⟩
 obtain⟨X,hX⟩:∃X,X=ks.map eI:=⟨_,rfl⟩
 have hXl:X.length=ks.length:=by rw[hX,AN]
 rw[←hR,←hX]
 refine Ok.of_body ae Try.func96 rfl (by decide) (by simp[Try.ntmps96]) fun C hP hn hσ hfix hdd=>?_
 rw[show Try.f96.ntmps=19 from rfl] at hn
 have hL:af C.P L:=hP▸ae
 have hm:C.P.follows .mixedOrders=true:=hP▸ao
 repeat(first|(refine sB hL hn rfl ?_;simp only[go_sem,seval,hXl])|refine sN rfl ?_|refine sC ?_)
 refine SW.lpg (fun k:Nat=>⟨[(0,.vec c 1 X),(1,.int .i64 v),(7,.int .i64 ks.length),(8,.int .i64 k)],σ⟩) (fun k=>ks.length-k) (fun k=>k≤ks.length∧qX v (ks.drop k) k=R) 0 ⟨by omega,hR.symm⟩ (.of rfl (by simp[aC,lk])) ?_
 rintro k ⟨hk,hrest⟩
 by_cases hlt:k<ks.length
 ·have e1:decide ((k:Int)<((ks.length:Nat):Int))=true:=decide_eq_true (by omega)
  have e2:(0≤(k:Int)∧(k:Int)<((X.length:Nat):Int)):=by omega
  obtain⟨p,hp⟩:∃p,p=ks[k]'hlt:=⟨_,rfl⟩
  have e3:X[k]?.getD .undef=.int .i64 p:=by rw[hX,hp];simp[hlt,eI]
  have w1:IntKind.i64.wrap ((k:Int)+1)=((k+1:Nat):Int):=wi (by omega) (by omega)
  rw[BW hlt,←hp] at hrest
  simp only[qX] at hrest
  by_cases hv:v=p
  ·rw[if_pos hv] at hrest
   have d1:(v==p)=true:=by simpa using hv
   repeat(first|(refine sB hL hn rfl ?_;simp only[go_sem,seval,e1,e2,e3,d1])|refine sN rfl ?_|refine sC ?_)
   rw[←hrest]
   exact⟨_,_,_,ai.refl _ _,rfl,ag.refl _ _ _,rfl⟩
  ·rw[if_neg hv] at hrest
   have d1:(v==p)=false:=by simpa using hv
   repeat(first|(refine sB hL hn rfl ?_;simp only[go_sem,seval,e1,e2,e3,d1,w1])|refine sN rfl ?_|refine sC ?_)
   exact Lp.nextg (k+1) ⟨by omega,hrest⟩ (by omega) (.of rfl (by simp[aC,lk]))
 ·have e1:decide ((k:Int)<((ks.length:Nat):Int))=false:=decide_eq_false (by omega)
  rw[Cp (by omega)] at hrest
  simp only[qX] at hrest
  repeat(first|(refine sB hL hn rfl ?_;simp only[go_sem,seval,e1])|refine sN rfl ?_|refine sC ?_)
  rw[←hrest]
  exact⟨_,_,_,ai.refl _ _,rfl,ag.refl _ _ _,rfl⟩
def yH (v:Int) (ks:List Int):Bool:=decide (qX v ks 0≥0)
theorem rv (c:Nat) (ks:List Int) (v:Int) (hl:ks.length≤1048576) (σ:List Ob):Ok Try.prog 88 [.vec c 1 (ks.map eI),.int .i64 v] σ (.ret (.bool (yH v ks))) σ:=by
 have h:=wT c ks v hl
 obtain⟨X,hX⟩:∃X,X=ks.map eI:=⟨_,rfl⟩
 obtain⟨r,hr⟩:∃r,r=qX v ks 0:=⟨_,rfl⟩
 rw[←hX,←hr] at h
 unfold yH
 rw[←hX,←hr]
 refine Ok.of_body ae Try.func88 rfl (by decide) (by simp[Try.ntmps88]) fun C hP hn hσ hfix hdd=>?_
 rw[show Try.f88.ntmps=9 from rfl] at hn
 have hL:af C.P L:=hP▸ae
 have hm:C.P.follows .mixedOrders=true:=hP▸ao
 repeat(first|(refine sB hL hn rfl ?_;simp only[go_sem,seval])|refine sN rfl ?_|refine sC ?_)
 refine sK hP hL hn rfl rfl (h _) rfl rfl rfl rfl ?_;simp (maxSteps:=2000000) only[go_sem,seval]
 repeat(first|(refine sB hL hn rfl ?_;simp only[go_sem,seval])|refine sN rfl ?_|refine sC ?_)
 exact⟨_,_,_,ai.refl _ _,rfl,ag.refl _ _ _,rfl⟩
def gG (xs:List It) (key:Int):Nat:=(xs.filter fun x=>decide (x.1≤key)).length
theorem jK (xs:List It) (key:Int):gG xs key≤xs.length:=List.length_filter_le _ _
theorem ul (xs:List It) (key:Int) (k:Nat) (h:k<xs.length):gG (xs.take (k+1)) key=gG (xs.take k) key+if(xs[k]'h).1≤key then 1 else 0:=by
 unfold gG
 rw[←BN h,List.filter_append,AP]
 congr 1
 simp only[Dw,List.filter_nil]
 by_cases hq:(xs[k]'h).1≤key<;>simp[hq]
theorem vL (c c':Nat) (xs:List It) (ks:List Int) (key:Int) (hl:xs.length≤1048576) (σ:List Ob):Ok Try.prog 41 [jY c c' xs ks,.int .u64 key] σ (.ret (.int .i64 (gG xs key))) σ:=by
 obtain⟨X,hX⟩:∃X,X=xs.map eT:=⟨_,rfl⟩
 have hXl:X.length=xs.length:=by rw[hX,AN]
 obtain⟨Y,hY⟩:∃Y,Y=ks.map eI:=⟨_,rfl⟩
 have hlow:∀m,Low m (.vec c 2 X):=fun m=>by rw[hX];exact iE m c xs
 have hlowY:∀m,Low m (.vec c' 1 Y):=fun m=>by rw[hY];exact dL m c' ks
 unfold jY
 rw[←hX,←hY]
 refine Ok.thaw (c:=0) (O:=[.arr 95 2 [.agg [.vec c 2 X,.vec c' 1 Y]]]) ?_ .int (by simp[aH,ax,hlow,hlowY]) σ
 refine Ok.of_body ae Try.func41 rfl (by decide) (by simp[Try.ntmps41]) fun C hP hn hσ hfix hdd=>?_
 rw[show Try.f41.ntmps=23 from rfl] at hn
 have hL:af C.P L:=hP▸ae
 have hm:C.P.follows .mixedOrders=true:=hP▸ao
 repeat(first|(refine sB hL hn rfl ?_;simp only[go_sem,seval,hXl])|refine sN rfl ?_|refine sC ?_)
 refine SW.lpg (fun k:Nat=>⟨[(1,.int .u64 key),(5,.int .i64 (gG (xs.take k) key)),(9,.vec c 2 X),(10,.int .i64 xs.length),(11,.int .i64 k)],[.arr 95 2 [.agg [.vec c 2 X,.vec c' 1 Y]]]⟩) (fun k=>xs.length-k) (fun k=>k≤xs.length) 0 (by omega) (.of rfl (by simp[aC,lk,gG])) ?_
 intro k hk
 by_cases hlt:k<xs.length
 ·have e1:decide ((k:Int)<((xs.length:Nat):Int))=true:=decide_eq_true (by omega)
  have e2:(0≤(k:Int)∧(k:Int)<((X.length:Nat):Int)):=by omega
  obtain⟨p,hp⟩:∃p,p=xs[k]'hlt:=⟨_,rfl⟩
  obtain⟨p1,p2⟩:=p
  have e3:X[k]?.getD .undef=.agg [.int .u64 p1,.int .u64 p2]:=by rw[hX];simp[hlt,eT,←hp]
  have w1:IntKind.i64.wrap ((k:Int)+1)=((k+1:Nat):Int):=wi (by omega) (by omega)
  have hw:=ul xs key k hlt
  rw[←hp] at hw
  have hle:=jK (xs.take k) key
  rw[Bi] at hle
  by_cases hv:p1≤key
  ·have d1:decide (p1≤key)=true:=decide_eq_true hv
   simp only[hv,if_true] at hw
   have w2:IntKind.i64.wrap (((gG (xs.take k) key:Nat):Int)+1)=((gG (xs.take (k+1)) key:Nat):Int):=wi (by omega) (by omega)
   repeat(first|(refine sB hL hn rfl ?_;simp only[go_sem,seval,e1,e2,e3,d1,w2,w1])|refine sN rfl ?_|refine sC ?_)
   refine Lp.nextg (k+1) (by omega) (by omega) ?_
   exact ai.keep (σ:=[]) 1 _ hσ hfix (by simp[aC,lk]) (by simp[ax,eZ,hlow]) (by simp[aH,g7,cl,hlow,hlowY]) (by simp[ax,aH,cl,cb,ig])
  ·have d1:decide (p1≤key)=false:=decide_eq_false hv
   simp only[hv,if_false] at hw
   repeat(first|(refine sB hL hn rfl ?_;simp only[go_sem,seval,e1,e2,e3,d1,w1])|refine sN rfl ?_|refine sC ?_)
   refine Lp.nextg (k+1) (by omega) (by omega) ?_
   exact ai.keep (σ:=[]) 1 _ hσ hfix (by simp[aC,lk,hw]) (by simp[ax,eZ,hlow]) (by simp[aH,g7,cl,hlow,hlowY]) (by simp[ax,aH,cl,cb,ig])
 ·have e1:decide ((k:Int)<((xs.length:Nat):Int))=false:=decide_eq_false (by omega)
  obtain rfl:k=xs.length:=by omega
  rw[Co]
  repeat(first|(refine sB hL hn rfl ?_;simp only[go_sem,seval,e1])|refine sN rfl ?_|refine sC ?_)
  exact⟨_,_,_,ai.refl _ _,rfl,ag.refl _ _ _,rfl⟩
def di75_7:List DI:=[⟨[4],[],false,[0],some 39,[]⟩,⟨[39],[0],false,[0],some 40,[0]⟩,⟨[40],[0,1],false,[0],some 41,[1]⟩,⟨[5,41],[0,1,2],false,[0],some 42,[2]⟩,⟨[41,42],rg 0 4,false,[0],some 43,[3,2]⟩,⟨[1,41],[0,1,2],false,[0],some 44,[2]⟩,⟨[41,44],[0,1,2,5],false,[0],some 45,[5,2]⟩,⟨[4,41],[0,1,2],false,[0],some 46,[2]⟩,⟨[41,46],[0,1,2,7],false,[0],some 47,[7,2]⟩,⟨[41,45,47],([0,1,2]++rg 5 4),false,[0],some 48,[6,8,2]⟩,⟨[41,48],([0,1,2]++rg 5 5),false,[0],some 49,[9,2]⟩,⟨[41,49],([0,1,2]++rg 5 6),false,[0],some 50,[10,2]⟩,⟨[41,43,50],rg 0 12,false,[0],some 51,[4,11,2]⟩,⟨[41,51],rg 0 13,false,[0],some 52,[2,12]⟩,⟨[52],rg 0 14,false,[0],some 53,[13,2]⟩,⟨[1,53],rg 0 15,false,[0],some 54,[14]⟩,⟨[53,54],rg 0 16,false,[0],some 55,[15,14]⟩,⟨[53,55],rg 0 17,false,[0],some 56,[16,14]⟩,⟨[53,56],rg 0 18,false,[0],some 57,[17,14]⟩,⟨[53,57],rg 0 19,false,[0],some 58,[18,14,14]⟩,⟨[5,58],rg 0 20,false,[0],some 59,[19]⟩,⟨[58,59],rg 0 21,false,[0],some 60,[20,19]⟩,⟨[58,60],rg 0 22,false,[0],some 61,[21,19]⟩,⟨[53,58,61],rg 0 23,false,[0],some 62,[19,22,14]⟩,⟨[53,62],rg 0 24,false,[0],some 63,[14,23]⟩]
def s6 (hk:Bool):Option Int→List It→Bool
 |_,[]=>true
 |p,x::r=>if(p.any fun y=>decide (x.1≤y))=true∨(hk=true∧x.2>0) then false else s6 hk (some x.1) r
def pH:List Int→List Int→Bool
 |_,[]=>true
 |s,k::r=>if k<1∨k>2048∨yH k s=true then false else pH (s++[k]) r
def bM (xs:List It) (ks:List Int):Int:=
 if xs.length<1∨3<xs.length∨(0<ks.length∧ks.length≠xs.length+1) then 9 else if s6 (decide (0<ks.length)) none xs=true∧pH [] ks=true then 0 else 9
theorem rB{xs:List It}{ks:List Int} (h:bM xs ks=0):1≤xs.length∧xs.length≤3∧(ks.length=0∨ks.length=xs.length+1):=by
 unfold bM at h
 split at h
 ·cases h
 ·omega
def mD (xs:List It) (k:Nat):Option Int:=if k=0 then none else(xs[k-1]?).map (·.1)
theorem pp (c c':Nat) (xs:List It) (ks:List Int) (hl:xs.length≤1048576) (hkl:ks.length≤1048576) (σ:List Ob):Ok Try.prog 75 [jY c c' xs ks] σ (.ret (.int .i64 (bM xs ks))) σ:=by
 obtain⟨X,hX⟩:∃X,X=xs.map eT:=⟨_,rfl⟩
 have hXl:X.length=xs.length:=by rw[hX,AN]
 obtain⟨Y,hY⟩:∃Y,Y=ks.map eI:=⟨_,rfl⟩
 have hYl:Y.length=ks.length:=by rw[hY,AN]
 have hlow:∀m,Low m (.vec c 2 X):=fun m=>by rw[hX];exact iE m c xs
 have hlowY:∀m,Low m (.vec c' 1 Y):=fun m=>by rw[hY];exact dL m c' ks
 unfold jY
 rw[←hX,←hY]
 obtain⟨N,hN⟩:∃N,N=Ob.arr 95 2 [.agg [.vec c 2 X,.vec c' 1 Y]]:=⟨_,rfl⟩
 have hNl:cl 1 N:=by rw[hN];simp[aH,cl,hlow,hlowY]
 refine OkE.ok (Q:=fun o σ'=>o=.ret (.int .i64 (bM xs ks))∧σ'=σ) ?_ (fun o σ' h=>h)
 refine(OkE.thaw (c:=0) (R:=fun D=>D=.int .i64 (bM xs ks)) ?_ (by simp[aH,hlow,hlowY]) σ).mono fun o σ' ⟨e,D',e1,e2⟩=>⟨by rw[e1,e2],e⟩
 refine OkE.of_body ae Try.func75 rfl (by decide) (by simp[Try.ntmps75]) fun C hP hn hσ hfix hdd=>?_
 rw[show Try.f75.ntmps=88 from rfl] at hn
 have hL:af C.P L:=hP▸ae
 have hm:C.P.follows .mixedOrders=true:=hP▸ao
 by_cases b1:xs.length<1
 ·have d1:decide (((xs.length:Nat):Int)<1)=true:=decide_eq_true (by omega)
  rw[show bM xs ks=9 by simp[bM,b1]]
  repeat(first|(refine sB hL hn rfl ?_;simp only[go_sem,seval,hXl,d1])|refine sN rfl ?_|refine sC ?_)
  refine⟨_,[.arr 95 2 [.agg [.vec c 2 X,.vec c' 1 Y]]],⟨_,_,rfl,.int,rfl⟩,?_⟩
  exact⟨_,_,_,ai.refl _ _,rfl,ag.refl _ _ _,rfl⟩
 have d1:decide (((xs.length:Nat):Int)<1)=false:=decide_eq_false (by omega)
 by_cases b2:3<xs.length
 ·have d2:decide (((xs.length:Nat):Int)>3)=true:=decide_eq_true (by omega)
  rw[show bM xs ks=9 by simp[bM,b2]]
  repeat(first|(refine sB hL hn rfl ?_;simp only[go_sem,seval,hXl,d1,d2])|refine sN rfl ?_|refine sC ?_)
  refine⟨_,[.arr 95 2 [.agg [.vec c 2 X,.vec c' 1 Y]]],⟨_,_,rfl,.int,rfl⟩,?_⟩
  exact⟨_,_,_,ai.refl _ _,rfl,ag.refl _ _ _,rfl⟩
 have d2:decide (((xs.length:Nat):Int)>3)=false:=decide_eq_false (by omega)
 have w0:IntKind.i64.wrap (((xs.length:Nat):Int)+1)=((xs.length+1:Nat):Int):=wi (by omega) (by omega)
 have hfirst:(0<ks.length∧ks.length≠xs.length+1)∨(decide (((ks.length:Nat):Int)>0)=true∧(((ks.length:Nat):Int) !=((xs.length+1:Nat):Int))=false)∨decide (((ks.length:Nat):Int)>0)=false:=by
  by_cases h:0<ks.length
  ·by_cases h2:ks.length=xs.length+1
   ·exact .inr (.inl ⟨decide_eq_true (by omega),by simp;omega⟩)
   ·exact .inl ⟨h,h2⟩
  ·exact .inr (.inr (decide_eq_false (by omega)))
 rcases hfirst with h|h|h
 ·have d3:decide (((ks.length:Nat):Int)>0)=true:=decide_eq_true (by omega)
  have d4:(((ks.length:Nat):Int) !=((xs.length+1:Nat):Int))=true:=by simp;omega
  rw[show bM xs ks=9 by unfold bM;rw[if_pos (.inr (.inr h))]]
  repeat(first|(refine sB hL hn rfl ?_;simp only[go_sem,seval,hXl,hYl,d1,d2,d3,w0,d4])|refine sN rfl ?_|refine sC ?_)
  refine⟨_,[.arr 95 2 [.agg [.vec c 2 X,.vec c' 1 Y]]],⟨_,_,rfl,.int,rfl⟩,?_⟩
  exact⟨_,_,_,ai.refl _ _,rfl,ag.refl _ _ _,rfl⟩
 rotate_left
 repeat(first|(refine sB hL hn rfl ?_;simp only[go_sem,seval,hXl,hYl,d1,d2,h])|refine sN rfl ?_|refine sC ?_)
 rotate_left
 repeat(first|(refine sB hL hn rfl ?_;simp only[go_sem,seval,hXl,hYl,d1,d2,h.1,w0,h.2])|refine sN rfl ?_|refine sC ?_)
 all_goals
  have hcf:bM xs ks=if s6 (decide (0<ks.length)) none xs=true∧pH [] ks=true then 0 else 9:=by
   unfold bM
   rw[if_neg]
   rintro(e|e|⟨e1,e2⟩)
   ·exact b1 e
   ·exact b2 e
   ·first|(have:=of_decide_eq_false h;omega)|(have:=h.2;simp at this;omega)
  rw[hcf]
  obtain⟨kb,hkb⟩:∃kb,kb=decide (0<ks.length):=⟨_,rfl⟩
  obtain⟨r1,hr1⟩:∃r1,r1=s6 kb none xs:=⟨_,rfl⟩
  obtain⟨r2,hr2⟩:∃r2,r2=pH [] ks:=⟨_,rfl⟩
  rw[←hkb,←hr1,←hr2]
  have dk:decide (((ks.length:Nat):Int)>0)=kb:=by rw[hkb];simp
  clear hcf h
  clear hkb
  refine SW.lpg (fun k:Nat=>⟨[(1,.ptr 0 1 0 0),(32,.vec c 2 X),(33,.int .i64 xs.length),(34,.int .i64 k)],[N]⟩) (fun k=>xs.length-k) (fun k=>k≤xs.length∧s6 kb (mD xs k) (xs.drop k)=r1) 0 ⟨by omega,hr1.symm⟩ ?_ ?_
  ·exact .of (by rw[hN]) (by simp[aC,lk])
  rintro k ⟨hk,hrest⟩
  by_cases hlt:k<xs.length
  ·have e1:decide ((k:Int)<((xs.length:Nat):Int))=true:=decide_eq_true (by omega)
   have e2:(0≤(k:Int)∧(k:Int)<((X.length:Nat):Int)):=by omega
   obtain⟨p,hp⟩:∃p,p=xs[k]'hlt:=⟨_,rfl⟩
   obtain⟨p1,p2⟩:=p
   have e3:X[k]?.getD .undef=.agg [.int .u64 p1,.int .u64 p2]:=by rw[hX];simp[hlt,eT,←hp]
   have w1:IntKind.i64.wrap ((k:Int)+1)=((k+1:Nat):Int):=wi (by omega) (by omega)
   have hpn:mD xs (k+1)=some p1:=by simp[mD,hlt,←hp]
   rw[BW hlt,←hp] at hrest
   simp only[s6] at hrest
   rw[hN]
   repeat(first|(refine sB hL hn rfl ?_;simp only[go_sem,seval,e1,e2,e3])|refine sN rfl ?_|refine sC ?_)
   have next:∀{env:List (Nat×DV)}{q:List Ob},aC env [(1,.ptr 0 1 0 0),(32,.vec c 2 X),(33,.int .i64 xs.length),(34,.int .i64 ((k+1:Nat):Int))]→cb 1 q→ai C ⟨env,Ob.arr 95 2 [.agg [.vec c 2 X,.vec c' 1 Y]]::q⟩ ⟨[(1,.ptr 0 1 0 0),(32,.vec c 2 X),(33,.int .i64 xs.length),(34,.int .i64 ((k+1:Nat):Int))],[Ob.arr 95 2 [.agg [.vec c 2 X,.vec c' 1 Y]]]⟩:=by
    intro env q hag hq
    have:=ai.keep (C:=C) (σ:=[]) (X:=Ob.arr 95 2 [.agg [.vec c 2 X,.vec c' 1 Y]]::q) 1 _ hσ hfix hag (by simp[ax,fm,eZ,hlow]) (by simp[aH,g7,cl,hlow,hlowY]) hq
    exact this
   by_cases hk0:k=0
   ·have d5:decide ((k:Int)>0)=false:=decide_eq_false (by omega)
    have hp0:mD xs k=none:=by simp[mD,hk0]
    rw[hp0] at hrest
    simp only[Option.any_none,Bb,false_or] at hrest
    cases kb
    ·rw[if_neg (by simp)] at hrest
     refine(?_:SW C _ _ _);first|refine sL hL hm hn di75_7 [[Ob.arr 95 2 [.agg [.vec c 2 X,.vec c' 1 Y]],.arr 27 2 [.agg [.int .u64 p1,.int .u64 p2]]]] rfl rfl rfl ?_|refine sM hL hm hn di75_7 [[Ob.arr 95 2 [.agg [.vec c 2 X,.vec c' 1 Y]],.arr 27 2 [.agg [.int .u64 p1,.int .u64 p2]]]] rfl rfl rfl ?_
     unfold di75_7
     repeat(rw[ah];simp (maxSteps:=2000000) only[go_sem,seval,hYl,dk,d5])
     try rw[aj]
     try simp only[go_sem,seval]
     repeat(first|(refine sB hL hn rfl ?_;simp only[go_sem,seval,w1])|refine sN rfl ?_|refine sC ?_)
     refine Lp.nextg (k+1) ⟨by omega,by rw[hpn];exact hrest⟩ (by omega) ?_
     refine next ?_ ?_
     ·simp[aC,lk]
     ·simp[ax,aH,cl,cb,ig]
    ·by_cases hv:p2>0
     ·have d6:decide (p2>0)=true:=decide_eq_true hv
      rw[if_pos ⟨rfl,hv⟩] at hrest
      refine(?_:SW C _ _ _);first|refine sL hL hm hn di75_7 [[Ob.arr 95 2 [.agg [.vec c 2 X,.vec c' 1 Y]],.arr 27 2 [.agg [.int .u64 p1,.int .u64 p2]]]] rfl rfl rfl ?_|refine sM hL hm hn di75_7 [[Ob.arr 95 2 [.agg [.vec c 2 X,.vec c' 1 Y]],.arr 27 2 [.agg [.int .u64 p1,.int .u64 p2]]]] rfl rfl rfl ?_
      unfold di75_7
      repeat(rw[ah];simp (maxSteps:=2000000) only[go_sem,seval,hYl,dk,d5,d6])
      try rw[aj]
      try simp only[go_sem,seval]
      repeat(first|(refine sB hL hn rfl ?_;simp only[go_sem,seval])|refine sN rfl ?_|refine sC ?_)
      rw[←hrest,if_neg (by simp)]
      refine⟨_,[.arr 95 2 [.agg [.vec c 2 X,.vec c' 1 Y]],.arr 27 2 [.agg [.int .u64 p1,.int .u64 p2]]],⟨_,_,rfl,.int,rfl⟩,?_⟩
      exact⟨_,_,_,ai.refl _ _,rfl,ag.refl _ _ _,rfl⟩
     ·have d6:decide (p2>0)=false:=decide_eq_false hv
      rw[if_neg (fun e=>hv e.2)] at hrest
      refine(?_:SW C _ _ _);first|refine sL hL hm hn di75_7 [[Ob.arr 95 2 [.agg [.vec c 2 X,.vec c' 1 Y]],.arr 27 2 [.agg [.int .u64 p1,.int .u64 p2]]]] rfl rfl rfl ?_|refine sM hL hm hn di75_7 [[Ob.arr 95 2 [.agg [.vec c 2 X,.vec c' 1 Y]],.arr 27 2 [.agg [.int .u64 p1,.int .u64 p2]]]] rfl rfl rfl ?_
      unfold di75_7
      repeat(rw[ah];simp (maxSteps:=2000000) only[go_sem,seval,hYl,dk,d5,d6])
      try rw[aj]
      try simp only[go_sem,seval]
      repeat(first|(refine sB hL hn rfl ?_;simp only[go_sem,seval,w1])|refine sN rfl ?_|refine sC ?_)
      refine Lp.nextg (k+1) ⟨by omega,by rw[hpn];exact hrest⟩ (by omega) ?_
      refine next ?_ ?_
      ·simp[aC,lk]
      ·simp[ax,aH,cl,cb,ig]
   ·have d5:decide ((k:Int)>0)=true:=decide_eq_true (by omega)
    obtain⟨o,ho⟩:∃o,o=xs[k-1]'(by omega):=⟨_,rfl⟩
    obtain⟨o1,o2⟩:=o
    have hp0:mD xs k=some o1:=by simp[mD,hk0,show k-1<xs.length by omega,←ho]
    have w2:IntKind.i64.wrap ((k:Int)-1)=((k-1:Nat):Int):=wi (by omega) (by omega)
    have e4:(0≤((k-1:Nat):Int)∧((k-1:Nat):Int)<((X.length:Nat):Int)):=by omega
    have e5:X[k-1]?.getD .undef=.agg [.int .u64 o1,.int .u64 o2]:=by rw[hX];simp[show k-1<xs.length by omega,eT,←ho]
    obtain⟨q,hq⟩:∃q,q=k-1:=⟨_,rfl⟩
    rw[←hq] at w2 e4 e5
    rw[hp0] at hrest
    simp only[Option.any_some,decide_eq_true_eq] at hrest
    by_cases hle:p1≤o1
    ·have d7:decide (p1≤o1)=true:=decide_eq_true hle
     rw[if_pos (.inl hle)] at hrest
     refine(?_:SW C _ _ _);first|refine sL hL hm hn di75_7 [[Ob.arr 95 2 [.agg [.vec c 2 X,.vec c' 1 Y]],.arr 27 2 [.agg [.int .u64 p1,.int .u64 p2]]]] rfl rfl rfl ?_|refine sM hL hm hn di75_7 [[Ob.arr 95 2 [.agg [.vec c 2 X,.vec c' 1 Y]],.arr 27 2 [.agg [.int .u64 p1,.int .u64 p2]]]] rfl rfl rfl ?_
     unfold di75_7
     repeat(rw[ah];simp (maxSteps:=2000000) only[go_sem,seval,d5,w2,e4,e5,d7])
     try rw[aj]
     try simp only[go_sem,seval]
     repeat(first|(refine sB hL hn rfl ?_;simp only[go_sem,seval])|refine sN rfl ?_|refine sC ?_)
     rw[←hrest,if_neg (by simp)]
     refine⟨_,[.arr 95 2 [.agg [.vec c 2 X,.vec c' 1 Y]],.arr 27 2 [.agg [.int .u64 p1,.int .u64 p2]]],⟨_,_,rfl,.int,rfl⟩,?_⟩
     exact⟨_,_,_,ai.refl _ _,rfl,ag.refl _ _ _,rfl⟩
    ·have d7:decide (p1≤o1)=false:=decide_eq_false hle
     cases kb
     ·rw[if_neg (by simp[hle])] at hrest
      refine(?_:SW C _ _ _);first|refine sL hL hm hn di75_7 [[Ob.arr 95 2 [.agg [.vec c 2 X,.vec c' 1 Y]],.arr 27 2 [.agg [.int .u64 p1,.int .u64 p2]]]] rfl rfl rfl ?_|refine sM hL hm hn di75_7 [[Ob.arr 95 2 [.agg [.vec c 2 X,.vec c' 1 Y]],.arr 27 2 [.agg [.int .u64 p1,.int .u64 p2]]]] rfl rfl rfl ?_
      unfold di75_7
      repeat(rw[ah];simp (maxSteps:=2000000) only[go_sem,seval,hYl,dk,d5,w2,e4,e5,d7])
      try rw[aj]
      try simp only[go_sem,seval]
      repeat(first|(refine sB hL hn rfl ?_;simp only[go_sem,seval,w1])|refine sN rfl ?_|refine sC ?_)
      refine Lp.nextg (k+1) ⟨by omega,by rw[hpn];exact hrest⟩ (by omega) ?_
      refine next ?_ ?_
      ·simp[aC,lk]
      ·simp[ax,aH,cl,cb,ig]
     ·by_cases hv:p2>0
      ·have d6:decide (p2>0)=true:=decide_eq_true hv
       rw[if_pos (.inr ⟨rfl,hv⟩)] at hrest
       refine(?_:SW C _ _ _);first|refine sL hL hm hn di75_7 [[Ob.arr 95 2 [.agg [.vec c 2 X,.vec c' 1 Y]],.arr 27 2 [.agg [.int .u64 p1,.int .u64 p2]]]] rfl rfl rfl ?_|refine sM hL hm hn di75_7 [[Ob.arr 95 2 [.agg [.vec c 2 X,.vec c' 1 Y]],.arr 27 2 [.agg [.int .u64 p1,.int .u64 p2]]]] rfl rfl rfl ?_
       unfold di75_7
       repeat(rw[ah];simp (maxSteps:=2000000) only[go_sem,seval,hYl,dk,d5,w2,e4,e5,d7,d6])
       try rw[aj]
       try simp only[go_sem,seval]
       repeat(first|(refine sB hL hn rfl ?_;simp only[go_sem,seval])|refine sN rfl ?_|refine sC ?_)
       rw[←hrest,if_neg (by simp)]
       refine⟨_,[.arr 95 2 [.agg [.vec c 2 X,.vec c' 1 Y]],.arr 27 2 [.agg [.int .u64 p1,.int .u64 p2]]],⟨_,_,rfl,.int,rfl⟩,?_⟩
       exact⟨_,_,_,ai.refl _ _,rfl,ag.refl _ _ _,rfl⟩
      ·have d6:decide (p2>0)=false:=decide_eq_false hv
       rw[if_neg (by simp[hle,hv])] at hrest
       refine(?_:SW C _ _ _);first|refine sL hL hm hn di75_7 [[Ob.arr 95 2 [.agg [.vec c 2 X,.vec c' 1 Y]],.arr 27 2 [.agg [.int .u64 p1,.int .u64 p2]]]] rfl rfl rfl ?_|refine sM hL hm hn di75_7 [[Ob.arr 95 2 [.agg [.vec c 2 X,.vec c' 1 Y]],.arr 27 2 [.agg [.int .u64 p1,.int .u64 p2]]]] rfl rfl rfl ?_
       unfold di75_7
       repeat(rw[ah];simp (maxSteps:=2000000) only[go_sem,seval,hYl,dk,d5,w2,e4,e5,d7,d6])
       try rw[aj]
       try simp only[go_sem,seval]
       repeat(first|(refine sB hL hn rfl ?_;simp only[go_sem,seval,w1])|refine sN rfl ?_|refine sC ?_)
       refine Lp.nextg (k+1) ⟨by omega,by rw[hpn];exact hrest⟩ (by omega) ?_
       refine next ?_ ?_
       ·simp[aC,lk]
       ·simp[ax,aH,cl,cb,ig]
  ·have e1:decide ((k:Int)<((xs.length:Nat):Int))=false:=decide_eq_false (by omega)
   rw[Cp (by omega)] at hrest
   simp only[s6] at hrest
   rw[←hrest,hN]
   repeat(first|(refine sB hL hn rfl ?_;simp only[go_sem,seval,e1,hYl])|refine sN rfl ?_|refine sC ?_)
   refine SW.lpg (fun k:Nat=>⟨[(1,.ptr 0 1 0 0),(66,.vec c' 1 Y),(67,.int .i64 ks.length),(68,.int .i64 k)],[N]⟩) (fun k=>ks.length-k) (fun k=>k≤ks.length∧pH (ks.take k) (ks.drop k)=r2) 0 ⟨by omega,hr2.symm⟩ ?_ ?_
   ·exact .of (by rw[hN]) (by simp[aC,lk])
   rintro k ⟨hk,hrest⟩
   by_cases hlt:k<ks.length
   ·have e1:decide ((k:Int)<((ks.length:Nat):Int))=true:=decide_eq_true (by omega)
    have e2:(0≤(k:Int)∧(k:Int)<((Y.length:Nat):Int)):=by omega
    obtain⟨p,hp⟩:∃p,p=ks[k]'hlt:=⟨_,rfl⟩
    have e3:Y[k]?.getD .undef=.int .i64 p:=by rw[hY];simp[hlt,eI,←hp]
    have w1:IntKind.i64.wrap ((k:Int)+1)=((k+1:Nat):Int):=wi (by omega) (by omega)
    have hcon:=rv c' (ks.take k) p (by simp;omega)
    have hty:(ks.take k).map eI=Y.take k:=by rw[hY,Dy]
    rw[hty] at hcon
    have bk:au (some (.int .i64 (k:Int))) Y.length Y.length=some k:=az (by omega)
    have htk:ks.take k++[p]=ks.take (k+1):=by rw[hp];exact BN hlt
    rw[BW hlt,←hp] at hrest
    simp only[pH] at hrest
    obtain⟨hb,hhb⟩:∃hb,hb=yH p (ks.take k):=⟨_,rfl⟩
    rw[←hhb] at hrest hcon
    rw[hN]
    by_cases h1:p<1
    ·have d5:decide (p<1)=true:=decide_eq_true h1
     rw[if_pos (.inl h1)] at hrest
     repeat(first|(refine sB hL hn rfl ?_;simp only[go_sem,seval,e1,e2,e3,d5])|refine sN rfl ?_|refine sC ?_)
     rw[←hrest,if_neg (by simp)]
     refine⟨_,[.arr 95 2 [.agg [.vec c 2 X,.vec c' 1 Y]]],⟨_,_,rfl,.int,rfl⟩,?_⟩
     exact⟨_,_,_,ai.refl _ _,rfl,ag.refl _ _ _,rfl⟩
    ·have d5:decide (p<1)=false:=decide_eq_false h1
     by_cases h2:p>2048
     ·have d6:decide (p>2048)=true:=decide_eq_true h2
      rw[if_pos (.inr (.inl h2))] at hrest
      repeat(first|(refine sB hL hn rfl ?_;simp only[go_sem,seval,e1,e2,e3,d5,d6])|refine sN rfl ?_|refine sC ?_)
      rw[←hrest,if_neg (by simp)]
      refine⟨_,[.arr 95 2 [.agg [.vec c 2 X,.vec c' 1 Y]]],⟨_,_,rfl,.int,rfl⟩,?_⟩
      exact⟨_,_,_,ai.refl _ _,rfl,ag.refl _ _ _,rfl⟩
     ·have d6:decide (p>2048)=false:=decide_eq_false h2
      repeat(first|(refine sB hL hn rfl ?_;simp only[go_sem,seval,e1,e2,e3,d5,d6,aw,bk,Ch])|refine sN rfl ?_|refine sC ?_)
      refine sK hP hL hn rfl rfl (hcon _) rfl rfl rfl rfl ?_;simp (maxSteps:=2000000) only[go_sem,seval]
      cases hb
      ·rw[if_neg (by simp[h1,h2])] at hrest
       repeat(first|(refine sB hL hn rfl ?_;simp only[go_sem,seval,w1])|refine sN rfl ?_|refine sC ?_)
       rw[htk] at hrest
       refine Lp.nextg (k+1) ⟨by omega,hrest⟩ (by omega) ?_
       exact .of rfl (by simp[aC,lk])
      ·rw[if_pos (.inr (.inr rfl))] at hrest
       repeat(first|(refine sB hL hn rfl ?_;simp only[go_sem,seval])|refine sN rfl ?_|refine sC ?_)
       rw[←hrest,if_neg (by simp)]
       refine⟨_,[.arr 95 2 [.agg [.vec c 2 X,.vec c' 1 Y]]],⟨_,_,rfl,.int,rfl⟩,?_⟩
       exact⟨_,_,_,ai.refl _ _,rfl,ag.refl _ _ _,rfl⟩
   ·have e1:decide ((k:Int)<((ks.length:Nat):Int))=false:=decide_eq_false (by omega)
    rw[Cp (by omega)] at hrest
    simp only[pH] at hrest
    rw[←hrest,hN]
    repeat(first|(refine sB hL hn rfl ?_;simp only[go_sem,seval,e1])|refine sN rfl ?_|refine sC ?_)
    refine⟨_,[.arr 95 2 [.agg [.vec c 2 X,.vec c' 1 Y]]],⟨_,_,rfl,.int,rfl⟩,?_⟩
    exact⟨_,_,_,ai.refl _ _,rfl,ag.refl _ _ _,rfl⟩
end Go.VL
