/- Proved: TreeOwn: whatever tree, root and item come in (together of bulk at most 1048576), the call returns true and they read as they did; no other condition. This text is part 3 of 18. -/
import Derived.Test.YtghomgiklhbjiaaW02
import Derived.Laws.Bits64
import Derived.Laws.BitsAllLaws
set_option linter.unusedSimpArgs false
set_option linter.unusedVariables false
open List renaming all_cons → Cv,all_eq_true → AS,append_assoc → AR,drop_zero → Ch,getElem?_cons_zero → AY,getElem?_eq_some_iff → AH,length_append → AP,length_cons → A5,length_drop → BP,length_take → Bi,map_cons → Bf,map_inj_right → DM,map_nil → BQ,mem_append → BT,mem_map → Ba,mem_of_getElem? → AM,mem_of_mem_drop → By,mem_of_mem_take → Bz,mem_or_eq_of_mem_set → C9,mem_replicate → BK,range → Bs,range' → Dz,range'_succ → DP,range_eq_range' → DA,rec → Cb,replicate → AO,take_length → Co
open Nat renaming add → CV,beq → A4,ble → BR,eq_of_beq_eq_true → Ct,le_trans → Bl,min_eq_left → BE,mod_eq_of_lt → CK,sub → DT,succ → B0
open Option renaming map_some → AW,some → AX
open Int renaming fdiv_eq_ediv_of_nonneg → DL,natCast_nonneg → CD,ofNat → C8,ofNat_le → DG
open Bool renaming false_eq_true → Bb
namespace Go.VL
open Go
noncomputable section
@[reducible] def bx{α:Type} (b:Bool) (t e:α):α:= @Bool.rec (fun _=>α) e t b
theorem a7{α:Type} (b:Bool) (t e:α):bx b t e=if b=true then t else e:=by cases b<;>rfl
def lkb (e:List (Nat×DV)) (t:Nat):DV:= @Cb (Nat×DV) (fun _=>DV) .undef (fun p _ ih=>bx (A4 p.1 t) p.2 ih) e
theorem aN{α:Type} (a b:Nat) (t e:α):bx (A4 a b) t e=if a=b then t else e:=by
 rw[a7]
 by_cases h:a=b
 ·rw[if_pos h,if_pos (by rw[h];exact Nat.beq_refl b)]
 ·rw[if_neg h,if_neg (fun e=>h (Ct e))]
theorem cS (e:List (Nat×DV)) (t:Nat):lkb e t=lk e t:=by
 induction e with
 |nil=>rfl
 |cons p r ih=>
  obtain⟨s,d⟩:=p
  show bx (A4 s t) d (lkb r t)=_
  rw[aN,ih]
  rfl
def upb (e:List (Nat×DV)) (t:Nat) (d:DV):List (Nat×DV):= @Cb (Nat×DV) (fun _=>List (Nat×DV)) [(t,d)] (fun p r ih=>bx (A4 p.1 t) ((t,d)::r) (p::ih)) e
theorem l8 (e:List (Nat×DV)) (t:Nat) (d:DV):upb e t d=up e t d:=by
 induction e with
 |nil=>rfl
 |cons p r ih=>
  obtain⟨s,x⟩:=p
  show bx (A4 s t) ((t,d)::r) ((s,x)::upb r t d)=_
  rw[aN,ih]
  rfl
def nth{α:Type} (l:List α):Nat→Option α:= @Cb α (fun _=>Nat→Option α) (fun _=>none) (fun x _ ih j=>bx (A4 j 0) (some x) (ih (DT j 1))) l
theorem gZ{α:Type} (l:List α):∀j,nth l j=l[j]?:=by
 induction l with
 |nil=>intro j;simp[nth]
 |cons x r ih=>
  intro j
  show bx (A4 j 0) (some x) (nth r (j-1))=_
  rw[aN,ih]
  cases j<;>simp
def xO{α:Type} (l:List α):Nat→α→List α:= @Cb α (fun _=>Nat→α→List α) (fun _ _=> []) (fun x r ih j a=>bx (A4 j 0) (a::r) (x::ih (DT j 1) a)) l
theorem xN{α:Type} (l:List α):∀j a,xO l j a=l.set j a:=by
 induction l with
 |nil=>intro j a;simp[xO]
 |cons x r ih=>
  intro j a
  show bx (A4 j 0) (a::r) (x::xO r (j-1) a)=_
  rw[aN,ih]
  cases j<;>simp
def len{α:Type} (l:List α):Nat:= @Cb α (fun _=>Nat) 0 (fun _ _ ih=>B0 ih) l
theorem dB{α:Type} (l:List α):len l=l.length:=by
 induction l with
 |nil=>rfl
 |cons x r ih=>show len r+1=_;rw[ih];rfl
def iW{α:Type} (n:Nat) (l:List α):List α:= @Cb α (fun _=>Nat→List α) (fun _=> []) (fun x r ih j=>bx (A4 j 0) (x::r) (ih (DT j 1))) l n
theorem ik{α:Type} (l:List α):∀n,iW n l=l.drop n:=by
 induction l with
 |nil=>intro n;simp[iW]
 |cons x r ih=>
  intro n
  show bx (A4 n 0) (x::r) (iW (n-1) r)=_
  rw[aN,ih]
  cases n<;>simp
def gy{α:Type} (n:Nat) (l:List α):List α:= @Cb α (fun _=>Nat→List α) (fun _=> []) (fun x _ ih j=>bx (A4 j 0) [] (x::ih (DT j 1))) l n
theorem gL{α:Type} (l:List α):∀n,gy n l=l.take n:=by
 induction l with
 |nil=>intro n;simp[gy]
 |cons x r ih=>
  intro n
  show bx (A4 n 0) [] (x::gy (n-1) r)=_
  rw[aN,ih]
  cases n<;>simp
inductive Tr (α:Type) where
 |e
 |n (o:α) (l r:Tr α)
def Tr.get{α:Type} (t:Tr α):Nat→Option α:= @Tr.rec α (fun _=>Nat→Option α) (fun _=>none) (fun o _ _ gl gr i=>bx (A4 i 0) (some o) (bx (A4 (Nat.mod i 2) 1) (gl (Nat.div i 2)) (gr (DT (Nat.div i 2) 1)))) t
def Tr.put{α:Type} (t:Tr α):Nat→α→Tr α:= @Tr.rec α (fun _=>Nat→α→Tr α) (fun _ o=>.n o .e .e) (fun o l r gl gr i x=>bx (A4 i 0) (.n x l r) (bx (A4 (Nat.mod i 2) 1) (.n o (gl (Nat.div i 2) x) r) (.n o l (gr (DT (Nat.div i 2) 1) x)))) t
theorem Tr.get_n{α:Type} (o:α) (l r:Tr α) (i:Nat):(Tr.n o l r).get i=if i=0 then some o else if i%2=1 then l.get (i/2) else r.get (i/2-1):=by
 show bx (A4 i 0) (some o) (bx (A4 (i%2) 1) (l.get (i/2)) (r.get (i/2-1)))=_
 rw[aN,aN]
theorem Tr.put_n{α:Type} (o:α) (l r:Tr α) (i:Nat) (x:α):(Tr.n o l r).put i x=if i=0 then .n x l r else if i%2=1 then .n o (l.put (i/2) x) r else .n o l (r.put (i/2-1) x):=by
 show bx (A4 i 0) (Tr.n x l r) (bx (A4 (i%2) 1) (Tr.n o (l.put (i/2) x) r) (Tr.n o l (r.put (i/2-1) x)))=_
 rw[aN,aN]
theorem Tr.get_put{α:Type} (t:Tr α):∀(i:Nat) (x:α) (j:Nat),(t.get i).isSome=true→(t.put i x).get j=if i=j then some x else t.get j:=by
 induction t with
 |e=>intro i x j h;cases h
 |n o l r il ir=>
  intro i x j h
  rw[Tr.get_n] at h
  rw[Tr.put_n]
  by_cases h0:i=0
  ·subst h0
   rw[if_pos rfl,Tr.get_n,Tr.get_n]
   by_cases hj:j=0
   ·subst hj;simp
   ·rw[if_neg hj,if_neg (show ¬(0=j) from fun e=>hj e.symm),if_neg hj]
  ·rw[if_neg h0] at h⊢
   by_cases h1:i%2=1
   ·rw[if_pos h1] at h⊢
    rw[Tr.get_n,Tr.get_n]
    by_cases hj:j=0
    ·rw[if_pos hj,if_pos hj,if_neg (by omega)]
    ·rw[if_neg hj,if_neg hj]
     by_cases hj1:j%2=1
     ·rw[if_pos hj1,if_pos hj1,il _ _ _ h]
      by_cases e:i/2=j/2
      ·rw[if_pos e,if_pos (by omega)]
      ·rw[if_neg e,if_neg (by omega)]
     ·rw[if_neg hj1,if_neg hj1,if_neg (by omega)]
   ·rw[if_neg h1] at h⊢
    rw[Tr.get_n,Tr.get_n]
    by_cases hj:j=0
    ·rw[if_pos hj,if_pos hj,if_neg (by omega)]
    ·rw[if_neg hj,if_neg hj]
     by_cases hj1:j%2=1
     ·rw[if_pos hj1,if_pos hj1,if_neg (by omega)]
     ·rw[if_neg hj1,if_neg hj1,ir _ _ _ h]
      by_cases e:i/2-1=j/2-1
      ·rw[if_pos e,if_pos (by omega)]
      ·rw[if_neg e,if_neg (by omega)]
def Tr.full{α:Type}:Tr α→Nat→Prop
 |.e,q=>q=0
 |.n _ l r,q=>0<q∧l.full (q/2)∧r.full ((q-1)/2)
theorem Tr.get_none{α:Type} (t:Tr α):∀(n i:Nat),t.full n→n≤i→t.get i=none:=by
 induction t with
 |e=>intro _ _ _ _;rfl
 |n o l r il ir=>
  intro n i ⟨h0,h1,h2⟩ hi
  rw[Tr.get_n,if_neg (by omega)]
  by_cases hm:i%2=1
  ·rw[if_pos hm];exact il _ _ h1 (by omega)
  ·rw[if_neg hm];exact ir _ _ h2 (by omega)
theorem Tr.put_full{α:Type} (t:Tr α):∀(n:Nat) (x:α),t.full n→(t.put n x).full (n+1)∧∀j,(t.put n x).get j=if j=n then some x else t.get j:=by
 induction t with
 |e=>
  intro n x h
  obtain rfl:n=0:=h
  refine⟨⟨by omega,rfl,rfl⟩,fun j=>?_⟩
  show(Tr.n x .e .e).get j=_
  rw[Tr.get_n]
  by_cases hj:j=0
  ·rw[if_pos hj,if_pos hj]
  ·rw[if_neg hj,if_neg hj];split<;>rfl
 |n o l r il ir=>
  intro n x ⟨h0,h1,h2⟩
  rw[Tr.put_n,if_neg (by omega)]
  by_cases hm:n%2=1
  ·rw[if_pos hm]
   obtain⟨a1,a2⟩:=il (n/2) x h1
   refine⟨⟨by omega,by rw[show(n+1)/2=n/2+1 by omega];exact a1,by rw[show(n+1-1)/2=(n-1)/2 by omega];exact h2⟩,fun j=>?_⟩
   rw[Tr.get_n,Tr.get_n]
   by_cases hj:j=0
   ·rw[if_pos hj,if_pos hj,if_neg (by omega)]
   ·rw[if_neg hj,if_neg hj]
    by_cases hj1:j%2=1
    ·rw[if_pos hj1,if_pos hj1,a2]
     by_cases e:j/2=n/2
     ·rw[if_pos e,if_pos (by omega)]
     ·rw[if_neg e,if_neg (by omega)]
    ·rw[if_neg hj1,if_neg hj1,if_neg (by omega)]
  ·rw[if_neg hm]
   obtain⟨a1,a2⟩:=ir (n/2-1) x (by rw[show n/2-1=(n-1)/2 by omega];exact h2)
   refine⟨⟨by omega,by rw[show(n+1)/2=n/2 by omega];exact h1,by rw[show(n+1-1)/2=n/2-1+1 by omega];exact a1⟩,fun j=>?_⟩
   rw[Tr.get_n,Tr.get_n]
   by_cases hj:j=0
   ·rw[if_pos hj,if_pos hj,if_neg (by omega)]
   ·rw[if_neg hj,if_neg hj]
    by_cases hj1:j%2=1
    ·rw[if_pos hj1,if_pos hj1,if_neg (by omega)]
    ·rw[if_neg hj1,if_neg hj1,a2]
     by_cases e:j/2-1=n/2-1
     ·rw[if_pos e,if_pos (by omega)]
     ·rw[if_neg e,if_neg (by omega)]
def bw (xs:List DV):Bool:=xs.all fun y=>y.cells.all DV.one
inductive FO where
 |arr (t k ln:Nat) (on:Bool) (xs:List DV)
 |oth (o:Ob)
def FO.ob:FO→Ob
 |.arr t k _ _ xs=>.arr t k xs
 |.oth o=>o
def FO.good:FO→Prop
 |.arr _ _ ln on xs=>ln=xs.length∧(on=true→bw xs=true)
 |.oth (.arr ..)=>False
 |.oth _=>True
structure Mm where
 t:Tr FO
 n:Nat
structure MmOf (m:Mm) (σ:List Ob):Prop where
 n:m.n=σ.length
 full:m.t.full m.n
 get:∀i,(m.t.get i).map FO.ob=σ[i]?
 good:∀i o,m.t.get i=some o→o.good
theorem MmOf.put{m:Mm}{σ:List Ob} (h:MmOf m σ){i:Nat}{o x:FO} (ho:m.t.get i=some o) (hx:x.good):MmOf ⟨m.t.put i x,m.n⟩ (σ.set i x.ob):=by
 have h1:σ[i]?=some o.ob:=by rw[←h.get,ho];rfl
 have hlt:=(AH.1 h1).1
 have hg:∀j,(m.t.put i x).get j=if i=j then some x else m.t.get j:=fun j=>Tr.get_put _ _ _ _ (by rw[ho];rfl)
 refine⟨by simpa using h.n,?_,fun j=>?_,fun j q hq=>?_⟩
 ·-- the shape stays
  have key:∀(t:Tr FO) (n i:Nat),t.full n→(t.get i).isSome=true→(t.put i x).full n:=by
   intro t
   induction t with
   |e=>intro _ _ _ hs;cases hs
   |n o l r il ir=>
    intro n i ⟨a,b,c⟩ hs
    rw[Tr.get_n] at hs
    rw[Tr.put_n]
    by_cases h0:i=0
    ·rw[if_pos h0];exact⟨a,b,c⟩
    ·rw[if_neg h0] at hs⊢
     by_cases h1:i%2=1
     ·rw[if_pos h1] at hs⊢;exact⟨a,il _ _ b hs,c⟩
     ·rw[if_neg h1] at hs⊢;exact⟨a,b,ir _ _ c hs⟩
  exact key _ _ _ h.full (by rw[ho];rfl)
 ·show((m.t.put i x).get j).map FO.ob=_
  rw[hg,aU hlt]
  split
  ·rfl
  ·exact h.get j
 ·have hq':(m.t.put i x).get j=some q:=hq
  rw[hg] at hq'
  split at hq'
  ·cases hq';exact hx
  ·exact h.good j q hq'
theorem MmOf.push{m:Mm}{σ:List Ob} (h:MmOf m σ){x:FO} (hx:x.good):MmOf ⟨m.t.put m.n x,B0 m.n⟩ (σ++[x.ob]):=by
 obtain⟨a1,a2⟩:=m.t.put_full m.n x h.full
 refine⟨by simp[h.n],a1,fun j=>?_,fun j q hq=>?_⟩
 ·show((m.t.put m.n x).get j).map FO.ob=_
  rw[a2,aD,h.n]
  split
  ·rfl
  ·exact h.get j
 ·have hq':(m.t.put m.n x).get j=some q:=hq
  rw[a2] at hq'
  split at hq'
  ·cases hq';exact hx
  ·exact h.good j q hq'
theorem MmOf.arr{m:Mm}{σ:List Ob} (h:MmOf m σ){i t k ln:Nat}{on:Bool}{xs:List DV} (ho:m.t.get i=some (.arr t k ln on xs)):σ[i]?=some (.arr t k xs)∧ln=xs.length:=
 ⟨by rw[←h.get,ho];rfl,(h.good _ _ ho).1⟩
theorem MmOf.ones{m:Mm}{σ:List Ob} (h:MmOf m σ){i t k ln:Nat}{on:Bool}{xs:List DV} (ho:m.t.get i=some (.arr t k ln on xs)):on=true→bw xs=true:=(h.good _ _ ho).2
theorem MmOf.oth{m:Mm}{σ:List Ob} (h:MmOf m σ){i:Nat}{o:Ob} (ho:m.t.get i=some (.oth o)):σ[i]?=some o:=by rw[←h.get,ho];rfl
end
noncomputable section
def pd:IntKind→Nat
 |.i8=>127
 |.u8=>255
 |.i16=>32767
 |.u16=>65535
 |.i32=>2147483647
 |.u32=>4294967295
 |.i64=>9223372036854775807
 |.u64=>18446744073709551615
theorem lF{k:IntKind}{m:Nat} (h:m≤pd k):k.wrap (m:Int)=m:=by
 cases k<;>simp only[pd] at h
 ·exact IntWalk.i8_in _ (by omega)
 ·exact IntWalk.i16_in _ (by omega)
 ·exact IntWalk.i32_in _ (by omega)
 ·exact IntWalk.i64_in _ (by omega)
 ·exact IntWalk.u8_in _ (by omega)
 ·exact IntWalk.u16_in _ (by omega)
 ·exact IntWalk.u32_in _ (by omega)
 ·exact IntWalk.u64_in _ (by omega)
theorem bv{α:Type} (a b:Nat) (t e:α):bx (BR a b) t e=if a≤b then t else e:=by
 rw[a7]
 by_cases h:a≤b
 ·rw[if_pos h,if_pos (Nat.ble_eq_true_of_le h)]
 ·rw[if_neg h,if_neg (fun e=>h (Nat.le_of_ble_eq_true e))]
def fE (k:IntKind) (n:Int):Int:=match n with
 |.ofNat m=>bx (BR m (pd k)) (.ofNat m) (match k with
  |.u8=>.ofNat (Nat.mod m 256)
  |.u32=>.ofNat (Nat.mod m 4294967296)
  |.u64=>.ofNat (Nat.mod m 18446744073709551616)
  |k=>k.wrap (.ofNat m))
 |.negSucc m=>match k with
  |.i64=>bx (BR m 9223372036854775807) (.negSucc m) (IntKind.wrap .i64 (.negSucc m))
  |k=>k.wrap (.negSucc m)
theorem fD (k:IntKind) (n:Int):fE k n=k.wrap n:=by
 cases n with
 |ofNat m=>
  simp only[fE]
  rw[bv]
  split
  ·rename_i h;exact(lF h).symm
  ·cases k
   case u8=>rw[IntKind.wrap_u8];rfl
   case u32=>rw[IntKind.wrap_u32];rfl
   case u64=>rw[IntKind.wrap_u64];rfl
   all_goals rfl
 |negSucc m=>
  simp only[fE]
  cases k
  case i64=>
   dsimp only
   rw[bv]
   split
   ·rename_i h
    exact(IntWalk.i64_in _ (by rw[Int.negSucc_eq];omega)).symm
   ·rfl
  all_goals rfl
def ltx (a b:Int):Bool:=match a,b with
 |.ofNat m,.ofNat n=>BR (B0 m) n
 |.ofNat _,.negSucc _=>false
 |.negSucc _,.ofNat _=>true
 |.negSucc m,.negSucc n=>BR (B0 n) m
theorem tP (a b:Int):ltx a b=true↔a<b:=by
 cases a<;>cases b<;>simp only[ltx,Nat.ble_eq,Bb,false_iff,true_iff,Int.negSucc_eq,Int.ofNat_eq_natCast,Nat.succ_eq_add_one]<;>omega
theorem kE (a b:Int):ltx a b=decide (a<b):=by
 by_cases h:a<b
 ·rw[(tP a b).2 h,decide_eq_true h]
 ·rw[decide_eq_false h]
  cases e:ltx a b with
  |false=>rfl
  |true=>exact absurd ((tP a b).1 e) h
def eqx (a b:Int):Bool:=match a,b with
 |.ofNat m,.ofNat n=>A4 m n
 |.negSucc m,.negSucc n=>A4 m n
 |_,_=>false
theorem lL (a b:Int):eqx a b=true↔a=b:=by
 cases a<;>cases b<;>simp only[eqx,Nat.beq_eq,Bb,C8.injEq,Int.negSucc.injEq,reduceCtorEq]
theorem wY (a b:Int):eqx a b=(a==b):=by
 by_cases h:a=b
 ·rw[(lL a b).2 h,h];simp
 ·have:(a==b)=false:=by simpa using h
  rw[this]
  cases e:eqx a b with
  |false=>rfl
  |true=>exact absurd ((lL a b).1 e) h
def kB (b:Bool):Bool:=bx b false true
theorem iC (b:Bool):kB b=!b:=by cases b<;>rfl
theorem yn (k:IntKind):pd k<2^k.bits:=by cases k<;>simp[pd,IntKind.bits]
theorem cW{k:IntKind}{m:Nat} (h:m≤pd k):(BitVec.ofInt k.bits (m:Int)).toNat=m:=by
 rw[BitVec.ofInt_natCast,BitVec.toNat_ofNat]
 exact CK (Nat.lt_of_le_of_lt h (yn k))
theorem wD (k:IntKind):∃e,pd k=2^e-1:=by
 cases k
 ·exact⟨7,rfl⟩
 ·exact⟨15,rfl⟩
 ·exact⟨31,rfl⟩
 ·exact⟨63,rfl⟩
 ·exact⟨8,rfl⟩
 ·exact⟨16,rfl⟩
 ·exact⟨32,rfl⟩
 ·exact⟨64,rfl⟩
def pJ (op:BinOp) (k:IntKind) (a b:Int):Int:=match a,b with
 |.ofNat m,.ofNat n=>bx (BR m (pd k)) (bx (BR n (pd k)) (match op with
  |.and=>.ofNat (Nat.land m n)
  |.or=>.ofNat (Nat.lor m n)
  |.xor=>.ofNat (Nat.xor m n)
  |op=>bits k op (.ofNat m) (.ofNat n)) (bits k op (.ofNat m) (.ofNat n))) (bits k op (.ofNat m) (.ofNat n))
 |a,b=>bits k op a b
theorem lP (op:BinOp) (k:IntKind) (a b:Int):pJ op k a b=bits k op a b:=by
 cases a with
 |negSucc m=>rfl
 |ofNat m=>
  cases b with
  |negSucc n=>rfl
  |ofNat n=>
   simp only[pJ]
   rw[bv,bv]
   split
   ·rename_i hm
    split
    ·rename_i hn
     obtain⟨e,he⟩:=wD k
     have hpos:0<2^e:=Nat.two_pow_pos e
     have lm:m<2^e:=by omega
     have ln:n<2^e:=by omega
     cases op<;>first|rfl|skip
     ·show((m&&&n:Nat):Int)=k.wrap _
      rw[BitVec.toNat_and,show(C8 m)=(m:Int) from rfl,show(C8 n)=(n:Int) from rfl,cW hm,cW hn]
      exact(lF (by have:=Nat.and_lt_two_pow m ln;omega)).symm
     ·show((m|||n:Nat):Int)=k.wrap _
      rw[BitVec.toNat_or,show(C8 m)=(m:Int) from rfl,show(C8 n)=(n:Int) from rfl,cW hm,cW hn]
      exact(lF (by have:=Nat.or_lt_two_pow lm ln;omega)).symm
     ·show((m^^^n:Nat):Int)=k.wrap _
      rw[BitVec.toNat_xor,show(C8 m)=(m:Int) from rfl,show(C8 n)=(n:Int) from rfl,cW hm,cW hn]
      exact(lF (by have:=Nat.xor_lt_two_pow lm ln;omega)).symm
    ·rfl
   ·rfl
def jy (op:BinOp) (k:IntKind) (a b:Int):Option DV:=match op with
 |.add=>some (.int k (fE k (Int.add a b)))
 |.sub=>some (.int k (fE k (Int.sub a b)))
 |.mul=>some (.int k (fE k (Int.mul a b)))
 |.and=>some (.int k (pJ .and k a b))
 |.or=>some (.int k (pJ .or k a b))
 |.xor=>some (.int k (pJ .xor k a b))
 |.eql=>some (.bool (eqx a b))
 |.neq=>some (.bool (kB (eqx a b)))
 |.lss=>some (.bool (ltx a b))
 |.leq=>some (.bool (kB (ltx b a)))
 |.gtr=>some (.bool (ltx b a))
 |.geq=>some (.bool (kB (ltx a b)))
 |op=>ci op k a b
theorem y8 (op:BinOp) (k:IntKind) (a b:Int):jy op k a b=ci op k a b:=by
 cases op<;>first|rfl|skip
 ·simp only[jy,ci,fD];rfl
 ·simp only[jy,ci,fD];rfl
 ·simp only[jy,ci,fD];rfl
 ·simp only[jy,ci,lP]
 ·simp only[jy,ci,lP]
 ·simp only[jy,ci,lP]
 ·simp only[jy,ci,wY]
 ·simp only[jy,ci,wY,iC];first|done|rfl
 ·simp only[jy,ci,kE]
 ·simp only[jy,ci,kE,iC,←decide_not,Int.not_lt]
 ·simp only[jy,ci,kE];first|done|rfl
 ·simp only[jy,ci,kE,iC,←decide_not,Int.not_lt];first|done|rfl
def shx (op:BinOp) (k:IntKind) (a b:Int):Option DV:=match a,b with
 |.ofNat m,.ofNat n=>bx (BR n k.bits) (match op with
  |.shr=>some (.int k (.ofNat (Nat.shiftRight m n)))
  |.shl=>some (.int k (fE k (.ofNat (Nat.shiftLeft m n))))
  |op=>bA op k (.ofNat m) (.ofNat n)) (bA op k (.ofNat m) (.ofNat n))
 |a,b=>bA op k a b
theorem zu (op:BinOp) (k:IntKind) (a b:Int):shx op k a b=bA op k a b:=by
 cases a with
 |negSucc m=>rfl
 |ofNat m=>
  cases b with
  |negSucc n=>rfl
  |ofNat n=>
   simp only[shx]
   rw[bv]
   split
   ·rename_i hn
    have h0:¬(C8 n<0):=by simp
    cases op<;>first|rfl|skip
    ·simp only[fD,bA,if_neg h0]
     congr 3
     have:min (C8 n).toNat k.bits=n:=by simp[BE hn]
     rw[this]
     show((m<<<n:Nat):Int)=(m:Int)*2^n
     rw[Nat.shiftLeft_eq]
     simp
    ·simp only[bA,if_neg h0]
     congr 2
     have:min (C8 n).toNat k.bits=n:=by simp[BE hn]
     rw[this]
     show((m>>>n:Nat):Int)=(m:Int).fdiv (2^n)
     rw[Nat.shiftRight_eq_div_pow]
     rw[show((2:Int)^n)=((2^n:Nat):Int) by simp,DL _ (CD _)]
     simp
   ·rfl
end
noncomputable section
def rH{α:Type} (a b:List α):List α:= @Cb α (fun _=>List α) b (fun x _ ih=>x::ih) a
theorem lQ{α:Type} (a b:List α):rH a b=a++b:=by
 induction a with
 |nil=>rfl
 |cons x r ih=>show x::rH r b=_;rw[ih];rfl
def fC{α:Type} (p:α→Bool) (l:List α):Bool:= @Cb α (fun _=>Bool) true (fun x _ ih=>bx (p x) ih false) l
theorem fq{α:Type} (p:α→Bool) (l:List α):fC p l=l.all p:=by
 induction l with
 |nil=>rfl
 |cons x r ih=>show bx (p x) (fC p r) false=_;rw[ih,Cv];cases p x<;>rfl
def co{α β:Type} (f:α→β) (l:List α):List β:= @Cb α (fun _=>List β) [] (fun x _ ih=>f x::ih) l
theorem cw{α β:Type} (f:α→β) (l:List α):co f l=l.map f:=by
 induction l with
 |nil=>rfl
 |cons x r ih=>show f x::co f r=_;rw[ih];rfl
def kJ:IntKind→Nat
 |.i8=>0
 |.i16=>1
 |.i32=>2
 |.i64=>3
 |.u8=>4
 |.u16=>5
 |.u32=>6
 |.u64=>7
theorem mU (a b:IntKind):kJ a=kJ b↔a=b:=by
 constructor
 ·intro h;cases a<;>cases b<;>first|rfl|(simp[kJ] at h)
 ·rintro rfl;rfl
def eqs (a b:List Nat):Bool:= @Cb Nat (fun _=>List Nat→Bool) (fun b=>match b with
 | []=>true
 |_=>false) (fun x _ ih b=>match b with
 | []=>false
 |y::r=>bx (A4 x y) (ih r) false) a b
theorem lN (a:List Nat):∀b,eqs a b=true↔a=b:=by
 induction a with
 |nil=>intro b;cases b<;>simp[eqs]
 |cons x r ih=>
  intro b
  cases b with
  |nil=>simp[eqs]
  |cons y s=>
   show bx (A4 x y) (eqs r s) false=true↔_
   rw[aN]
   by_cases h:x=y
   ·rw[if_pos h,ih s];simp[h]
   ·rw[if_neg h];simp[h]
def xP (x y:ByteArray):Bool:=eqs (co UInt8.toNat x.data.toList) (co UInt8.toNat y.data.toList)
theorem tA (x y:ByteArray):xP x y=(x.toList==y.toList):=by
 rw[ByteArray.toList_eq,ByteArray.toList_eq]
 unfold xP
 rw[cw,cw]
 have inj:x.data.toList.map UInt8.toNat=y.data.toList.map UInt8.toNat↔x.data.toList=y.data.toList:=by
  constructor
  ·intro h
   exact(DM (fun _ _ e=>UInt8.toNat_inj.1 e)).1 h
  ·intro h;rw[h]
 by_cases h:x.data.toList=y.data.toList
 ·rw[(lN _ _).2 (inj.2 h),h];simp
 ·have:(x.data.toList==y.data.toList)=false:=by simpa using h
  rw[this]
  cases e:eqs (x.data.toList.map UInt8.toNat) (y.data.toList.map UInt8.toNat) with
  |false=>rfl
  |true=>exact absurd (inj.1 ((lN _ _).1 e)) h
def nH (L:Lay) (op:BinOp) (t:Nat) (a b:DV):Option DV:=match a,b with
 |.int k x,.int k' y=>match op with
  |.shl=>shx .shl k x y
  |.shr=>shx .shr k x y
  |op=>bx (A4 (kJ k) (kJ k')) (jy op k x y) none
 |.str x,.str y=>match op with
  |.eql=>some (.bool (xP x y))
  |.neq=>some (.bool (kB (xP x y)))
  |op=>match io L op t (.str x) (.str y) with
   |some d=>some d
   |none=>none
 |a,b=>match io L op t a b with
  |some d=>some d
  |none=>none
theorem y9 (L:Lay) (op:BinOp) (t:Nat) (a b:DV):nH L op t a b=io L op t a b:=by
 unfold nH
 split
 ·unfold io
  cases op<;>simp only[zu,y8,aN,mU]
 ·rename_i x y
  cases op
  case eql=>simp only[tA,io,jz]
  case neq=>simp only[tA,iC,io,jz]
  all_goals
   dsimp only
   split
   ·rename_i h;exact h.symm
   ·rename_i h;exact h.symm
 ·cases io L op t a b<;>rfl
def unx (op:UnOp) (a:DV):Option DV:=match op,a with
 |.not,.bool b=>some (.bool (kB b))
 |.xor,.int .u32 n=>some (.int .u32 (pJ .xor .u32 4294967295 n))
 |.neg,.int k n=>some (.int k (fE k (Int.sub 0 n)))
 |op,a=>un op a
theorem zp (op:UnOp) (a:DV):unx op a=un op a:=by
 unfold unx
 split
 ·rw[iC];rfl
 ·rw[lP];rfl
 ·rw[fD];rfl
 ·rfl
def zI (a b:Int):Int:=bx (ltx b a) b a
def zJ (a b:Int):Int:=bx (ltx a b) b a
theorem yl (a b:Int):zI a b=mn a b:=by
 unfold zI mn
 rw[kE,a7]
 by_cases h:b<a<;>simp[h]
theorem ym (a b:Int):zJ a b=mx a b:=by
 unfold zJ mx
 rw[kE,a7]
 by_cases h:a<b<;>simp[h]
def dY (L:Lay) (e:Operand→DV) (op:Op):Option DV:=match op with
 |.move x=>some (e x)
 |.assign x=>some (e x)
 |.pick c a b=>match e c with
  |.bool q=>some (bx q (e a) (e b))
  |_=>none
 |.binOp op t x y _=>nH L op t (e x) (e y)
 |.unOp op _ x=>unx op (e x)
 |.convert s t x=>match e x with
  |.int _ n=>match L t with
   |some {d:=.int k,..}=>match L s with
    |some _=>some (.int k (fE k n))
    |none=>none
   |_=>none
  |d=>cF L s t d
 |.extract x i=>match e x with
  |.tup xs=>nth xs i
  |_=>none
 |.field t x f=>lK L t (e x) f
 |.fieldAddr t x f=>match L t with
  |some {d:=.struct fs,..}=>match nth fs f with
   |some (off,ft)=>match L ft with
    |some ti=>bx (A4 ti.k 0) none (match e x with
     |.ptr id g j o=>some (.ptr id g j (CV o off))
     |.vptr c cs=>some (.vptr c (cs.drop off))
     |_=>none)
    |none=>none
   |none=>none
  |_=>none
 |.build t ps=>bf L t (co (fun p=>(p.1,e p.2)) ps.toList)
 |.makeFunc (.func f) first caps=>bx (A4 first.size 0) (some (.fn f (co e caps.toList))) none
 |.makeInterface t x=>match L t with
  |some _=>some (.iface t (e x))
  |none=>none
 |.nilCheck x=>match e x with
  |.ptr id g j o=>some (.ptr id g j o)
  |.vptr c cs=>some (.vptr c cs)
  |.fn f caps=>some (.fn f caps)
  |.iface t x=>some (.iface t x)
  |_=>none
 |.call {callee:=.builtin .min,args,..}=>match args.toList with
  | [x,y]=>match e x,e y with
   |.int k a,.int _ b=>some (.int k (zI a b))
   |_,_=>none
  |_=>none
 |.call {callee:=.builtin .max,args,..}=>match args.toList with
  | [x,y]=>match e x,e y with
   |.int k a,.int _ b=>some (.int k (zJ a b))
   |_,_=>none
  |_=>none
 |.call {callee:=.builtin .len,args,argTypes}=>match args.toList,argTypes.toList with
  | [x],[t]=>gD L t (e x)
  |_,_=>none
 |.index t x i=>kc L t (e x) (e i)
 |.typeAssert x _ t true=>taM L (e x) t
 |_=>none
theorem kX{P:Program}{L:Lay} (hL:af P L){env:List (Nat×DV)}{o:Oper}{d:DV} (h:dY L (ev env) o.op=some d) (σ:List Ob):ar P o ⟨env,σ⟩ d σ:=by
 have s0:bU L ⟨env,σ⟩ o.op=some (d,σ)→ar P o ⟨env,σ⟩ d σ:=ar.of_sop0 hL
 have s1:mop L ⟨env,σ⟩ o.op=some (d,σ)→ar P o ⟨env,σ⟩ d σ:=ar.of_mop hL
 unfold dY at h
 split at h
 case h_1 x hop=>refine s0 ?_;rw[hop];simp only[bU];rw[AX.inj h]
 case h_2 x hop=>refine s0 ?_;rw[hop];simp only[bU];rw[AX.inj h]
 case h_3 c a b hop=>
  split at h<;>try cases h
  rename_i q hq
  refine s0 ?_;rw[hop];simp only[bU,hq,a7]
 case h_4 op t x y yt hop=>
  rw[y9] at h
  refine s0 ?_;rw[hop];simp only[bU,h,AW]
 case h_5 op t x hop=>
  rw[zp] at h
  refine s0 ?_;rw[hop];simp only[bU,h,AW]
 case h_6 s t x hop=>
  refine s0 ?_;rw[hop]
  split at h
  ·rename_i k0 n hx
   split at h<;>try cases h
   rename_i q1 k1 b1 k z ht
   split at h<;>try cases h
   rename_i ti hs
   simp only[bU,hx,cF,hs,ht,fD,AW]
  ·simp only[bU,h,AW]
 case h_7 x i hop=>
  split at h<;>try cases h
  rename_i xs hx
  rw[gZ] at h
  refine s0 ?_;rw[hop];simp only[bU,hx,h,AW]
 case h_8 t x f hop=>refine s0 ?_;rw[hop];simp only[bU,h,AW]
 case h_9 t x f hop=>
  split at h<;>try cases h
  rename_i q0 k0 b0 fs z ht
  split at h<;>try cases h
  rename_i off ft hf
  split at h<;>try cases h
  rename_i ti hti
  rw[aN] at h
  rw[gZ] at hf
  refine s0 ?_;rw[hop];simp only[bU,dQ,ht,hf,hti]
  split at h<;>try cases h
  rename_i hk
  rw[if_neg hk]
  split at h<;>try cases h
  ·rename_i hx;simp only[hx,AW];rfl
  ·rename_i hx;simp only[hx,AW]
 case h_10 t ps hop=>
  rw[cw] at h
  refine s0 ?_;rw[hop];simp only[bU,h,AW]
 case h_11 f first caps hop=>
  rw[aN] at h
  split at h<;>try cases h
  rename_i hf
  refine s0 ?_;rw[hop];simp only[bU,if_pos hf,cw]
 case h_12 t x hop=>
  split at h<;>try cases h
  rename_i ht
  refine s0 ?_;rw[hop];simp only[bU,ht]
 case h_13 x hop=>
  split at h<;>try cases h
  all_goals
   rename_i hx
   refine s0 ?_;rw[hop];simp only[bU,hx]
 case h_14 args ts hop=>
  split at h<;>try cases h
  rename_i x y ha
  split at h<;>try cases h
  rename_i k a k' b hx hy
  refine s0 ?_;rw[hop];simp only[bU,bi,ha,Bf,BQ,hx,hy,og,yl,AW]
 case h_15 args ts hop=>
  split at h<;>try cases h
  rename_i x y ha
  split at h<;>try cases h
  rename_i k a k' b hx hy
  refine s0 ?_;rw[hop];simp only[bU,bi,ha,Bf,BQ,hx,hy,mQ,ym,AW]
 case h_16 args ts hop=>
  split at h<;>try cases h
  rename_i x t ha ht
  refine s0 ?_;rw[hop];simp only[bU,bi,ha,ht,Bf,BQ,h,AW]
 case h_17 t x i hop=>refine s1 ?_;rw[hop];simp only[mop,h,AW]
 case h_18 x xt t hop=>refine s1 ?_;rw[hop];simp only[mop,h,AW]
 case h_19=>cases h
end
section
noncomputable section
section
variable{P:Program}{L:Lay}{m:Mm}{σ:List Ob}
def kQ (m:Mm):DV→Option (List DV)
 |.ptr id g j o=>match m.t.get id with
  |some (.arr _ _ ln _ xs)=>bx (A4 g ln) (match nth xs j with
   |some x=>some (iW o x.cells)
   |none=>none) none
  |_=>none
 |.vptr _ cs=>some cs
 |_=>none
theorem vh (h:MmOf m σ){d:DV}{cs:List DV} (hc:kQ m d=some cs):en σ d=some cs:=by
 unfold kQ at hc
 split at hc<;>try cases hc
 ·rename_i id g j o
  split at hc<;>try cases hc
  rename_i t k ln on xs ho
  obtain⟨h1,rfl⟩:=h.arr ho
  rw[aN] at hc
  split at hc<;>try cases hc
  rename_i hg
  split at hc<;>try cases hc
  rename_i x hx
  rw[gZ] at hx
  simp only[en,h1,if_pos hg,hx,ik]
 ·rfl
def oi (L:Lay) (m:Mm) (t:Nat) (d:DV):Option DV:=match L t,kQ m d with
 |some ti,some cs=>match ti.d.isAgg with
  |true=>bx (BR ti.k (len cs)) (some (.agg (gy ti.k cs))) none
  |false=>nth cs 0
 |_,_=>none
theorem qO (h:MmOf m σ){t:Nat}{d d':DV} (hc:oi L m t d=some d'):e9 L σ t d=some d':=by
 unfold oi at hc
 split at hc<;>try cases hc
 rename_i ti cs ht hcs
 unfold e9
 rw[ht,vh h hcs]
 dsimp only
 split at hc
 ·rename_i ha
  rw[bv,dB] at hc
  rw[if_pos ha]
  split at hc<;>try cases hc
  rename_i hk
  rw[if_pos hk,gL]
 ·rename_i ha
  rw[if_neg (by rw[ha];simp)]
  rw[gZ] at hc
  exact hc
def oO (L:Lay) (m:Mm) (t:Nat) (p x:DV):Option Mm:=match L t with
 |some ti=>bx (A4 (len x.cells) ti.k) (bx (BR 1 ti.k) (bx (fC DV.one x.cells) (match p with
  |.ptr id g j o=>match m.t.get id with
   |some (.arr t0 k ln on xs)=>bx (A4 g ln) (match nth xs j with
    |some y=>bx (BR (CV o ti.k) (len y.cells)) (some ⟨m.t.put id (.arr t0 k ln on (xO xs j (ck y o x.cells))),m.n⟩) none
    |none=>none) none
   |_=>none
  |_=>none) none) none) none
 |none=>none
theorem tb{xs:List DV}{j o:Nat}{y:DV}{new:List DV} (h:bw xs=true) (hy:xs[j]?=some y) (hn:∀d∈new,d.one=true) (hl:o+new.length≤y.cells.length) (h0:0<new.length):bw (xs.set j (ck y o new))=true:=by
 unfold bw at h⊢
 rw[AS] at h⊢
 intro z hz
 rcases C9 hz with hz|rfl
 ·exact h z hz
 ·rw[gP hn hl h0,AS]
  have hyc:=AS.1 (h y (AM hy))
  intro d hd
  rw[BT,BT] at hd
  rcases hd with(hd|hd)|hd
  ·exact hyc d (Bz hd)
  ·exact hn d hd
  ·exact hyc d (By hd)
theorem ut (h:MmOf m σ){t:Nat}{p x:DV}{m':Mm} (hc:oO L m t p x=some m'):∃σ',dD L σ t p x=some σ'∧MmOf m' σ':=by
 unfold oO at hc
 split at hc<;>try cases hc
 rename_i ti ht
 simp only[aN,bv] at hc
 simp only[a7,dB,fq] at hc
 split at hc<;>try cases hc
 rename_i h1
 split at hc<;>try cases hc
 rename_i h2
 split at hc<;>try cases hc
 rename_i h3
 split at hc<;>try cases hc
 rename_i id g j o
 split at hc<;>try cases hc
 rename_i t0 k ln on xs ho
 obtain⟨h4,rfl⟩:=h.arr ho
 split at hc<;>try cases hc
 rename_i hg
 split at hc<;>try cases hc
 rename_i y hy
 split at hc<;>try cases hc
 rename_i hfit
 rw[gZ] at hy
 refine⟨σ.set id (.arr t0 k (xs.set j (ck y o x.cells))),?_,?_⟩
 ·unfold dD
  rw[ht]
  dsimp only
  rw[if_pos ⟨h1,h2,h3⟩,h4]
  dsimp only
  rw[if_pos hg,hy]
  dsimp only
  exact if_pos hfit
 ·rw[xN]
  refine h.put ho (x:=.arr t0 k xs.length on (xs.set j (ck y o x.cells))) ⟨by simp,fun e=>tb (h.ones ho e) hy ?_ (by rw[h1];exact hfit) (by rw[h1];exact h2)⟩
  exact AS.1 h3
def iaX (L:Lay) (m:Mm) (t:Nat) (d i:DV):Option DV:=match i with
 |.int _ (.ofNat q)=>match L t with
  |some {d:=.slice e,..}=>match L e with
   |some te=>match d with
    |.sl id g off l=>match m.t.get id with
     |some (.arr _ k ln _ _)=>bx (A4 te.k k) (bx (A4 g ln) (bx (BR (B0 q) l) (some (.ptr id g (CV off q) 0)) none) none) none
     |_=>none
    |.vec c k xs=>bg L [] t (.vec c k xs) i
    |_=>none
   |none=>none
  |some {d:=.array n e,..}=>match L e with
   |some te=>bx (BR (B0 q) n) (match d with
    |.ptr id g j o=>some (.ptr id g j (CV o (Nat.mul q te.k)))
    |_=>none) none
   |none=>none
  |_=>none
 |_=>none
theorem At (h:MmOf m σ){t:Nat}{d i d':DV} (hc:iaX L m t d i=some d'):bg L σ t d i=some d':=by
 unfold iaX at hc
 split at hc<;>try cases hc
 rename_i k0 q
 split at hc<;>try cases hc
 ·rename_i q1 k1 b1 e z ht
  split at hc<;>try cases hc
  rename_i te hte
  split at hc<;>try cases hc
  ·rename_i id g off l
   split at hc<;>try cases hc
   rename_i t0 k ln on xs ho
   obtain⟨h1,rfl⟩:=h.arr ho
   simp only[aN,bv] at hc
   split at hc<;>try cases hc
   rename_i hk
   split at hc<;>try cases hc
   rename_i hg
   split at hc<;>try cases hc
   rename_i hq
   unfold bg
   simp only[ht,hte,h1]
   rw[if_pos hk,if_pos hg,if_pos ⟨CD q,by show(q:Int)<l;omega⟩]
   rfl
  ·rename_i c k xs
   unfold bg at hc⊢
   simp only[ht,hte] at hc⊢
   exact hc
 ·rename_i q1 k1 b1 n e z ht
  split at hc<;>try cases hc
  rename_i te hte
  rw[bv] at hc
  split at hc<;>try cases hc
  rename_i hq
  split at hc<;>try cases hc
  unfold bg
  simp only[ht,hte]
  rw[if_pos ⟨CD q,by show(q:Int)<n;omega⟩]
  rfl
def wg{α:Type} (n:Nat) (a:α):List α:= @Nat.rec (fun _=>List α) [] (fun _ ih=>a::ih) n
theorem jT{α:Type} (n:Nat) (a:α):wg n a=AO n a:=by
 induction n with
 |zero=>rfl
 |succ n ih=>show a::wg n a=_;rw[ih];rfl
def ones (ys:List DV):Bool:=fC (fun y=>fC DV.one y.cells) ys
theorem tK (ys:List DV):ones ys=bw ys:=by
 unfold ones bw
 rw[fq]
 congr 1
 funext y
 exact fq _ _
theorem gu{n:Nat}{z:DV} (h:fC DV.one z.cells=true):bw (AO n z)=true:=by
 rw[fq] at h
 unfold bw
 rw[AS]
 intro y hy
 rw[(BK.1 hy).2]
 exact h
theorem jA{z:DV} (h:fC DV.one z.cells=true):bw [z]=true:=gu (n:=1) h
def dj (m:Mm) (x:FO):Mm:=⟨m.t.put m.n x,B0 m.n⟩
def kT (L:Lay) (m:Mm) (t:Nat):Option (DV×Mm):=match L t with
 |some ti=>bx (A4 (len ti.zero.cells) ti.k) (some (.ptr m.n 1 0 0,dj m (.arr t ti.k 1 (fC DV.one ti.zero.cells) [ti.zero]))) none
 |none=>none
def AD (m:Mm) (t:Nat) (x:DV):Option (DV×Mm):=bx x.full (some (.ptr m.n 1 0 0,dj m (.arr t (len x.cells) 1 (fC DV.one x.cells) [x]))) none
def As (ps:List (Nat×DV)):Nat→Bool:= @Cb (Nat×DV) (fun _=>Nat→Bool) (fun _=>true) (fun p _ ih i=>bx (A4 p.1 i) (ih (B0 i)) false) ps
theorem tV:∀(ps:List (Nat×DV)) (i:Nat),As ps i=true→ps.map (·.1)=Dz i ps.length
 | [],_,_=>rfl
 |p::r,i,h=>by
  have h':bx (A4 p.1 i) (As r (i+1)) false=true:=h
  rw[aN] at h'
  split at h'
  ·rename_i e
   simp only[Bf,A5,DP,tV r (i+1) h',e]
  ·cases h'
def bsX (L:Lay) (m:Mm) (t n:Nat) (ps:List (Nat×DV)):Option (DV×Mm):=match L t with
 |some {d:=.slice e,..}=>match L e with
  |some te=>bx (As ps 0) (bx (A4 (len ps) n) (bx (BR 1 n) (bx (BR n 65536) (bx (BR te.k 256) (bx (A4 (len te.zero.cells) te.k)
   (bx (fC (fun p=>bx p.2.full (A4 (len p.2.cells) te.k) false) ps) (some (.sl m.n n 0 n,dj m (.arr e te.k n (ones (co (·.2) ps)) (co (·.2) ps)))) none) none) none) none) none) none) none
  |none=>none
 |_=>none
def msX (L:Lay) (m:Mm) (t:Nat) (l c:DV):Option (DV×Mm):=match L t with
 |some {d:=.slice e,..}=>match L e with
  |some te=>match l,c with
   |.int _ (.ofNat n),.int _ (.ofNat q)=>bx (BR n q) (bx (BR q 1048576) (bx (BR te.bytes 65536) (bx (BR 1 te.k) (bx (A4 (len te.zero.cells) te.k)
    (some (.sl m.n n 0 n,dj m (.arr e te.k n (fC DV.one te.zero.cells) (wg n te.zero)))) none) none) none) none) none
   |_,_=>none
  |none=>none
 |_=>none
theorem vp (h:MmOf m σ){env:List (Nat×DV)}{t:Nat}{d:DV}{m':Mm} (hc:kT L m t=some (d,m')):∃σ',bU L ⟨env,σ⟩ (.alloc t)=some (d,σ')∧MmOf m' σ':=by
 unfold kT at hc
 split at hc<;>try cases hc
 rename_i ti ht
 rw[aN,dB] at hc
 split at hc<;>try cases hc
 rename_i hk
 refine⟨_,?_,h.push (x:=.arr t ti.k 1 (fC DV.one ti.zero.cells) [ti.zero]) ⟨rfl,jA⟩⟩
 simp only[bU,ht,if_pos hk,h.n]
 rfl
theorem y7 (h:MmOf m σ){env:List (Nat×DV)}{t:Nat}{x:Operand}{d:DV}{m':Mm} (hc:AD m t (ev env x)=some (d,m')):∃σ',bU L ⟨env,σ⟩ (.box t x)=some (d,σ')∧MmOf m' σ':=by
 unfold AD at hc
 rw[a7] at hc
 split at hc<;>try cases hc
 rename_i hf
 refine⟨_,?_,h.push (x:=.arr t (len (ev env x).cells) 1 (fC DV.one (ev env x).cells) [ev env x]) ⟨rfl,jA⟩⟩
 simp only[bU,if_pos hf,h.n,dB]
 rfl
theorem AC (h:MmOf m σ){t n:Nat}{ps:List (Nat×DV)}{d:DV}{m':Mm} (hc:bsX L m t n ps=some (d,m')):n≠0∧∃σ',vn L σ t n ps=some (d,σ')∧MmOf m' σ':=by
 unfold bsX at hc
 split at hc<;>try cases hc
 rename_i q0 k0 b0 e z ht
 split at hc<;>try cases hc
 rename_i te hte
 simp only[aN,bv] at hc
 simp only[a7,dB,fq,cw] at hc
 split at hc<;>try cases hc
 rename_i h1
 split at hc<;>try cases hc
 rename_i h2
 split at hc<;>try cases hc
 rename_i h3
 split at hc<;>try cases hc
 rename_i h4
 split at hc<;>try cases hc
 rename_i h5
 split at hc<;>try cases hc
 rename_i h6
 split at hc<;>try cases hc
 rename_i h7
 refine⟨by omega,_,?_,h.push (x:=.arr e te.k n (ones (List.map (fun p:Nat×DV=>p.2) ps)) (List.map (fun p:Nat×DV=>p.2) ps)) ⟨by simp[h2],fun e=>by rw[←tK];exact e⟩⟩
 unfold vn
 rw[ht]
 dsimp only
 rw[hte]
 dsimp only
 have hk:n*te.k≤16777216:=Bl (Nat.mul_le_mul h4 h5) (by omega)
 have e1:ps.map (·.1)=Bs n:=by rw[tV ps 0 h1,h2,DA]
 have e2:(ps.all fun p=>p.2.full&&p.2.cells.length==te.k)=true:=by
  rw[←h7]
  congr 1
  funext p
  cases p.2.full
  ·rfl
  ·show(p.2.cells.length==te.k)=p.2.cells.length.beq te.k
   by_cases hp:p.2.cells.length=te.k
   ·rw[hp];simp
   ·have e2:p.2.cells.length.beq te.k=false:=by
     cases e:p.2.cells.length.beq te.k with
     |false=>rfl
     |true=>exact absurd (Ct e) hp
    rw[e2];simpa using hp
 rw[if_pos ⟨e1,e2,hk,by omega,h6⟩,h.n]
 rfl
theorem zH (h:MmOf m σ){t:Nat}{l c:DV}{d:DV}{m':Mm} (hc:msX L m t l c=some (d,m')):∃σ',pc L σ t l c=some (d,σ')∧MmOf m' σ':=by
 unfold msX at hc
 split at hc<;>try cases hc
 rename_i q0 k0 b0 e z ht
 split at hc<;>try cases hc
 rename_i te hte
 split at hc<;>try cases hc
 rename_i ka n kb q
 simp only[aN,bv,dB,jT] at hc
 split at hc<;>try cases hc
 rename_i h1
 split at hc<;>try cases hc
 rename_i h2
 split at hc<;>try cases hc
 rename_i h3
 split at hc<;>try cases hc
 rename_i h4
 split at hc<;>try cases hc
 rename_i h5
 refine⟨_,?_,h.push (x:=.arr e te.k n (fC DV.one te.zero.cells) (AO n te.zero)) ⟨by simp,gu⟩⟩
 unfold pc
 rw[ht]
 dsimp only
 rw[hte]
 dsimp only
 have hb0:te.bytes*q≤68719476736:=Bl (Nat.mul_le_mul h3 h2) (by decide)
 have hb:(te.bytes:Int)*(q:Int)≤68719476736:=by
  rw[←Int.natCast_mul]
  exact DG.2 hb0
 have e1:(te.bytes:Int)*(q:Int)≤281474976710656:=Int.le_trans hb (by decide)
 have e2:(q:Int)≤9223372036854775807:=Int.le_trans (DG.2 h2) (by decide)
 rw[if_pos ⟨CD n,DG.2 h1,e1,e2,h5,h4⟩,h.n]
 rfl
end
end
end
section
noncomputable section
section
variable{P:Program}{L:Lay}{m:Mm}{σ:List Ob}
def jx (d:Option DV) (dflt mx:Nat):Option Nat:=match d with
 |none=>some dflt
 |some (.int _ (.ofNat n))=>bx (BR n mx) (some n) none
 |_=>none
theorem fT{d:Option DV}{a b n:Nat} (h:jx d a b=some n):au d a b=some n:=by
 unfold jx at h
 split at h<;>try cases h
 ·rfl
 ·rename_i k q
  rw[bv] at h
  split at h<;>try cases h
  rename_i hq
  simp only[au]
  rw[if_pos ⟨CD n,DG.2 hq⟩]
  rfl
def rV (L:Lay) (m:Mm) (t:Nat) (d:DV) (lo hi:Option DV):Option DV:=match d with
 |.sl id g off l=>match L t with
  |some {d:=.slice e,..}=>match L e with
   |some te=>match m.t.get id with
    |some (.arr _ k ln _ _)=>bx (A4 te.k k) (bx (A4 g ln) (match jx hi l l with
     |some h=>match jx lo 0 h with
      |some q=>some (.sl id g (CV off q) (DT h q))
      |none=>none
     |none=>none) none) none
    |_=>none
   |none=>none
  |_=>none
 |.vec c k xs=>aw L [] t (.vec c k xs) lo hi
 |.nils=>aw L [] t .nils lo hi
 |.str s=>aw L [] t (.str s) lo hi
 |_=>none
theorem uu (h:MmOf m σ){t:Nat}{d d':DV}{lo hi:Option DV} (hc:rV L m t d lo hi=some d'):aw L σ t d lo hi=some d':=by
 unfold rV at hc
 split at hc<;>try cases hc
 ·rename_i id g off l
  split at hc<;>try cases hc
  rename_i q0 k0 b0 e z ht
  split at hc<;>try cases hc
  rename_i te hte
  split at hc<;>try cases hc
  rename_i t0 k ln on xs ho
  obtain⟨h1,rfl⟩:=h.arr ho
  simp only[aN] at hc
  split at hc<;>try cases hc
  rename_i hk
  split at hc<;>try cases hc
  rename_i hg
  split at hc<;>try cases hc
  rename_i hh e1
  split at hc<;>try cases hc
  rename_i q e2
  unfold aw
  simp only[ht,hte,h1]
  rw[if_pos ⟨hk,hg⟩]
  simp only[fT e1,fT e2]
  rfl
 ·unfold aw at hc⊢;exact hc
 ·unfold aw at hc⊢;exact hc
 ·unfold aw at hc⊢;exact hc
def oQ (L:Lay) (m:Mm) (t:Nat) (d:DV) (lo hi:Option DV) (mx:DV):Option DV:=match d with
 |.sl id g off l=>match L t with
  |some {d:=.slice e,..}=>match L e with
   |some te=>match m.t.get id with
    |some (.arr _ k ln _ _)=>bx (A4 te.k k) (bx (A4 g ln) (match jx (some mx) 0 l with
     |some mm=>match jx hi mm mm with
      |some h=>match jx lo 0 h with
       |some q=>some (.sl id g (CV off q) (DT h q))
       |none=>none
      |none=>none
     |none=>none) none) none
    |_=>none
   |none=>none
  |_=>none
 |_=>none
theorem rW (h:MmOf m σ){t:Nat}{d d' mx:DV}{lo hi:Option DV} (hc:oQ L m t d lo hi mx=some d'):gN L σ t d lo hi mx=some d':=by
 unfold oQ at hc
 split at hc<;>try cases hc
 rename_i id g off l
 split at hc<;>try cases hc
 rename_i q0 k0 b0 e z ht
 split at hc<;>try cases hc
 rename_i te hte
 split at hc<;>try cases hc
 rename_i t0 k ln on xs ho
 obtain⟨h1,rfl⟩:=h.arr ho
 simp only[aN] at hc
 split at hc<;>try cases hc
 rename_i hk
 split at hc<;>try cases hc
 rename_i hg
 split at hc<;>try cases hc
 rename_i mm e0
 split at hc<;>try cases hc
 rename_i hh e1
 split at hc<;>try cases hc
 rename_i q e2
 unfold gN
 simp only[ht,hte,h1]
 rw[if_pos ⟨hk,hg⟩]
 simp only[fT e0,fT e1,fT e2]
 rfl
structure Els where
 n:Nat
 on:Bool
 ys:List DV
def m7 (m:Mm) (k:Nat) (d:DV):Option Els:=match d with
 |.nils=>some ⟨0,true,[]⟩
 |.emp=>some ⟨0,true,[]⟩
 |.vec _ k' xs=>bx (A4 k' k) (some ⟨len xs,false,xs⟩) none
 |.sl id g off l=>match m.t.get id with
  |some (.arr _ k' ln on xs)=>bx (A4 k' k) (bx (A4 g ln) (bx (BR (CV off l) ln) (some ⟨l,on,bx (A4 l ln) xs (gy l (iW off xs))⟩) none) none) none
  |_=>none
 |_=>none
theorem kO (h:MmOf m σ){k n:Nat}{on:Bool}{d:DV}{ys:List DV} (hc:m7 m k d=some ⟨n,on,ys⟩):bV σ k d=some ys∧n=ys.length∧(on=true→bw ys=true):=by
 unfold m7 at hc
 split at hc<;>try cases hc
 ·exact⟨rfl,rfl,fun _=>rfl⟩
 ·exact⟨rfl,rfl,fun _=>rfl⟩
 ·rename_i c k' xs
  rw[aN] at hc
  split at hc<;>try cases hc
  rename_i hk
  exact⟨by simp only[bV,if_pos hk],dB _,fun e=>by cases e⟩
 ·rename_i id g off l
  split at hc<;>try cases hc
  rename_i t0 k' ln on xs ho
  obtain⟨h1,rfl⟩:=h.arr ho
  simp only[aN,bv] at hc
  split at hc<;>try cases hc
  rename_i hk
  split at hc<;>try cases hc
  rename_i hg
  split at hc<;>try cases hc
  rename_i hl
  have hl':off+n≤xs.length:=hl
  have e:(if n=xs.length then xs else gy n (iW off xs))=(xs.drop off).take n:=by
   split
   ·rename_i hn
    obtain rfl:off=0:=by omega
    rw[hn,Ch,Co]
   ·rw[gL,ik]
  rw[e]
  refine⟨by simp only[bV,h1,if_pos hk,if_pos hg],?_,fun eo=>?_⟩
  ·rw[Bi,BP]
   omega
  ·have:=h.ones ho eo
   unfold bw at this⊢
   rw[AS] at this⊢
   exact fun y hy=>this y (By (Bz hy))
def zt (L:Lay) (m:Mm) (te:TI) (t':Nat) (d:DV):Option Els:=match L t' with
 |some {d:=.int _,..}=>match d with
  |.int _ (.ofNat n)=>bx (BR (Nat.mul n te.bytes) 1073741824) (bx (A4 (len te.zero.cells) te.k) (some ⟨n,fC DV.one te.zero.cells,wg n te.zero⟩) none) none
  |_=>none
 |some {d:=.slice _,..}=>m7 m te.k d
 |_=>none
theorem xM (h:MmOf m σ){te:TI}{t' n:Nat}{on:Bool}{d:DV}{ys:List DV} (hc:zt L m te t' d=some ⟨n,on,ys⟩):jf L σ te t' d=some ys∧n=ys.length∧(on=true→bw ys=true):=by
 unfold zt at hc
 split at hc<;>try cases hc
 ·rename_i q0 k0 b0 kk z ht
  split at hc<;>try cases hc
  rename_i k q
  simp only[bv,aN] at hc
  rw[dB] at hc
  split at hc<;>try cases hc
  rename_i h1
  split at hc<;>try cases hc
  rename_i h2
  refine⟨?_,by rw[jT];simp,fun e=>by rw[jT];exact gu e⟩
  simp only[jf,ht]
  have e1:(n:Int)*te.bytes≤1073741824:=by
   rw[←Int.natCast_mul]
   exact DG.2 h1
  rw[if_pos ⟨CD n,e1,h2⟩,jT]
  rfl
 ·rename_i q0 k0 b0 kk z ht
  obtain⟨h1,h2,h3⟩:=kO h hc
  exact⟨by simp only[jf,ht,h1],h2,h3⟩
theorem zh{on:Bool}{ys:List DV} (h:on=true→bw ys=true) (k:bx on true (ones ys)=true):bw ys=true:=by
 cases on with
 |true=>exact h rfl
 |false=>rw[←tK];exact k
theorem jB{xs ys:List DV} (h:bw xs=true) (k:bw ys=true):bw (xs++ys)=true:=by
 unfold bw at h k⊢
 rw[List.all_append,h,k]
 rfl
def AE (L:Lay) (m:Mm) (t t':Nat) (d1 d2:DV):Option (DV×Mm):=match L t with
 |some {d:=.slice e,..}=>match L e with
  |some te=>match zt L m te t' d2 with
   |some ⟨n,on2,ys⟩=>bx (BR 1 te.bytes) (bx (fC DV.one te.zero.cells) (bx (bx on2 true (ones ys)) (match d1 with
    |.nils=>bx (A4 n 0) (some (.nils,m)) (bx (BR (Nat.mul n te.bytes) 140737488355328) (some (.sl m.n n 0 n,dj m (.arr e te.k n true ys))) none)
    |.emp=>bx (A4 n 0) (some (.emp,m)) (bx (BR (Nat.mul n te.bytes) 140737488355328) (some (.sl m.n n 0 n,dj m (.arr e te.k n true ys))) none)
    |.sl id g off l=>match m.t.get id with
     |some (.arr e0 k ln on xs)=>bx (A4 e0 e) (bx (A4 k te.k) (bx (A4 g ln) (bx (A4 off 0) (bx (A4 l ln) (bx (BR (Nat.mul (CV ln n) te.bytes) 140737488355328)
      (some (.sl id (CV ln n) 0 (CV ln n),bx (A4 n 0) m ⟨m.t.put id (.arr e k (CV ln n) on (rH xs ys)),m.n⟩)) none) none) none) none) none) none
     |_=>none
    |_=>none) none) none) none
   |none=>none
  |none=>none
 |_=>none
theorem za (h:MmOf m σ){t t':Nat}{d1 d2 d:DV}{m':Mm} (hc:AE L m t t' d1 d2=some (d,m')):∃σ',vo L σ t t' d1 d2=some (d,σ')∧MmOf m' σ':=by
 unfold AE at hc
 split at hc<;>try cases hc
 rename_i q0 k0 b0 e z ht
 split at hc<;>try cases hc
 rename_i te hte
 split at hc<;>try cases hc
 rename_i n on2 ys hs
 obtain⟨hs1,rfl,hs2⟩:=xM h hs
 simp only[aN,bv] at hc
 rw[a7 (fC DV.one te.zero.cells),a7 (bx on2 true (ones ys)),fq] at hc
 split at hc<;>try cases hc
 rename_i h1
 split at hc<;>try cases hc
 rename_i h2
 split at hc<;>try cases hc
 rename_i h3
 replace h3:=zh hs2 h3
 unfold vo
 simp only[ht,hte,hs1]
 rw[if_pos ⟨h1,h2,by unfold bw at h3;exact h3⟩]
 split at hc<;>try cases hc
 ·dsimp only
  split at hc
  ·rename_i hn
   cases hc
   exact⟨σ,by rw[if_pos hn],h⟩
  ·rename_i hn
   split at hc<;>try cases hc
   rename_i hb
   have hb':ys.length*te.bytes≤140737488355328:=hb
   exact⟨_,by rw[if_neg hn,if_pos hb',h.n];rfl,h.push (x:=.arr e te.k ys.length true ys) ⟨rfl,fun _=>h3⟩⟩
 ·dsimp only
  split at hc
  ·rename_i hn
   cases hc
   exact⟨σ,by rw[if_pos hn],h⟩
  ·rename_i hn
   split at hc<;>try cases hc
   rename_i hb
   have hb':ys.length*te.bytes≤140737488355328:=hb
   exact⟨_,by rw[if_neg hn,if_pos hb',h.n];rfl,h.push (x:=.arr e te.k ys.length true ys) ⟨rfl,fun _=>h3⟩⟩
 ·rename_i id g off l
  split at hc<;>try cases hc
  rename_i e0 k ln on xs ho
  obtain⟨g1,rfl⟩:=h.arr ho
  split at hc<;>try cases hc
  rename_i c1
  split at hc<;>try cases hc
  rename_i c2
  split at hc<;>try cases hc
  rename_i c3
  split at hc<;>try cases hc
  rename_i c4
  split at hc<;>try cases hc
  rename_i c5
  split at hc<;>try cases hc
  rename_i c6
  have c6':(xs.length+ys.length)*te.bytes≤140737488355328:=c6
  dsimp only
  rw[g1]
  dsimp only
  refine⟨_,by rw[if_pos ⟨c1,c2,c3,c4,c5,c6'⟩];rfl,?_⟩
  by_cases hn:ys.length=0
  ·rw[if_pos hn,if_pos hn];exact h
  ·rw[if_neg hn,if_neg hn,lQ]
   exact h.put ho (x:=.arr e k (xs.length+ys.length) on (xs++ys)) ⟨by simp,fun eo=>jB (h.ones ho eo) h3⟩
def tJ (m:Mm) (k n:Nat) (d:DV) (ys:List DV):Option Mm:=bx (A4 n 0) (some m) (match d with
 |.sl id g off _=>match m.t.get id with
  |some (.arr e k' ln on xs)=>bx (A4 k' k) (bx (A4 g ln) (bx (BR (CV off n) ln) (some ⟨m.t.put id (.arr e k ln on (rH (gy off xs) (rH ys (iW (CV off n) xs)))),m.n⟩) none) none) none
  |_=>none
 |_=>none)
theorem qB (h:MmOf m σ){k n:Nat}{d:DV}{ys:List DV}{m':Mm} (hn:n=ys.length) (h1s:bw ys=true) (hc:tJ m k n d ys=some m'):∃σ',bW σ k d ys=some σ'∧MmOf m' σ':=by
 subst hn
 unfold tJ at hc
 rw[aN] at hc
 unfold bW
 split at hc
 ·rename_i h0
  cases hc
  exact⟨σ,by rw[if_pos h0],h⟩
 ·rename_i h0
  split at hc<;>try cases hc
  rename_i id g off l
  split at hc<;>try cases hc
  rename_i e k' ln on xs ho
  obtain⟨g1,rfl⟩:=h.arr ho
  simp only[aN,bv] at hc
  split at hc<;>try cases hc
  rename_i c1
  split at hc<;>try cases hc
  rename_i c2
  split at hc<;>try cases hc
  rename_i c3
  have c3':off+ys.length≤xs.length:=c3
  refine⟨_,by rw[if_neg h0];simp only[g1];rw[if_pos ⟨c1,c2⟩],?_⟩
  have:rH (gy off xs) (rH ys (iW (CV off ys.length) xs))=xs.take off++ys++xs.drop (off+ys.length):=by
   rw[lQ,lQ,gL,ik,AR];rfl
  rw[this]
  refine h.put ho (x:=.arr e k xs.length on (xs.take off++ys++xs.drop (off+ys.length))) ⟨?_,fun eo=>?_⟩
  ·simp only[AP,Bi,BP]
   omega
  ·have:=h.ones ho eo
   refine jB (jB ?_ h1s) ?_<;>
   ·unfold bw at this⊢
    rw[AS] at this⊢
    first
     |exact fun y hy=>this y (Bz hy)
     |exact fun y hy=>this y (By hy)
def xe (L:Lay) (m:Mm) (t:Nat) (d1 d2:DV):Option (DV×Mm):=match L t with
 |some {d:=.slice e,..}=>match L e with
  |some te=>match m7 m te.k d2,qP d1 with
   |some ⟨q,on2,ys⟩,some n=>bx (bx on2 true (ones ys)) (match tJ m te.k (bx (BR q n) q n) d1 (bx (BR q n) ys (gy n ys)) with
    |some m'=>some (.int .i64 (.ofNat (bx (BR q n) q n)),m')
    |none=>none) none
   |_,_=>none
  |none=>none
 |_=>none
theorem xd (h:MmOf m σ){t:Nat}{d1 d2 d:DV}{m':Mm} (hc:xe L m t d1 d2=some (d,m')):∃σ',nc L σ t d1 d2=some (d,σ')∧MmOf m' σ':=by
 unfold xe at hc
 split at hc<;>try cases hc
 rename_i q0 k0 b0 e z ht
 split at hc<;>try cases hc
 rename_i te hte
 split at hc<;>try cases hc
 rename_i q on2 ys n hs hl
 obtain⟨hs1,rfl,hs2⟩:=kO h hs
 rw[a7 (bx on2 true (ones ys))] at hc
 split at hc<;>try cases hc
 rename_i h1
 replace h1:=zh hs2 h1
 split at hc<;>try cases hc
 rename_i m'' ho
 have e1:bx (BR ys.length n) ys.length n=min ys.length n:=by rw[bv];split<;>omega
 have e2:bx (BR ys.length n) ys (gy n ys)=ys.take (min ys.length n):=by
  rw[bv,gL]
  split
  ·rename_i hh;rw[BE hh,Co]
  ·rename_i hh;rw[Nat.min_eq_right (by omega)]
 rw[e2,e1] at ho
 obtain⟨σ',g1,g2⟩:=qB h (by simp) (by unfold bw at h1⊢;rw[AS] at h1⊢;exact fun y hy=>h1 y (Bz hy)) ho
 refine⟨σ',?_,g2⟩
 unfold nc
 simp only[ht,hte,hs1,hl]
 rw[if_pos (by unfold bw at h1;exact h1),g1,e1]
 rfl
def s5 (L:Lay) (m:Mm) (t:Nat) (d1:DV):Option (DV×Mm):=match L t with
 |some {d:=.slice e,..}=>match L e with
  |some te=>match qP d1 with
   |some n=>bx (A4 (len te.zero.cells) te.k) (bx (fC DV.one te.zero.cells) (match tJ m te.k n d1 (wg n te.zero) with
    |some m'=>some (.tup [],m')
    |none=>none) none) none
   |none=>none
  |none=>none
 |_=>none
theorem vf (h:MmOf m σ){t:Nat}{d1 d:DV}{m':Mm} (hc:s5 L m t d1=some (d,m')):∃σ',ju L σ t d1=some (d,σ')∧MmOf m' σ':=by
 unfold s5 at hc
 split at hc<;>try cases hc
 rename_i q0 k0 b0 e z ht
 split at hc<;>try cases hc
 rename_i te hte
 split at hc<;>try cases hc
 rename_i n hl
 simp only[aN] at hc
 rw[dB] at hc
 split at hc<;>try cases hc
 rename_i h1
 rw[a7] at hc
 split at hc<;>try cases hc
 rename_i h2
 split at hc<;>try cases hc
 rename_i m'' ho
 rw[jT] at ho
 obtain⟨σ',g1,g2⟩:=qB h (by simp) (gu h2) ho
 refine⟨σ',?_,g2⟩
 rw[fq] at h2
 unfold ju
 simp only[ht,hte,hl]
 rw[if_pos ⟨h1,h2⟩,g1]
 rfl
end
end
end
section
noncomputable section
section
variable{P:Program}{L:Lay}{m:Mm}{σ:List Ob}
def eqX (L:Lay) (m:Mm) (t:Nat) (a b:DV):Option Bool:=match a with
 |.sl id g _ _=>match b with
  |.nils=>match L t with
   |some {d:=.slice _,..}=>match m.t.get id with
    |some (.arr _ _ ln _ _)=>bx (A4 g ln) (bx (BR 1 g) (some false) none) none
    |_=>none
   |_=>none
  |_=>none
 |a=>eqM L [] t a b
theorem w8 (h:MmOf m σ){t:Nat}{a b:DV}{q:Bool} (hc:eqX L m t a b=some q):eqM L σ t a b=some q:=by
 cases a
 case sl id g off l=>
  simp only[eqX] at hc
  split at hc<;>try cases hc
  split at hc<;>try cases hc
  rename_i q0 k0 b0 e z ht
  split at hc<;>try cases hc
  rename_i t0 k ln on xs ho
  obtain⟨g1,rfl⟩:=h.arr ho
  simp only[aN,bv] at hc
  split at hc<;>try cases hc
  rename_i c1
  split at hc<;>try cases hc
  rename_i c2
  unfold eqM
  simp only[ht,g1]
  rw[if_pos ⟨c1,c2⟩]
 case vec c k xs=>
  simp only[eqX] at hc
  unfold eqM at hc⊢
  cases xs<;>cases b<;>exact hc
 all_goals
  simp only[eqX] at hc
  unfold eqM at hc⊢
  first|exact hc|(cases b<;>exact hc)
def pm (L:Lay) (m:Mm) (t:Nat) (mm key:DV) (ok:Bool):Option DV:=match mm with
 |.mp id=>match m.t.get id with
  |some (.oth o)=>gp L [o] t (.mp 0) key ok
  |_=>none
 |_=>none
theorem sS (h:MmOf m σ){t:Nat}{mm key d:DV}{ok:Bool} (hc:pm L m t mm key ok=some d):gp L σ t mm key ok=some d:=by
 unfold pm at hc
 split at hc<;>try cases hc
 rename_i id
 split at hc<;>try cases hc
 rename_i o ho
 have g1:=h.oth ho
 unfold gp at hc⊢
 simp only[g1]
 simpa only[AY] using hc
def xB (L:Lay) (m:Mm) (t:Nat) (mm key v:DV):Option Mm:=match mm with
 |.mp id=>match m.t.get id with
  |some (.oth o)=>match nt L [o] t (.mp 0) key v with
   |some [.oth ot ds]=>some ⟨m.t.put id (.oth (.oth ot ds)),m.n⟩
   |_=>none
  |_=>none
 |_=>none
theorem tr (h:MmOf m σ){t:Nat}{mm key v:DV}{m':Mm} (hc:xB L m t mm key v=some m'):∃σ',nt L σ t mm key v=some σ'∧MmOf m' σ':=by
 unfold xB at hc
 split at hc<;>try cases hc
 rename_i id
 split at hc<;>try cases hc
 rename_i o ho
 have g1:=h.oth ho
 split at hc<;>try cases hc
 rename_i ot ds hu
 refine⟨σ.set id (.oth ot ds),?_,h.put ho (x:=.oth (.oth ot ds)) trivial⟩
 unfold nt at hu⊢
 split at hu<;>try cases hu
 rename_i q0 k0 b0 kt vt z ht
 simp only[g1]
 dsimp only at hu
 split at hu<;>try cases hu
 rename_i bs clock es heq
 have heq':some o=some (.oth (.map bs clock) es):=heq
 cases heq'
 dsimp only
 split at hu<;>try cases hu
 rename_i hk
 rw[if_pos hk]
 cases hf:dP L kt key es 0 with
 |none=>rw[hf] at hu;cases hu
 |some r=>
  rw[hf] at hu
  cases r with
  |none=>cases hu;rfl
  |some q=>
   obtain⟨i,x⟩:=q
   dsimp only at hu⊢
   split at hu
   ·cases hu
   ·rename_i hs
    cases hu
    rw[if_neg hs]
def sn (L:Lay) (m:Mm) (t:Nat) (mm:DV):Option (DV×Mm):=match L t with
 |some {d:=.map _ _,..}=>match mm with
  |.mp id=>match m.t.get id with
   |some (.oth (.oth (.map _ clock) _))=>some (.it m.n,dj m (.oth (.oth (.iter (some id) clock [] clock) [])))
   |_=>none
  |_=>none
 |_=>none
theorem uJ (h:MmOf m σ){t:Nat}{mm d:DV}{m':Mm} (hc:sn L m t mm=some (d,m')):∃σ',mw L σ t mm=some (d,σ')∧MmOf m' σ':=by
 unfold sn at hc
 split at hc<;>try cases hc
 rename_i q0 k0 b0 kt vt z ht
 split at hc<;>try cases hc
 rename_i id
 split at hc<;>try cases hc
 rename_i bs clock ds ho
 have g1:=h.oth ho
 refine⟨_,?_,h.push (x:=.oth (.oth (.iter (some id) clock [] clock) [])) trivial⟩
 unfold mw
 simp only[ht,g1,h.n]
 rfl
def wC (m:Mm) (it:DV):Option DV:=match it with
 |.it id=>match m.t.get id with
  |some (.oth (.oth (.iter (some mid) _ _ _) _))=>match m.t.get mid with
   |some (.oth (.oth (.map [] _) _))=>some (.tup [.bool false])
   |_=>none
  |_=>none
 |_=>none
theorem wB (h:MmOf m σ){it d:DV} (hc:wC m it=some d):qK σ it=some (d,σ):=by
 unfold wC at hc
 split at hc<;>try cases hc
 rename_i id
 split at hc<;>try cases hc
 rename_i mid since seen stepped es ho
 split at hc<;>try cases hc
 rename_i clock ds ho2
 unfold qK
 simp only[h.oth ho,h.oth ho2]
def xg (L:Lay) (m:Mm) (s t:Nat) (d:DV):Option (DV×Mm):=match L s,L t with
 |some {d:=.slice e,..},some {d:=.slice _,..}=>bx (A4 s t) (bx (ic L e) (match d with
  |.sl id g off l=>match m.t.get id with
   |some (.arr _ k ln _ _)=>bx (A4 g ln) (bx (BR 1 l) (bx (A4 k 1) (some (.sl id g off l,m)) none) none) none
   |_=>none
  |_=>none) none) none
 |some {d:=.str,..},some {d:=.slice e,..}=>bx (ic L e) (match d with
  |.str x=>bx (BR x.size 1073741824) (some (.sl m.n x.size 0 x.size,dj m (.arr e 1 x.size true (List.map (fun b:UInt8=>DV.int .u8 b.toNat) x.data.toList)))) none
  |_=>none) none
 |some {d:=.slice e,..},some {d:=.str,..}=>bx (ic L e) (match m7 m 1 d with
  |some ⟨_,_,xs⟩=>match iK xs with
   |some bs=>some (.str (jP bs),m)
   |none=>none
  |none=>none) none
 |_,_=>none
theorem xf (h:MmOf m σ){s t:Nat}{x d:DV}{m':Mm} (hc:xg L m s t x=some (d,m')):
  (gt L σ s t x=some d∧MmOf m' σ)∨(gt L σ s t x=none∧∃σ',ne L σ s t x=some (d,σ')∧MmOf m' σ'):=by
 unfold xg at hc
 split at hc<;>try cases hc
 ·rename_i q0 k0 b0 e z q1 k1 b1 e1 z1 hs ht
  right
  refine⟨by unfold gt;simp only[hs,ht],?_⟩
  rw[aN] at hc
  split at hc<;>try cases hc
  rename_i c1
  rw[a7] at hc
  split at hc<;>try cases hc
  rename_i c2
  split at hc<;>try cases hc
  rename_i id g off l
  split at hc<;>try cases hc
  rename_i t0 k ln on xs ho
  obtain⟨g1,rfl⟩:=h.arr ho
  rw[aN] at hc
  split at hc<;>try cases hc
  rename_i c3
  rw[bv] at hc
  split at hc<;>try cases hc
  rename_i c4
  rw[aN] at hc
  split at hc<;>try cases hc
  rename_i c5
  refine⟨σ,?_,h⟩
  unfold ne
  simp only[hs,ht,g1]
  rw[if_pos ⟨c1,c2⟩,if_pos ⟨c3,c4,c5⟩]
 ·rename_i q0 k0 b0 z q1 k1 b1 e z1 hs ht
  right
  refine⟨by unfold gt;simp only[hs,ht],?_⟩
  rw[a7] at hc
  split at hc<;>try cases hc
  rename_i c2
  split at hc<;>try cases hc
  rename_i y
  rw[bv] at hc
  split at hc<;>try cases hc
  rename_i c3
  refine⟨_,?_,h.push (x:=.arr e 1 y.size true (List.map (fun b:UInt8=>DV.int .u8 b.toNat) y.data.toList)) ⟨by simp,fun _=>by
   unfold bw
   rw[AS]
   intro z hz
   obtain⟨b,_,rfl⟩:=Ba.1 hz
   rfl⟩⟩
  unfold ne
  simp only[hs,ht]
  rw[if_pos c2,if_pos c3,h.n]
  rfl
 ·rename_i q0 k0 b0 e z q1 k1 b1 z1 hs ht
  left
  rw[a7] at hc
  split at hc<;>try cases hc
  rename_i c2
  split at hc<;>try cases hc
  rename_i n on xs he
  obtain⟨h1,_⟩:=kO h he
  split at hc<;>try cases hc
  rename_i bs hb
  refine⟨?_,h⟩
  unfold gt
  simp only[hs,ht]
  rw[if_pos c2,h1]
  simp only[hb,AW]
def jF (L:Lay) (e:Operand→DV) (m:Mm) (op:Op):Option DV:=match op with
 |.load t x=>oi L m t (e x)
 |.indexAddr t x i=>iaX L m t (e x) (e i)
 |.slice t x lo hi none=>rV L m t (e x) (lo.map e) (hi.map e)
 |.slice t x lo (some hi) (some mx)=>oQ L m t (e x) (lo.map e) (some (e hi)) (e mx)
 |.binOp .eql t x y _=>match eqX L m t (e x) (e y) with
  |some b=>some (.bool b)
  |none=>none
 |.binOp .neq t x y _=>match eqX L m t (e x) (e y) with
  |some b=>some (.bool (kB b))
  |none=>none
 |.lookup t mm k ok=>pm L m t (e mm) (e k) ok
 |.next it false=>wC m (e it)
 |_=>none
def vC (L:Lay) (e:Operand→DV) (m:Mm) (op:Op):Option (DV×Mm):=match op with
 |.store t p x=>match oO L m t (e p) (e x) with
  |some m'=>some (.undef,m')
  |none=>none
 |.alloc t=>kT L m t
 |.box t x=>AD m t (e x)
 |.buildSlice t n ps=>bx (A4 n 0) (bx (A4 ps.size 0) (match L t with
  |some {d:=.slice q,..}=>match L q with
   |some _=>some (.emp,m)
   |none=>none
  |_=>none) none) (bsX L m t n (co (fun p=>(p.1,e p.2)) ps.toList))
 |.makeSlice t l c=>msX L m t (e l) (e c)
 |.convert s t x=>xg L m s t (e x)
 |.makeMap _ none=>some (.mp m.n,dj m (.oth (.oth (.map [] 0) [])))
 |.mapUpdate t mm k v=>match xB L m t (e mm) (e k) (e v) with
  |some m'=>some (.undef,m')
  |none=>none
 |.insert t mm k v=>match xB L m t (e mm) (e k) (e v) with
  |some m'=>some (.undef,m')
  |none=>none
 |.range t x=>sn L m t (e x)
 |.call {callee:=.builtin .append,args,argTypes}=>match argTypes.toList,args.toList with
  | [t,t'],[a,b]=>AE L m t t' (e a) (e b)
  |_,_=>none
 |.call {callee:=.builtin .copy,args,argTypes}=>match argTypes.toList,args.toList with
  |t::_,[a,b]=>xe L m t (e a) (e b)
  |_,_=>none
 |.call {callee:=.builtin .clear,args,argTypes}=>match argTypes.toList,args.toList with
  |t::_,[a]=>s5 L m t (e a)
  |_,_=>none
 |_=>none
theorem kW (hL:af P L){env:List (Nat×DV)}{o:Oper}{d:DV} (hm:MmOf m σ) (h:jF L (ev env) m o.op=some d):ar P o ⟨env,σ⟩ d σ:=by
 have s0:∀{σ'},bU L ⟨env,σ⟩ o.op=some (d,σ')→ar P o ⟨env,σ⟩ d σ':=fun h=>ar.of_sop0 hL h
 have s1:∀{σ'},mop L ⟨env,σ⟩ o.op=some (d,σ')→ar P o ⟨env,σ⟩ d σ':=fun h=>ar.of_mop hL h
 unfold jF at h
 split at h
 case h_1 t x hop=>exact s0 (by rw[hop];simp only[bU,qO hm h,AW])
 case h_2 t x i hop=>exact s0 (by rw[hop];simp only[bU,At hm h,AW])
 case h_3 t x lo hi hop=>exact s0 (by rw[hop];simp only[bU,uu hm h,AW])
 case h_4 t x lo hi mx hop=>exact s1 (by rw[hop];simp only[mop,rW hm h,AW])
 case h_5 t x y yt hop=>
  split at h<;>cases h
  rename_i hl
  exact s1 (by rw[hop];simp only[mop,w8 hm hl,AW])
 case h_6 t x y yt hop=>
  split at h<;>cases h
  rename_i hl
  exact s1 (by rw[hop];simp only[mop,w8 hm hl,AW,iC])
 case h_7 t mm k ok hop=>exact s1 (by rw[hop];simp only[mop,sS hm h,AW])
 case h_8 it hop=>exact s1 (by rw[hop];simp only[mop,wB hm h])
 case h_9=>cases h
theorem rO (hL:af P L){env:List (Nat×DV)}{o:Oper}{d:DV}{m':Mm} (hm:MmOf m σ) (h:vC L (ev env) m o.op=some (d,m')):∃σ',ar P o ⟨env,σ⟩ d σ'∧MmOf m' σ':=by
 have s0:∀{σ'},bU L ⟨env,σ⟩ o.op=some (d,σ')→ar P o ⟨env,σ⟩ d σ':=fun h=>ar.of_sop0 hL h
 have s1:∀{σ'},mop L ⟨env,σ⟩ o.op=some (d,σ')→ar P o ⟨env,σ⟩ d σ':=fun h=>ar.of_mop hL h
 unfold vC at h
 split at h
 case h_1 t p x hop=>
  split at h<;>cases h
  rename_i hl
  obtain⟨σ',g1,g2⟩:=ut hm hl
  exact⟨σ',s0 (by rw[hop];simp only[bU,g1,AW]),g2⟩
 case h_2 t hop=>
  obtain⟨σ',g1,g2⟩:=vp (env:=env) hm h
  exact⟨σ',s0 (by rw[hop];exact g1),g2⟩
 case h_3 t x hop=>
  obtain⟨σ',g1,g2⟩:=y7 hm h
  exact⟨σ',s0 (by rw[hop];exact g1),g2⟩
 case h_4 t n ps hop=>
  simp only[aN] at h
  split at h
  ·rename_i hn
   subst hn
   split at h<;>try cases h
   rename_i hp
   split at h<;>try cases h
   rename_i q0 k0 b0 q z ht
   split at h<;>cases h
   rename_i hq
   exact⟨σ,s1 (by rw[hop];simp only[mop,ht,hq,if_pos hp]),hm⟩
  ·rename_i hn
   obtain⟨_,σ',g1,g2⟩:=AC hm h
   rw[cw] at g1
   exact⟨σ',s0 (by rw[hop];simp only[bU,if_neg hn];exact g1),g2⟩
 case h_5 t l c hop=>
  obtain⟨σ',g1,g2⟩:=zH hm h
  exact⟨σ',s0 (by rw[hop];exact g1),g2⟩
 case h_6 s t x hop=>
  rcases xf hm h with⟨g1,g2⟩|⟨g0,σ',g1,g2⟩
  ·exact⟨σ,s1 (by rw[hop];simp only[mop,g1]),g2⟩
  ·exact⟨σ',s1 (by rw[hop];simp only[mop,g0,g1]),g2⟩
 case h_7 t hop=>
  cases h
  exact⟨_,s1 (by rw[hop];simp only[mop,hm.n];rfl),hm.push (x:=.oth (.oth (.map [] 0) [])) trivial⟩
 case h_8 t mm k v hop=>
  split at h<;>cases h
  rename_i hl
  obtain⟨σ',g1,g2⟩:=tr hm hl
  exact⟨σ',s1 (by rw[hop];simp only[mop,g1,AW]),g2⟩
 case h_9 t mm k v hop=>
  split at h<;>cases h
  rename_i hl
  obtain⟨σ',g1,g2⟩:=tr hm hl
  exact⟨σ',s1 (by rw[hop];simp only[mop,g1,AW]),g2⟩
 case h_10 t x hop=>
  obtain⟨σ',g1,g2⟩:=uJ hm h
  exact⟨σ',s1 (by rw[hop];simp only[mop,g1]),g2⟩
 case h_11 args ts hop=>
  split at h<;>try cases h
  rename_i t t' a b h1 h2
  obtain⟨σ',g1,g2⟩:=za hm h
  exact⟨σ',s1 (by rw[hop];simp only[mop,h1,h2,Bf,BQ,g1]),g2⟩
 case h_12 args ts hop=>
  split at h<;>try cases h
  rename_i t r a b h1 h2
  obtain⟨σ',g1,g2⟩:=xd hm h
  exact⟨σ',s1 (by rw[hop];simp only[mop,h1,h2,Bf,BQ,g1]),g2⟩
 case h_13 args ts hop=>
  split at h<;>try cases h
  rename_i t r a h1 h2
  obtain⟨σ',g1,g2⟩:=vf hm h
  exact⟨σ',s1 (by rw[hop];simp only[mop,h1,h2,Bf,BQ,g1]),g2⟩
 case h_14=>cases h
def xop (L:Lay) (e:Operand→DV) (m:Mm) (op:Op):Option (DV×Mm):=match dY L e op with
 |some d=>some (d,m)
 |none=>match jF L e m op with
  |some d=>some (d,m)
  |none=>vC L e m op
theorem iw (hL:af P L){env:List (Nat×DV)}{o:Oper}{d:DV}{m':Mm} (hm:MmOf m σ) (h:xop L (ev env) m o.op=some (d,m')):∃σ',ar P o ⟨env,σ⟩ d σ'∧MmOf m' σ':=by
 unfold xop at h
 split at h
 ·rename_i hp
  cases h
  exact⟨σ,kX hL hp σ,hm⟩
 ·split at h
  ·rename_i hp
   cases h
   exact⟨σ,kW hL hm hp,hm⟩
  ·exact rO hL hm h
end
end
end
end Go.VL
