/- Proved: TreeTells: whatever tree, root, key and number come in (together of bulk at most 1048576), the call returns true and they read as they did; no other condition. This text is part 4 of 18. -/
import Derived.Test.YtghomgiklhbjiaaW03
import Derived.Laws.Bits64
import Derived.Laws.BitsAllLaws
set_option linter.unusedSimpArgs false
set_option linter.unusedVariables false
section
namespace Go.VL
open Go
noncomputable section
@[reducible] def bx {α:Type} (b:Bool) (t e:α):α:=@Bool.rec (fun _=>α) e t b
theorem bx_if {α:Type} (b:Bool) (t e:α):bx b t e = if b = true then t else e:=by cases b <;> rfl
def lkb (e:List (Nat × DV)) (t:Nat):DV:=@List.rec (Nat × DV) (fun _=>DV) .undef (fun p _ ih=>bx (Nat.beq p.1 t) p.2 ih) e
theorem beq_if {α:Type} (a b:Nat) (t e:α):bx (Nat.beq a b) t e = if a = b then t else e:=by
  rw [bx_if]
  by_cases h:a = b
  · rw [if_pos h,if_pos (by rw [h]; exact Nat.beq_refl b)]
  · rw [if_neg h,if_neg (fun e=>h (Nat.eq_of_beq_eq_true e))]
theorem lkb_eq (e:List (Nat × DV)) (t:Nat):lkb e t = lk e t:=by
  induction e with
  | nil=>rfl
  | cons p r ih =>
    obtain ⟨s,d⟩:=p
    show bx (Nat.beq s t) d (lkb r t) = _
    rw [beq_if,ih]
    rfl
def upb (e:List (Nat × DV)) (t:Nat) (d:DV):List (Nat × DV):=@List.rec (Nat × DV) (fun _=>List (Nat × DV)) [(t,d)] (fun p r ih=>bx (Nat.beq p.1 t) ((t,d) :: r) (p :: ih)) e
theorem upb_eq (e:List (Nat × DV)) (t:Nat) (d:DV):upb e t d = up e t d:=by
  induction e with
  | nil=>rfl
  | cons p r ih =>
    obtain ⟨s,x⟩:=p
    show bx (Nat.beq s t) ((t,d) :: r) ((s,x) :: upb r t d) = _
    rw [beq_if,ih]
    rfl
def nth {α:Type} (l:List α):Nat→Option α:=@List.rec α (fun _=>Nat→Option α) (fun _=>none) (fun x _ ih j=>bx (Nat.beq j 0) (some x) (ih (Nat.sub j 1))) l
theorem nth_eq {α:Type} (l:List α):∀ j,nth l j = l[j]?:=by
  induction l with
  | nil=>intro j; simp [nth]
  | cons x r ih =>
    intro j
    show bx (Nat.beq j 0) (some x) (nth r (j - 1)) = _
    rw [beq_if,ih]
    cases j <;> simp
def setn {α:Type} (l:List α):Nat→α→List α:=@List.rec α (fun _=>Nat→α→List α) (fun _ _=>[]) (fun x r ih j a=>bx (Nat.beq j 0) (a :: r) (x :: ih (Nat.sub j 1) a)) l
theorem setn_eq {α:Type} (l:List α):∀ j a,setn l j a = l.set j a:=by
  induction l with
  | nil=>intro j a; simp [setn]
  | cons x r ih =>
    intro j a
    show bx (Nat.beq j 0) (a :: r) (x :: setn r (j - 1) a) = _
    rw [beq_if,ih]
    cases j <;> simp
def len {α:Type} (l:List α):Nat:=@List.rec α (fun _=>Nat) 0 (fun _ _ ih=>Nat.succ ih) l
theorem len_eq {α:Type} (l:List α):len l = l.length:=by
  induction l with
  | nil=>rfl
  | cons x r ih=>show len r+1 = _; rw [ih]; rfl
def dropn {α:Type} (n:Nat) (l:List α):List α:=@List.rec α (fun _=>Nat→List α) (fun _=>[]) (fun x r ih j=>bx (Nat.beq j 0) (x :: r) (ih (Nat.sub j 1))) l n
theorem dropn_eq {α:Type} (l:List α):∀ n,dropn n l = l.drop n:=by
  induction l with
  | nil=>intro n; simp [dropn]
  | cons x r ih =>
    intro n
    show bx (Nat.beq n 0) (x :: r) (dropn (n - 1) r) = _
    rw [beq_if,ih]
    cases n <;> simp
def taken {α:Type} (n:Nat) (l:List α):List α:=@List.rec α (fun _=>Nat→List α) (fun _=>[]) (fun x _ ih j=>bx (Nat.beq j 0) [] (x :: ih (Nat.sub j 1))) l n
theorem taken_eq {α:Type} (l:List α):∀ n,taken n l = l.take n:=by
  induction l with
  | nil=>intro n; simp [taken]
  | cons x r ih =>
    intro n
    show bx (Nat.beq n 0) [] (x :: taken (n - 1) r) = _
    rw [beq_if,ih]
    cases n <;> simp
inductive Tr (α:Type) where
  | e
  | n (o:α) (l r:Tr α)
def Tr.get {α:Type} (t:Tr α):Nat→Option α:=@Tr.rec α (fun _=>Nat→Option α) (fun _=>none) (fun o _ _ gl gr i=>bx (Nat.beq i 0) (some o) (bx (Nat.beq (Nat.mod i 2) 1) (gl (Nat.div i 2)) (gr (Nat.sub (Nat.div i 2) 1)))) t
def Tr.put {α:Type} (t:Tr α):Nat→α→Tr α:=@Tr.rec α (fun _=>Nat→α→Tr α) (fun _ o=>.n o .e .e) (fun o l r gl gr i x=>bx (Nat.beq i 0) (.n x l r) (bx (Nat.beq (Nat.mod i 2) 1) (.n o (gl (Nat.div i 2) x) r) (.n o l (gr (Nat.sub (Nat.div i 2) 1) x)))) t
theorem Tr.get_n {α:Type} (o:α) (l r:Tr α) (i:Nat):(Tr.n o l r).get i = if i = 0 then some o else if i % 2 = 1 then l.get (i / 2) else r.get (i / 2 - 1):=by
  show bx (Nat.beq i 0) (some o) (bx (Nat.beq (i % 2) 1) (l.get (i / 2)) (r.get (i / 2 - 1))) = _
  rw [beq_if,beq_if]
theorem Tr.put_n {α:Type} (o:α) (l r:Tr α) (i:Nat) (x:α):(Tr.n o l r).put i x = if i = 0 then .n x l r else if i % 2 = 1 then .n o (l.put (i / 2) x) r else .n o l (r.put (i / 2 - 1) x):=by
  show bx (Nat.beq i 0) (Tr.n x l r) (bx (Nat.beq (i % 2) 1) (Tr.n o (l.put (i / 2) x) r) (Tr.n o l (r.put (i / 2 - 1) x))) = _
  rw [beq_if,beq_if]
theorem Tr.get_put {α:Type} (t:Tr α):∀ (i:Nat) (x:α) (j:Nat),(t.get i).isSome = true→(t.put i x).get j = if i = j then some x else t.get j:=by
  induction t with
  | e=>intro i x j h; cases h
  | n o l r il ir =>
    intro i x j h
    rw [Tr.get_n] at h
    rw [Tr.put_n]
    by_cases h0:i = 0
    · subst h0
      rw [if_pos rfl,Tr.get_n,Tr.get_n]
      by_cases hj:j = 0
      · subst hj; simp
      · rw [if_neg hj,if_neg (show ¬ (0 = j) from fun e=>hj e.symm),if_neg hj]
    · rw [if_neg h0] at h ⊢
      by_cases h1:i % 2 = 1
      · rw [if_pos h1] at h ⊢
        rw [Tr.get_n,Tr.get_n]
        by_cases hj:j = 0
        · rw [if_pos hj,if_pos hj,if_neg (by omega)]
        · rw [if_neg hj,if_neg hj]
          by_cases hj1:j % 2 = 1
          · rw [if_pos hj1,if_pos hj1,il _ _ _ h]
            by_cases e:i / 2 = j / 2
            · rw [if_pos e,if_pos (by omega)]
            · rw [if_neg e,if_neg (by omega)]
          · rw [if_neg hj1,if_neg hj1,if_neg (by omega)]
      · rw [if_neg h1] at h ⊢
        rw [Tr.get_n,Tr.get_n]
        by_cases hj:j = 0
        · rw [if_pos hj,if_pos hj,if_neg (by omega)]
        · rw [if_neg hj,if_neg hj]
          by_cases hj1:j % 2 = 1
          · rw [if_pos hj1,if_pos hj1,if_neg (by omega)]
          · rw [if_neg hj1,if_neg hj1,ir _ _ _ h]
            by_cases e:i / 2 - 1 = j / 2 - 1
            · rw [if_pos e,if_pos (by omega)]
            · rw [if_neg e,if_neg (by omega)]
def Tr.full {α:Type}:Tr α→Nat→Prop
  | .e,q=>q = 0
  | .n _ l r,q=>0 < q∧l.full (q / 2)∧r.full ((q - 1) / 2)
theorem Tr.put_full {α:Type} (t:Tr α):∀ (n:Nat) (x:α),t.full n→(t.put n x).full (n+1)∧∀ j,(t.put n x).get j = if j = n then some x else t.get j:=by
  induction t with
  | e =>
    intro n x h
    obtain rfl:n = 0:=h
    refine ⟨⟨by omega,rfl,rfl⟩,fun j=>?_⟩
    show (Tr.n x .e .e).get j = _
    rw [Tr.get_n]
    by_cases hj:j = 0
    · rw [if_pos hj,if_pos hj]
    · rw [if_neg hj,if_neg hj]; split <;> rfl
  | n o l r il ir =>
    intro n x ⟨h0,h1,h2⟩
    rw [Tr.put_n,if_neg (by omega)]
    by_cases hm:n % 2 = 1
    · rw [if_pos hm]
      obtain ⟨a1,a2⟩:=il (n / 2) x h1
      refine ⟨⟨by omega,by rw [show (n+1) / 2 = n / 2+1 by omega]; exact a1,by rw [show (n+1 - 1) / 2 = (n - 1) / 2 by omega]; exact h2⟩,fun j=>?_⟩
      rw [Tr.get_n,Tr.get_n]
      by_cases hj:j = 0
      · rw [if_pos hj,if_pos hj,if_neg (by omega)]
      · rw [if_neg hj,if_neg hj]
        by_cases hj1:j % 2 = 1
        · rw [if_pos hj1,if_pos hj1,a2]
          by_cases e:j / 2 = n / 2
          · rw [if_pos e,if_pos (by omega)]
          · rw [if_neg e,if_neg (by omega)]
        · rw [if_neg hj1,if_neg hj1,if_neg (by omega)]
    · rw [if_neg hm]
      obtain ⟨a1,a2⟩:=ir (n / 2 - 1) x (by rw [show n / 2 - 1 = (n - 1) / 2 by omega]; exact h2)
      refine ⟨⟨by omega,by rw [show (n+1) / 2 = n / 2 by omega]; exact h1,by rw [show (n+1 - 1) / 2 = n / 2 - 1+1 by omega]; exact a1⟩,fun j=>?_⟩
      rw [Tr.get_n,Tr.get_n]
      by_cases hj:j = 0
      · rw [if_pos hj,if_pos hj,if_neg (by omega)]
      · rw [if_neg hj,if_neg hj]
        by_cases hj1:j % 2 = 1
        · rw [if_pos hj1,if_pos hj1,if_neg (by omega)]
        · rw [if_neg hj1,if_neg hj1,a2]
          by_cases e:j / 2 - 1 = n / 2 - 1
          · rw [if_pos e,if_pos (by omega)]
          · rw [if_neg e,if_neg (by omega)]
def allOne (xs:List DV):Bool:=xs.all fun y=>y.cells.all DV.one
inductive FO where
  | arr (t k ln:Nat) (on:Bool) (xs:List DV)
  | oth (o:Ob)
def FO.ob:FO→Ob
  | .arr t k _ _ xs=>.arr t k xs
  | .oth o=>o
def FO.good:FO→Prop
  | .arr _ _ ln on xs=>ln = xs.length∧(on = true→allOne xs = true)
  | .oth (.arr ..)=>False
  | .oth _=>True
structure Mm where
  t:Tr FO
  n:Nat
structure MmOf (m:Mm) (σ:List Ob):Prop where
  n:m.n = σ.length
  full:m.t.full m.n
  get:∀ i,(m.t.get i).map FO.ob = σ[i]?
  good:∀ i o,m.t.get i = some o→o.good
theorem MmOf.put {m:Mm} {σ:List Ob} (h:MmOf m σ) {i:Nat} {o x:FO} (ho:m.t.get i = some o) (hx:x.good):MmOf ⟨m.t.put i x,m.n⟩ (σ.set i x.ob):=by
  have h1:σ[i]? = some o.ob:=by rw [← h.get,ho]; rfl
  have hlt:=(List.getElem?_eq_some_iff.1 h1).1
  have hg:∀ j,(m.t.put i x).get j = if i = j then some x else m.t.get j:=fun j=>Tr.get_put _ _ _ _ (by rw [ho]; rfl)
  refine ⟨by simpa using h.n,?_,fun j=>?_,fun j q hq=>?_⟩
  · -- the shape stays
    have key:∀ (t:Tr FO) (n i:Nat),t.full n→(t.get i).isSome = true→(t.put i x).full n:=by
      intro t
      induction t with
      | e=>intro _ _ _ hs; cases hs
      | n o l r il ir =>
        intro n i ⟨a,b,c⟩ hs
        rw [Tr.get_n] at hs
        rw [Tr.put_n]
        by_cases h0:i = 0
        · rw [if_pos h0]; exact ⟨a,b,c⟩
        · rw [if_neg h0] at hs ⊢
          by_cases h1:i % 2 = 1
          · rw [if_pos h1] at hs ⊢; exact ⟨a,il _ _ b hs,c⟩
          · rw [if_neg h1] at hs ⊢; exact ⟨a,b,ir _ _ c hs⟩
    exact key _ _ _ h.full (by rw [ho]; rfl)
  · show ((m.t.put i x).get j).map FO.ob = _
    rw [hg,set_get hlt]
    split
    · rfl
    · exact h.get j
  · have hq':(m.t.put i x).get j = some q:=hq
    rw [hg] at hq'
    split at hq'
    · cases hq'; exact hx
    · exact h.good j q hq'
theorem MmOf.push {m:Mm} {σ:List Ob} (h:MmOf m σ) {x:FO} (hx:x.good):MmOf ⟨m.t.put m.n x,Nat.succ m.n⟩ (σ ++ [x.ob]):=by
  obtain ⟨a1,a2⟩:=m.t.put_full m.n x h.full
  refine ⟨by simp [h.n],a1,fun j=>?_,fun j q hq=>?_⟩
  · show ((m.t.put m.n x).get j).map FO.ob = _
    rw [a2,push_get,h.n]
    split
    · rfl
    · exact h.get j
  · have hq':(m.t.put m.n x).get j = some q:=hq
    rw [a2] at hq'
    split at hq'
    · cases hq'; exact hx
    · exact h.good j q hq'
theorem MmOf.arr {m:Mm} {σ:List Ob} (h:MmOf m σ) {i t k ln:Nat} {on:Bool} {xs:List DV} (ho:m.t.get i = some (.arr t k ln on xs)):σ[i]? = some (.arr t k xs)∧ln = xs.length :=
  ⟨by rw [← h.get,ho]; rfl,(h.good _ _ ho).1⟩
theorem MmOf.ones {m:Mm} {σ:List Ob} (h:MmOf m σ) {i t k ln:Nat} {on:Bool} {xs:List DV} (ho:m.t.get i = some (.arr t k ln on xs)):on = true→allOne xs = true:=(h.good _ _ ho).2
theorem MmOf.oth {m:Mm} {σ:List Ob} (h:MmOf m σ) {i:Nat} {o:Ob} (ho:m.t.get i = some (.oth o)):σ[i]? = some o:=by rw [← h.get,ho]; rfl
end
end Go.VL
end
section
namespace Go.VL
open Go
noncomputable section
def maxN:IntKind→Nat
  | .i8=>127
  | .u8=>255
  | .i16=>32767
  | .u16=>65535
  | .i32=>2147483647
  | .u32=>4294967295
  | .i64=>9223372036854775807
  | .u64=>18446744073709551615
theorem wrap_in {k:IntKind} {m:Nat} (h:m≤maxN k):k.wrap (m:Int) = m:=by
  cases k <;> simp only [maxN] at h
  · exact IntWalk.i8_in _ (by omega)
  · exact IntWalk.i16_in _ (by omega)
  · exact IntWalk.i32_in _ (by omega)
  · exact IntWalk.i64_in _ (by omega)
  · exact IntWalk.u8_in _ (by omega)
  · exact IntWalk.u16_in _ (by omega)
  · exact IntWalk.u32_in _ (by omega)
  · exact IntWalk.u64_in _ (by omega)
theorem ble_if {α:Type} (a b:Nat) (t e:α):bx (Nat.ble a b) t e = if a≤b then t else e:=by
  rw [bx_if]
  by_cases h:a≤b
  · rw [if_pos h,if_pos (Nat.ble_eq_true_of_le h)]
  · rw [if_neg h,if_neg (fun e=>h (Nat.le_of_ble_eq_true e))]
def wrapx (k:IntKind) (n:Int):Int:=match n with
  | .ofNat m=>bx (Nat.ble m (maxN k)) (.ofNat m) (match k with
    | .u8=>.ofNat (Nat.mod m 256)
    | .u32=>.ofNat (Nat.mod m 4294967296)
    | .u64=>.ofNat (Nat.mod m 18446744073709551616)
    | k=>k.wrap (.ofNat m))
  | .negSucc m=>match k with
    | .i64=>bx (Nat.ble m 9223372036854775807) (.negSucc m) (IntKind.wrap .i64 (.negSucc m))
    | k=>k.wrap (.negSucc m)
theorem wrapx_eq (k:IntKind) (n:Int):wrapx k n = k.wrap n:=by
  cases n with
  | ofNat m =>
    simp only [wrapx]
    rw [ble_if]
    split
    · rename_i h; exact (wrap_in h).symm
    · cases k
      case u8=>rw [IntKind.wrap_u8]; rfl
      case u32=>rw [IntKind.wrap_u32]; rfl
      case u64=>rw [IntKind.wrap_u64]; rfl
      all_goals rfl
  | negSucc m =>
    simp only [wrapx]
    cases k
    case i64 =>
      dsimp only
      rw [ble_if]
      split
      · rename_i h
        exact (IntWalk.i64_in _ (by rw [Int.negSucc_eq]; omega)).symm
      · rfl
    all_goals rfl
def ltx (a b:Int):Bool:=match a,b with
  | .ofNat m,.ofNat n=>Nat.ble (Nat.succ m) n
  | .ofNat _,.negSucc _=>false
  | .negSucc _,.ofNat _=>true
  | .negSucc m,.negSucc n=>Nat.ble (Nat.succ n) m
theorem ltx_iff (a b:Int):ltx a b = true ↔ a < b:=by
  cases a <;> cases b <;> simp only [ltx,Nat.ble_eq,Bool.false_eq_true,false_iff,true_iff,Int.negSucc_eq,Int.ofNat_eq_natCast,Nat.succ_eq_add_one] <;> omega
theorem ltx_eq (a b:Int):ltx a b = decide (a < b):=by
  by_cases h:a < b
  · rw [(ltx_iff a b).2 h,decide_eq_true h]
  · rw [decide_eq_false h]
    cases e:ltx a b with
    | false=>rfl
    | true=>exact absurd ((ltx_iff a b).1 e) h
def eqx (a b:Int):Bool:=match a,b with
  | .ofNat m,.ofNat n=>Nat.beq m n
  | .negSucc m,.negSucc n=>Nat.beq m n
  | _,_=>false
theorem eqx_iff (a b:Int):eqx a b = true ↔ a = b:=by
  cases a <;> cases b <;> simp only [eqx,Nat.beq_eq,Bool.false_eq_true,false_iff,Int.ofNat.injEq,Int.negSucc.injEq,reduceCtorEq,not_false_eq_true]
theorem eqx_eq (a b:Int):eqx a b = (a == b):=by
  by_cases h:a = b
  · rw [(eqx_iff a b).2 h,h]; simp
  · have:(a == b) = false:=by simpa using h
    rw [this]
    cases e:eqx a b with
    | false=>rfl
    | true=>exact absurd ((eqx_iff a b).1 e) h
def notx (b:Bool):Bool:=bx b false true
theorem notx_eq (b:Bool):notx b = !b:=by cases b <;> rfl
theorem maxN_lt (k:IntKind):maxN k < 2 ^ k.bits:=by cases k <;> simp [maxN,IntKind.bits]
theorem ofInt_toNat {k:IntKind} {m:Nat} (h:m≤maxN k):(BitVec.ofInt k.bits (m:Int)).toNat = m:=by
  rw [BitVec.ofInt_natCast,BitVec.toNat_ofNat]
  exact Nat.mod_eq_of_lt (Nat.lt_of_le_of_lt h (maxN_lt k))
theorem maxN_pow (k:IntKind):∃ e,maxN k = 2 ^ e - 1:=by
  cases k
  · exact ⟨7,rfl⟩
  · exact ⟨15,rfl⟩
  · exact ⟨31,rfl⟩
  · exact ⟨63,rfl⟩
  · exact ⟨8,rfl⟩
  · exact ⟨16,rfl⟩
  · exact ⟨32,rfl⟩
  · exact ⟨64,rfl⟩
def bitx (op:BinOp) (k:IntKind) (a b:Int):Int:=match a,b with
  | .ofNat m,.ofNat n=>bx (Nat.ble m (maxN k)) (bx (Nat.ble n (maxN k)) (match op with
    | .and=>.ofNat (Nat.land m n)
    | .or=>.ofNat (Nat.lor m n)
    | .xor=>.ofNat (Nat.xor m n)
    | op=>bits k op (.ofNat m) (.ofNat n)) (bits k op (.ofNat m) (.ofNat n))) (bits k op (.ofNat m) (.ofNat n))
  | a,b=>bits k op a b
theorem bitx_eq (op:BinOp) (k:IntKind) (a b:Int):bitx op k a b = bits k op a b:=by
  cases a with
  | negSucc m=>rfl
  | ofNat m =>
    cases b with
    | negSucc n=>rfl
    | ofNat n =>
      simp only [bitx]
      rw [ble_if,ble_if]
      split
      · rename_i hm
        split
        · rename_i hn
          obtain ⟨e,he⟩:=maxN_pow k
          have hpos:0 < 2 ^ e:=Nat.two_pow_pos e
          have lm:m < 2 ^ e:=by omega
          have ln:n < 2 ^ e:=by omega
          cases op <;> first | rfl | skip
          · show ((m &&& n:Nat):Int) = k.wrap _
            rw [BitVec.toNat_and,show (Int.ofNat m) = (m:Int) from rfl,show (Int.ofNat n) = (n:Int) from rfl,ofInt_toNat hm,ofInt_toNat hn]
            exact (wrap_in (by have:=Nat.and_lt_two_pow m ln; omega)).symm
          · show ((m ||| n:Nat):Int) = k.wrap _
            rw [BitVec.toNat_or,show (Int.ofNat m) = (m:Int) from rfl,show (Int.ofNat n) = (n:Int) from rfl,ofInt_toNat hm,ofInt_toNat hn]
            exact (wrap_in (by have:=Nat.or_lt_two_pow lm ln; omega)).symm
          · show ((m ^^^ n:Nat):Int) = k.wrap _
            rw [BitVec.toNat_xor,show (Int.ofNat m) = (m:Int) from rfl,show (Int.ofNat n) = (n:Int) from rfl,ofInt_toNat hm,ofInt_toNat hn]
            exact (wrap_in (by have:=Nat.xor_lt_two_pow lm ln; omega)).symm
        · rfl
      · rfl
def binx (op:BinOp) (k:IntKind) (a b:Int):Option DV:=match op with
  | .add=>some (.int k (wrapx k (Int.add a b)))
  | .sub=>some (.int k (wrapx k (Int.sub a b)))
  | .mul=>some (.int k (wrapx k (Int.mul a b)))
  | .and=>some (.int k (bitx .and k a b))
  | .or=>some (.int k (bitx .or k a b))
  | .xor=>some (.int k (bitx .xor k a b))
  | .eql=>some (.bool (eqx a b))
  | .neq=>some (.bool (notx (eqx a b)))
  | .lss=>some (.bool (ltx a b))
  | .leq=>some (.bool (notx (ltx b a)))
  | .gtr=>some (.bool (ltx b a))
  | .geq=>some (.bool (notx (ltx a b)))
  | op=>binInt op k a b
theorem binx_eq (op:BinOp) (k:IntKind) (a b:Int):binx op k a b = binInt op k a b:=by
  cases op <;> first | rfl | skip
  · simp only [binx,binInt,wrapx_eq]; rfl
  · simp only [binx,binInt,wrapx_eq]; rfl
  · simp only [binx,binInt,wrapx_eq]; rfl
  · simp only [binx,binInt,bitx_eq]
  · simp only [binx,binInt,bitx_eq]
  · simp only [binx,binInt,bitx_eq]
  · simp only [binx,binInt,eqx_eq]
  · simp only [binx,binInt,eqx_eq,notx_eq]; first | done | rfl
  · simp only [binx,binInt,ltx_eq]
  · simp only [binx,binInt,ltx_eq,notx_eq,← decide_not,Int.not_lt]
  · simp only [binx,binInt,ltx_eq]; first | done | rfl
  · simp only [binx,binInt,ltx_eq,notx_eq,← decide_not,Int.not_lt]; first | done | rfl
def shx (op:BinOp) (k:IntKind) (a b:Int):Option DV:=match a,b with
  | .ofNat m,.ofNat n=>bx (Nat.ble n k.bits) (match op with
    | .shr=>some (.int k (.ofNat (Nat.shiftRight m n)))
    | .shl=>some (.int k (wrapx k (.ofNat (Nat.shiftLeft m n))))
    | op=>shiftInt op k (.ofNat m) (.ofNat n)) (shiftInt op k (.ofNat m) (.ofNat n))
  | a,b=>shiftInt op k a b
theorem shx_eq (op:BinOp) (k:IntKind) (a b:Int):shx op k a b = shiftInt op k a b:=by
  cases a with
  | negSucc m=>rfl
  | ofNat m =>
    cases b with
    | negSucc n=>rfl
    | ofNat n =>
      simp only [shx]
      rw [ble_if]
      split
      · rename_i hn
        have h0:¬ (Int.ofNat n < 0):=by simp
        cases op <;> first | rfl | skip
        · simp only [wrapx_eq,shiftInt,if_neg h0]
          congr 3
          have:min (Int.ofNat n).toNat k.bits = n:=by simp [Nat.min_eq_left hn]
          rw [this]
          show ((m <<< n:Nat):Int) = (m:Int) * 2 ^ n
          rw [Nat.shiftLeft_eq]
          simp
        · simp only [shiftInt,if_neg h0]
          congr 2
          have:min (Int.ofNat n).toNat k.bits = n:=by simp [Nat.min_eq_left hn]
          rw [this]
          show ((m >>> n:Nat):Int) = (m:Int).fdiv (2 ^ n)
          rw [Nat.shiftRight_eq_div_pow]
          rw [show ((2:Int) ^ n) = ((2 ^ n:Nat):Int) by simp,Int.fdiv_eq_ediv_of_nonneg _ (Int.natCast_nonneg _)]
          simp
      · rfl
end
end Go.VL
end
section
namespace Go.VL
open Go
noncomputable section
def appx {α:Type} (a b:List α):List α:=@List.rec α (fun _=>List α) b (fun x _ ih=>x :: ih) a
theorem appx_eq {α:Type} (a b:List α):appx a b = a ++ b:=by
  induction a with
  | nil=>rfl
  | cons x r ih=>show x :: appx r b = _; rw [ih]; rfl
def allx {α:Type} (p:α→Bool) (l:List α):Bool:=@List.rec α (fun _=>Bool) true (fun x _ ih=>bx (p x) ih false) l
theorem allx_eq {α:Type} (p:α→Bool) (l:List α):allx p l = l.all p:=by
  induction l with
  | nil=>rfl
  | cons x r ih=>show bx (p x) (allx p r) false = _; rw [ih,List.all_cons]; cases p x <;> rfl
def mapx {α β:Type} (f:α→β) (l:List α):List β:=@List.rec α (fun _=>List β) [] (fun x _ ih=>f x :: ih) l
theorem mapx_eq {α β:Type} (f:α→β) (l:List α):mapx f l = l.map f:=by
  induction l with
  | nil=>rfl
  | cons x r ih=>show f x :: mapx f r = _; rw [ih]; rfl
def kidx:IntKind→Nat
  | .i8=>0
  | .i16=>1
  | .i32=>2
  | .i64=>3
  | .u8=>4
  | .u16=>5
  | .u32=>6
  | .u64=>7
theorem kidx_iff (a b:IntKind):kidx a = kidx b ↔ a = b:=by
  constructor
  · intro h; cases a <;> cases b <;> first | rfl | (simp [kidx] at h)
  · rintro rfl; rfl
def eqs (a b:List Nat):Bool:=@List.rec Nat (fun _=>List Nat→Bool) (fun b=>match b with
    | []=>true
    | _=>false) (fun x _ ih b=>match b with
    | []=>false
    | y :: r=>bx (Nat.beq x y) (ih r) false) a b
theorem eqs_iff (a:List Nat):∀ b,eqs a b = true ↔ a = b:=by
  induction a with
  | nil=>intro b; cases b <;> simp [eqs]
  | cons x r ih =>
    intro b
    cases b with
    | nil=>simp [eqs]
    | cons y s =>
      show bx (Nat.beq x y) (eqs r s) false = true ↔ _
      rw [beq_if]
      by_cases h:x = y
      · rw [if_pos h,ih s]; simp [h]
      · rw [if_neg h]; simp [h]
def seqx (x y:ByteArray):Bool:=eqs (mapx UInt8.toNat x.data.toList) (mapx UInt8.toNat y.data.toList)
theorem seqx_eq (x y:ByteArray):seqx x y = (x.toList == y.toList):=by
  rw [ByteArray.toList_eq,ByteArray.toList_eq]
  unfold seqx
  rw [mapx_eq,mapx_eq]
  have inj:x.data.toList.map UInt8.toNat = y.data.toList.map UInt8.toNat ↔ x.data.toList = y.data.toList:=by
    constructor
    · intro h
      exact (List.map_inj_right (fun _ _ e=>UInt8.toNat_inj.1 e)).1 h
    · intro h; rw [h]
  by_cases h:x.data.toList = y.data.toList
  · rw [(eqs_iff _ _).2 (inj.2 h),h]; simp
  · have:(x.data.toList == y.data.toList) = false:=by simpa using h
    rw [this]
    cases e:eqs (x.data.toList.map UInt8.toNat) (y.data.toList.map UInt8.toNat) with
    | false=>rfl
    | true=>exact absurd (inj.1 ((eqs_iff _ _).1 e)) h
def binD (L:Lay) (op:BinOp) (t:Nat) (a b:DV):Option DV:=match a,b with
  | .int k x,.int k' y=>match op with
    | .shl=>shx .shl k x y
    | .shr=>shx .shr k x y
    | op=>bx (Nat.beq (kidx k) (kidx k')) (binx op k x y) none
  | .str x,.str y=>match op with
    | .eql=>some (.bool (seqx x y))
    | .neq=>some (.bool (notx (seqx x y)))
    | op=>match binDV L op t (.str x) (.str y) with
      | some d=>some d
      | none=>none
  | a,b=>match binDV L op t a b with
    | some d=>some d
    | none=>none
theorem binD_eq (L:Lay) (op:BinOp) (t:Nat) (a b:DV):binD L op t a b = binDV L op t a b:=by
  unfold binD
  split
  · unfold binDV
    cases op <;> simp only [shx_eq,binx_eq,beq_if,kidx_iff]
  · rename_i x y
    cases op
    case eql=>simp only [seqx_eq,binDV,binStr]
    case neq=>simp only [seqx_eq,notx_eq,binDV,binStr]
    all_goals
      dsimp only
      split
      · rename_i h; exact h.symm
      · rename_i h; exact h.symm
  · cases binDV L op t a b <;> rfl
def unx (op:UnOp) (a:DV):Option DV:=match op,a with
  | .not,.bool b=>some (.bool (notx b))
  | .xor,.int .u32 n=>some (.int .u32 (bitx .xor .u32 4294967295 n))
  | .neg,.int k n=>some (.int k (wrapx k (Int.sub 0 n)))
  | op,a=>un op a
theorem unx_eq (op:UnOp) (a:DV):unx op a = un op a:=by
  unfold unx
  split
  · rw [notx_eq]; rfl
  · rw [bitx_eq]; rfl
  · rw [wrapx_eq]; rfl
  · rfl
def minx (a b:Int):Int:=bx (ltx b a) b a
def maxx (a b:Int):Int:=bx (ltx a b) b a
theorem minx_eq (a b:Int):minx a b = mn a b:=by
  unfold minx mn
  rw [ltx_eq,bx_if]
  by_cases h:b < a <;> simp [h]
theorem maxx_eq (a b:Int):maxx a b = mx a b:=by
  unfold maxx mx
  rw [ltx_eq,bx_if]
  by_cases h:a < b <;> simp [h]
def xpure (L:Lay) (e:Operand→DV) (op:Op):Option DV:=match op with
  | .move x=>some (e x)
  | .assign x=>some (e x)
  | .pick c a b=>match e c with
    | .bool q=>some (bx q (e a) (e b))
    | _=>none
  | .binOp op t x y _=>binD L op t (e x) (e y)
  | .unOp op _ x=>unx op (e x)
  | .convert s t x=>match e x with
    | .int _ n=>match L t with
      | some { d:=.int k,.. }=>match L s with
        | some _=>some (.int k (wrapx k n))
        | none=>none
      | _=>none
    | d=>convDV L s t d
  | .extract x i=>match e x with
    | .tup xs=>nth xs i
    | _=>none
  | .field t x f=>fieldDV L t (e x) f
  | .fieldAddr t x f=>match L t with
    | some { d:=.struct fs,.. }=>match nth fs f with
      | some (off,ft)=>match L ft with
        | some ti=>bx (Nat.beq ti.k 0) none (match e x with
          | .ptr id g j o=>some (.ptr id g j (Nat.add o off))
          | .vptr c cs=>some (.vptr c (cs.drop off))
          | _=>none)
        | none=>none
      | none=>none
    | _=>none
  | .build t ps=>buildDV L t (mapx (fun p=>(p.1,e p.2)) ps.toList)
  | .makeFunc (.func f) first caps=>bx (Nat.beq first.size 0) (some (.fn f (mapx e caps.toList))) none
  | .makeInterface t x=>match L t with
    | some _=>some (.iface t (e x))
    | none=>none
  | .nilCheck x=>match e x with
    | .ptr id g j o=>some (.ptr id g j o)
    | .vptr c cs=>some (.vptr c cs)
    | .fn f caps=>some (.fn f caps)
    | .iface t x=>some (.iface t x)
    | _=>none
  | .call { callee:=.builtin .min,args,.. }=>match args.toList with
    | [x,y]=>match e x,e y with
      | .int k a,.int _ b=>some (.int k (minx a b))
      | _,_=>none
    | _=>none
  | .call { callee:=.builtin .max,args,.. }=>match args.toList with
    | [x,y]=>match e x,e y with
      | .int k a,.int _ b=>some (.int k (maxx a b))
      | _,_=>none
    | _=>none
  | .call { callee:=.builtin .len,args,argTypes }=>match args.toList,argTypes.toList with
    | [x],[t]=>lenDV L t (e x)
    | _,_=>none
  | .index t x i=>indexDV L t (e x) (e i)
  | .typeAssert x _ t true=>taM L (e x) t
  | _=>none
theorem xpure_sound {P:Program} {L:Lay} (hL:LayOk P L) {env:List (Nat × DV)} {o:Oper} {d:DV} (h:xpure L (ev env) o.op = some d) (σ:List Ob):OpRun P o ⟨env,σ⟩ d σ:=by
  have s0:sop0 L ⟨env,σ⟩ o.op = some (d,σ)→OpRun P o ⟨env,σ⟩ d σ:=OpRun.of_sop0 hL
  have s1:mop L ⟨env,σ⟩ o.op = some (d,σ)→OpRun P o ⟨env,σ⟩ d σ:=OpRun.of_mop hL
  unfold xpure at h
  split at h
  case h_1 x hop=>refine s0 ?_; rw [hop]; simp only [sop0]; rw [Option.some.inj h]
  case h_2 x hop=>refine s0 ?_; rw [hop]; simp only [sop0]; rw [Option.some.inj h]
  case h_3 c a b hop =>
    split at h <;> try cases h
    rename_i q hq
    refine s0 ?_; rw [hop]; simp only [sop0,hq,bx_if]
  case h_4 op t x y yt hop =>
    rw [binD_eq] at h
    refine s0 ?_; rw [hop]; simp only [sop0,h,Option.map_some]
  case h_5 op t x hop =>
    rw [unx_eq] at h
    refine s0 ?_; rw [hop]; simp only [sop0,h,Option.map_some]
  case h_6 s t x hop =>
    refine s0 ?_; rw [hop]
    split at h
    · rename_i k0 n hx
      split at h <;> try cases h
      rename_i q1 k1 b1 k z ht
      split at h <;> try cases h
      rename_i ti hs
      simp only [sop0,hx,convDV,hs,ht,wrapx_eq,Option.map_some]
    · simp only [sop0,h,Option.map_some]
  case h_7 x i hop =>
    split at h <;> try cases h
    rename_i xs hx
    rw [nth_eq] at h
    refine s0 ?_; rw [hop]; simp only [sop0,hx,h,Option.map_some]
  case h_8 t x f hop=>refine s0 ?_; rw [hop]; simp only [sop0,h,Option.map_some]
  case h_9 t x f hop =>
    split at h <;> try cases h
    rename_i q0 k0 b0 fs z ht
    split at h <;> try cases h
    rename_i off ft hf
    split at h <;> try cases h
    rename_i ti hti
    rw [beq_if] at h
    rw [nth_eq] at hf
    refine s0 ?_; rw [hop]; simp only [sop0,fieldAddrDV,ht,hf,hti]
    split at h <;> try cases h
    rename_i hk
    rw [if_neg hk]
    split at h <;> try cases h
    · rename_i hx; simp only [hx,Option.map_some]; rfl
    · rename_i hx; simp only [hx,Option.map_some]
  case h_10 t ps hop =>
    rw [mapx_eq] at h
    refine s0 ?_; rw [hop]; simp only [sop0,h,Option.map_some]
  case h_11 f first caps hop =>
    rw [beq_if] at h
    split at h <;> try cases h
    rename_i hf
    refine s0 ?_; rw [hop]; simp only [sop0,if_pos hf,mapx_eq]
  case h_12 t x hop =>
    split at h <;> try cases h
    rename_i ht
    refine s0 ?_; rw [hop]; simp only [sop0,ht]
  case h_13 x hop =>
    split at h <;> try cases h
    all_goals
      rename_i hx
      refine s0 ?_; rw [hop]; simp only [sop0,hx]
  case h_14 args ts hop =>
    split at h <;> try cases h
    rename_i x y ha
    split at h <;> try cases h
    rename_i k a k' b hx hy
    refine s0 ?_; rw [hop]; simp only [sop0,bi,ha,List.map_cons,List.map_nil,hx,hy,minDV,minx_eq,Option.map_some]
  case h_15 args ts hop =>
    split at h <;> try cases h
    rename_i x y ha
    split at h <;> try cases h
    rename_i k a k' b hx hy
    refine s0 ?_; rw [hop]; simp only [sop0,bi,ha,List.map_cons,List.map_nil,hx,hy,maxDV,maxx_eq,Option.map_some]
  case h_16 args ts hop =>
    split at h <;> try cases h
    rename_i x t ha ht
    refine s0 ?_; rw [hop]; simp only [sop0,bi,ha,ht,List.map_cons,List.map_nil,h,Option.map_some]
  case h_17 t x i hop=>refine s1 ?_; rw [hop]; simp only [mop,h,Option.map_some]
  case h_18 x xt t hop=>refine s1 ?_; rw [hop]; simp only [mop,h,Option.map_some]
  case h_19=>cases h
end
end Go.VL
end
section
namespace Go.VL
open Go
noncomputable section
section
variable {P:Program} {L:Lay} {m:Mm} {σ:List Ob}
def cellsX (m:Mm):DV→Option (List DV)
  | .ptr id g j o=>match m.t.get id with
    | some (.arr _ _ ln _ xs)=>bx (Nat.beq g ln) (match nth xs j with
      | some x=>some (dropn o x.cells)
      | none=>none) none
    | _=>none
  | .vptr _ cs=>some cs
  | _=>none
theorem cellsX_ok (h:MmOf m σ) {d:DV} {cs:List DV} (hc:cellsX m d = some cs):cellsAt σ d = some cs:=by
  unfold cellsX at hc
  split at hc <;> try cases hc
  · rename_i id g j o
    split at hc <;> try cases hc
    rename_i t k ln on xs ho
    obtain ⟨h1,rfl⟩:=h.arr ho
    rw [beq_if] at hc
    split at hc <;> try cases hc
    rename_i hg
    split at hc <;> try cases hc
    rename_i x hx
    rw [nth_eq] at hx
    simp only [cellsAt,h1,if_pos hg,hx,dropn_eq,Option.map_some]
  · rfl
def loadX (L:Lay) (m:Mm) (t:Nat) (d:DV):Option DV:=match L t,cellsX m d with
  | some ti,some cs=>match ti.d.isAgg with
    | true=>bx (Nat.ble ti.k (len cs)) (some (.agg (taken ti.k cs))) none
    | false=>nth cs 0
  | _,_=>none
theorem loadX_ok (h:MmOf m σ) {t:Nat} {d d':DV} (hc:loadX L m t d = some d'):loadDV L σ t d = some d':=by
  unfold loadX at hc
  split at hc <;> try cases hc
  rename_i ti cs ht hcs
  unfold loadDV
  rw [ht,cellsX_ok h hcs]
  dsimp only
  split at hc
  · rename_i ha
    rw [ble_if,len_eq] at hc
    rw [if_pos ha]
    split at hc <;> try cases hc
    rename_i hk
    rw [if_pos hk,taken_eq]
  · rename_i ha
    rw [if_neg (by rw [ha]; simp)]
    rw [nth_eq] at hc
    exact hc
def storeX (L:Lay) (m:Mm) (t:Nat) (p x:DV):Option Mm:=match L t with
  | some ti=>bx (Nat.beq (len x.cells) ti.k) (bx (Nat.ble 1 ti.k) (bx (allx DV.one x.cells) (match p with
    | .ptr id g j o=>match m.t.get id with
      | some (.arr t0 k ln on xs)=>bx (Nat.beq g ln) (match nth xs j with
        | some y=>bx (Nat.ble (Nat.add o ti.k) (len y.cells)) (some ⟨m.t.put id (.arr t0 k ln on (setn xs j (setCells y o x.cells))),m.n⟩) none
        | none=>none) none
      | _=>none
    | _=>none) none) none) none
  | none=>none
theorem allOne_set {xs:List DV} {j o:Nat} {y:DV} {new:List DV} (h:allOne xs = true) (hy:xs[j]? = some y) (hn:∀ d ∈ new,d.one = true) (hl:o+new.length≤y.cells.length) (h0:0 < new.length):allOne (xs.set j (setCells y o new)) = true:=by
  unfold allOne at h ⊢
  rw [List.all_eq_true] at h ⊢
  intro z hz
  rcases List.mem_or_eq_of_mem_set hz with hz | rfl
  · exact h z hz
  · rw [setCells_cells hn hl h0,List.all_eq_true]
    have hyc:=List.all_eq_true.1 (h y (List.mem_of_getElem? hy))
    intro d hd
    rw [List.mem_append,List.mem_append] at hd
    rcases hd with (hd | hd) | hd
    · exact hyc d (List.mem_of_mem_take hd)
    · exact hn d hd
    · exact hyc d (List.mem_of_mem_drop hd)
theorem storeX_ok (h:MmOf m σ) {t:Nat} {p x:DV} {m':Mm} (hc:storeX L m t p x = some m'):∃ σ',storeDV L σ t p x = some σ'∧MmOf m' σ':=by
  unfold storeX at hc
  split at hc <;> try cases hc
  rename_i ti ht
  simp only [beq_if,ble_if] at hc
  simp only [bx_if,len_eq,allx_eq] at hc
  split at hc <;> try cases hc
  rename_i h1
  split at hc <;> try cases hc
  rename_i h2
  split at hc <;> try cases hc
  rename_i h3
  split at hc <;> try cases hc
  rename_i id g j o
  split at hc <;> try cases hc
  rename_i t0 k ln on xs ho
  obtain ⟨h4,rfl⟩:=h.arr ho
  split at hc <;> try cases hc
  rename_i hg
  split at hc <;> try cases hc
  rename_i y hy
  split at hc <;> try cases hc
  rename_i hfit
  rw [nth_eq] at hy
  refine ⟨σ.set id (.arr t0 k (xs.set j (setCells y o x.cells))),?_,?_⟩
  · unfold storeDV
    rw [ht]
    dsimp only
    rw [if_pos ⟨h1,h2,h3⟩,h4]
    dsimp only
    rw [if_pos hg,hy]
    dsimp only
    exact if_pos hfit
  · rw [setn_eq]
    refine h.put ho (x:=.arr t0 k xs.length on (xs.set j (setCells y o x.cells))) ⟨by simp,fun e=>allOne_set (h.ones ho e) hy ?_ (by rw [h1]; exact hfit) (by rw [h1]; exact h2)⟩
    exact List.all_eq_true.1 h3
def iaX (L:Lay) (m:Mm) (t:Nat) (d i:DV):Option DV:=match i with
  | .int _ (.ofNat q)=>match L t with
    | some { d:=.slice e,.. }=>match L e with
      | some te=>match d with
        | .sl id g off l=>match m.t.get id with
          | some (.arr _ k ln _ _)=>bx (Nat.beq te.k k) (bx (Nat.beq g ln) (bx (Nat.ble (Nat.succ q) l) (some (.ptr id g (Nat.add off q) 0)) none) none) none
          | _=>none
        | .vec c k xs=>indexAddrDV L [] t (.vec c k xs) i
        | _=>none
      | none=>none
    | some { d:=.array n e,.. }=>match L e with
      | some te=>bx (Nat.ble (Nat.succ q) n) (match d with
        | .ptr id g j o=>some (.ptr id g j (Nat.add o (Nat.mul q te.k)))
        | _=>none) none
      | none=>none
    | _=>none
  | _=>none
theorem iaX_ok (h:MmOf m σ) {t:Nat} {d i d':DV} (hc:iaX L m t d i = some d'):indexAddrDV L σ t d i = some d':=by
  unfold iaX at hc
  split at hc <;> try cases hc
  rename_i k0 q
  split at hc <;> try cases hc
  · rename_i q1 k1 b1 e z ht
    split at hc <;> try cases hc
    rename_i te hte
    split at hc <;> try cases hc
    · rename_i id g off l
      split at hc <;> try cases hc
      rename_i t0 k ln on xs ho
      obtain ⟨h1,rfl⟩:=h.arr ho
      simp only [beq_if,ble_if] at hc
      split at hc <;> try cases hc
      rename_i hk
      split at hc <;> try cases hc
      rename_i hg
      split at hc <;> try cases hc
      rename_i hq
      unfold indexAddrDV
      simp only [ht,hte,h1]
      rw [if_pos hk,if_pos hg,if_pos ⟨Int.natCast_nonneg q,by show (q:Int) < l; omega⟩]
      rfl
    · rename_i c k xs
      unfold indexAddrDV at hc ⊢
      simp only [ht,hte] at hc ⊢
      exact hc
  · rename_i q1 k1 b1 n e z ht
    split at hc <;> try cases hc
    rename_i te hte
    rw [ble_if] at hc
    split at hc <;> try cases hc
    rename_i hq
    split at hc <;> try cases hc
    unfold indexAddrDV
    simp only [ht,hte]
    rw [if_pos ⟨Int.natCast_nonneg q,by show (q:Int) < n; omega⟩]
    rfl
def repx {α:Type} (n:Nat) (a:α):List α:=@Nat.rec (fun _=>List α) [] (fun _ ih=>a :: ih) n
theorem repx_eq {α:Type} (n:Nat) (a:α):repx n a = List.replicate n a:=by
  induction n with
  | zero=>rfl
  | succ n ih=>show a :: repx n a = _; rw [ih]; rfl
def ones (ys:List DV):Bool:=allx (fun y=>allx DV.one y.cells) ys
theorem ones_eq (ys:List DV):ones ys = allOne ys:=by
  unfold ones allOne
  rw [allx_eq]
  congr 1
  funext y
  exact allx_eq _ _
theorem allOne_rep {n:Nat} {z:DV} (h:allx DV.one z.cells = true):allOne (List.replicate n z) = true:=by
  rw [allx_eq] at h
  unfold allOne
  rw [List.all_eq_true]
  intro y hy
  rw [(List.mem_replicate.1 hy).2]
  exact h
theorem allOne_one {z:DV} (h:allx DV.one z.cells = true):allOne [z] = true:=allOne_rep (n:=1) h
def pushX (m:Mm) (x:FO):Mm:=⟨m.t.put m.n x,Nat.succ m.n⟩
def allocX (L:Lay) (m:Mm) (t:Nat):Option (DV × Mm):=match L t with
  | some ti=>bx (Nat.beq (len ti.zero.cells) ti.k) (some (.ptr m.n 1 0 0,pushX m (.arr t ti.k 1 (allx DV.one ti.zero.cells) [ti.zero]))) none
  | none=>none
def boxX (m:Mm) (t:Nat) (x:DV):Option (DV × Mm):=bx x.full (some (.ptr m.n 1 0 0,pushX m (.arr t (len x.cells) 1 (allx DV.one x.cells) [x]))) none
def idxb (ps:List (Nat × DV)):Nat→Bool:=@List.rec (Nat × DV) (fun _=>Nat→Bool) (fun _=>true) (fun p _ ih i=>bx (Nat.beq p.1 i) (ih (Nat.succ i)) false) ps
theorem idxb_ok:∀ (ps:List (Nat × DV)) (i:Nat),idxb ps i = true→ps.map (·.1) = List.range' i ps.length
  | [],_,_=>rfl
  | p :: r,i,h=>by
    have h':bx (Nat.beq p.1 i) (idxb r (i+1)) false = true:=h
    rw [beq_if] at h'
    split at h'
    · rename_i e
      simp only [List.map_cons,List.length_cons,List.range'_succ,idxb_ok r (i+1) h',e]
    · cases h'
def bsX (L:Lay) (m:Mm) (t n:Nat) (ps:List (Nat × DV)):Option (DV × Mm):=match L t with
  | some { d:=.slice e,.. }=>match L e with
    | some te=>bx (idxb ps 0) (bx (Nat.beq (len ps) n) (bx (Nat.ble 1 n) (bx (Nat.ble n 65536) (bx (Nat.ble te.k 256) (bx (Nat.beq (len te.zero.cells) te.k)
        (bx (allx (fun p=>bx p.2.full (Nat.beq (len p.2.cells) te.k) false) ps) (some (.sl m.n n 0 n,pushX m (.arr e te.k n (ones (mapx (·.2) ps)) (mapx (·.2) ps)))) none) none) none) none) none) none) none
    | none=>none
  | _=>none
def msX (L:Lay) (m:Mm) (t:Nat) (l c:DV):Option (DV × Mm):=match L t with
  | some { d:=.slice e,.. }=>match L e with
    | some te=>match l,c with
      | .int _ (.ofNat n),.int _ (.ofNat q)=>bx (Nat.ble n q) (bx (Nat.ble q 1048576) (bx (Nat.ble te.bytes 65536) (bx (Nat.ble 1 te.k) (bx (Nat.beq (len te.zero.cells) te.k)
          (some (.sl m.n n 0 n,pushX m (.arr e te.k n (allx DV.one te.zero.cells) (repx n te.zero)))) none) none) none) none) none
      | _,_=>none
    | none=>none
  | _=>none
theorem allocX_ok (h:MmOf m σ) {env:List (Nat × DV)} {t:Nat} {d:DV} {m':Mm} (hc:allocX L m t = some (d,m')):∃ σ',sop0 L ⟨env,σ⟩ (.alloc t) = some (d,σ')∧MmOf m' σ':=by
  unfold allocX at hc
  split at hc <;> try cases hc
  rename_i ti ht
  rw [beq_if,len_eq] at hc
  split at hc <;> try cases hc
  rename_i hk
  refine ⟨_,?_,h.push (x:=.arr t ti.k 1 (allx DV.one ti.zero.cells) [ti.zero]) ⟨rfl,allOne_one⟩⟩
  simp only [sop0,ht,if_pos hk,h.n]
  rfl
theorem boxX_ok (h:MmOf m σ) {env:List (Nat × DV)} {t:Nat} {x:Operand} {d:DV} {m':Mm} (hc:boxX m t (ev env x) = some (d,m')):∃ σ',sop0 L ⟨env,σ⟩ (.box t x) = some (d,σ')∧MmOf m' σ':=by
  unfold boxX at hc
  rw [bx_if] at hc
  split at hc <;> try cases hc
  rename_i hf
  refine ⟨_,?_,h.push (x:=.arr t (len (ev env x).cells) 1 (allx DV.one (ev env x).cells) [ev env x]) ⟨rfl,allOne_one⟩⟩
  simp only [sop0,if_pos hf,h.n,len_eq]
  rfl
theorem bsX_ok (h:MmOf m σ) {t n:Nat} {ps:List (Nat × DV)} {d:DV} {m':Mm} (hc:bsX L m t n ps = some (d,m')):n ≠ 0∧∃ σ',bsDV L σ t n ps = some (d,σ')∧MmOf m' σ':=by
  unfold bsX at hc
  split at hc <;> try cases hc
  rename_i q0 k0 b0 e z ht
  split at hc <;> try cases hc
  rename_i te hte
  simp only [beq_if,ble_if] at hc
  simp only [bx_if,len_eq,allx_eq,mapx_eq] at hc
  split at hc <;> try cases hc
  rename_i h1
  split at hc <;> try cases hc
  rename_i h2
  split at hc <;> try cases hc
  rename_i h3
  split at hc <;> try cases hc
  rename_i h4
  split at hc <;> try cases hc
  rename_i h5
  split at hc <;> try cases hc
  rename_i h6
  split at hc <;> try cases hc
  rename_i h7
  refine ⟨by omega,_,?_,h.push (x:=.arr e te.k n (ones (List.map (fun p:Nat × DV=>p.2) ps)) (List.map (fun p:Nat × DV=>p.2) ps)) ⟨by simp [h2],fun e=>by rw [← ones_eq]; exact e⟩⟩
  unfold bsDV
  rw [ht]
  dsimp only
  rw [hte]
  dsimp only
  have hk:n * te.k≤16777216:=Nat.le_trans (Nat.mul_le_mul h4 h5) (by omega)
  have e1:ps.map (·.1) = List.range n:=by rw [idxb_ok ps 0 h1,h2,List.range_eq_range']
  have e2:(ps.all fun p=>p.2.full && p.2.cells.length == te.k) = true:=by
    rw [← h7]
    congr 1
    funext p
    cases p.2.full
    · rfl
    · show (p.2.cells.length == te.k) = p.2.cells.length.beq te.k
      by_cases hp:p.2.cells.length = te.k
      · rw [hp]; simp
      · have e2:p.2.cells.length.beq te.k = false:=by
          cases e:p.2.cells.length.beq te.k with
          | false=>rfl
          | true=>exact absurd (Nat.eq_of_beq_eq_true e) hp
        rw [e2]; simpa using hp
  rw [if_pos ⟨e1,e2,hk,by omega,h6⟩,h.n]
  rfl
theorem msX_ok (h:MmOf m σ) {t:Nat} {l c:DV} {d:DV} {m':Mm} (hc:msX L m t l c = some (d,m')):∃ σ',msDV L σ t l c = some (d,σ')∧MmOf m' σ':=by
  unfold msX at hc
  split at hc <;> try cases hc
  rename_i q0 k0 b0 e z ht
  split at hc <;> try cases hc
  rename_i te hte
  split at hc <;> try cases hc
  rename_i ka n kb q
  simp only [beq_if,ble_if,len_eq,repx_eq] at hc
  split at hc <;> try cases hc
  rename_i h1
  split at hc <;> try cases hc
  rename_i h2
  split at hc <;> try cases hc
  rename_i h3
  split at hc <;> try cases hc
  rename_i h4
  split at hc <;> try cases hc
  rename_i h5
  refine ⟨_,?_,h.push (x:=.arr e te.k n (allx DV.one te.zero.cells) (List.replicate n te.zero)) ⟨by simp,allOne_rep⟩⟩
  unfold msDV
  rw [ht]
  dsimp only
  rw [hte]
  dsimp only
  have hb0:te.bytes * q≤68719476736:=Nat.le_trans (Nat.mul_le_mul h3 h2) (by decide)
  have hb:(te.bytes:Int) * (q:Int)≤68719476736:=by
    rw [← Int.natCast_mul]
    exact Int.ofNat_le.2 hb0
  have e1:(te.bytes:Int) * (q:Int)≤281474976710656:=Int.le_trans hb (by decide)
  have e2:(q:Int)≤9223372036854775807:=Int.le_trans (Int.ofNat_le.2 h2) (by decide)
  rw [if_pos ⟨Int.natCast_nonneg n,Int.ofNat_le.2 h1,e1,e2,h5,h4⟩,h.n]
  rfl
end
end
end Go.VL
end
section
namespace Go.VL
open Go
noncomputable section
section
variable {P:Program} {L:Lay} {m:Mm} {σ:List Ob}
def boundx (d:Option DV) (dflt mx:Nat):Option Nat:=match d with
  | none=>some dflt
  | some (.int _ (.ofNat n))=>bx (Nat.ble n mx) (some n) none
  | _=>none
theorem boundx_ok {d:Option DV} {a b n:Nat} (h:boundx d a b = some n):bound d a b = some n:=by
  unfold boundx at h
  split at h <;> try cases h
  · rfl
  · rename_i k q
    rw [ble_if] at h
    split at h <;> try cases h
    rename_i hq
    simp only [bound]
    rw [if_pos ⟨Int.natCast_nonneg n,Int.ofNat_le.2 hq⟩]
    rfl
def sliceX (L:Lay) (m:Mm) (t:Nat) (d:DV) (lo hi:Option DV):Option DV:=match d with
  | .sl id g off l=>match L t with
    | some { d:=.slice e,.. }=>match L e with
      | some te=>match m.t.get id with
        | some (.arr _ k ln _ _)=>bx (Nat.beq te.k k) (bx (Nat.beq g ln) (match boundx hi l l with
          | some h=>match boundx lo 0 h with
            | some q=>some (.sl id g (Nat.add off q) (Nat.sub h q))
            | none=>none
          | none=>none) none) none
        | _=>none
      | none=>none
    | _=>none
  | .vec c k xs=>sliceDV L [] t (.vec c k xs) lo hi
  | .nils=>sliceDV L [] t .nils lo hi
  | .str s=>sliceDV L [] t (.str s) lo hi
  | _=>none
theorem sliceX_ok (h:MmOf m σ) {t:Nat} {d d':DV} {lo hi:Option DV} (hc:sliceX L m t d lo hi = some d'):sliceDV L σ t d lo hi = some d':=by
  unfold sliceX at hc
  split at hc <;> try cases hc
  · rename_i id g off l
    split at hc <;> try cases hc
    rename_i q0 k0 b0 e z ht
    split at hc <;> try cases hc
    rename_i te hte
    split at hc <;> try cases hc
    rename_i t0 k ln on xs ho
    obtain ⟨h1,rfl⟩:=h.arr ho
    simp only [beq_if] at hc
    split at hc <;> try cases hc
    rename_i hk
    split at hc <;> try cases hc
    rename_i hg
    split at hc <;> try cases hc
    rename_i hh e1
    split at hc <;> try cases hc
    rename_i q e2
    unfold sliceDV
    simp only [ht,hte,h1]
    rw [if_pos ⟨hk,hg⟩]
    simp only [boundx_ok e1,boundx_ok e2]
    rfl
  · unfold sliceDV at hc ⊢; exact hc
  · unfold sliceDV at hc ⊢; exact hc
  · unfold sliceDV at hc ⊢; exact hc
def slice3X (L:Lay) (m:Mm) (t:Nat) (d:DV) (lo hi:Option DV) (mx:DV):Option DV:=match d with
  | .sl id g off l=>match L t with
    | some { d:=.slice e,.. }=>match L e with
      | some te=>match m.t.get id with
        | some (.arr _ k ln _ _)=>bx (Nat.beq te.k k) (bx (Nat.beq g ln) (match boundx (some mx) 0 l with
          | some mm=>match boundx hi mm mm with
            | some h=>match boundx lo 0 h with
              | some q=>some (.sl id g (Nat.add off q) (Nat.sub h q))
              | none=>none
            | none=>none
          | none=>none) none) none
        | _=>none
      | none=>none
    | _=>none
  | _=>none
theorem slice3X_ok (h:MmOf m σ) {t:Nat} {d d' mx:DV} {lo hi:Option DV} (hc:slice3X L m t d lo hi mx = some d'):slice3DV L σ t d lo hi mx = some d':=by
  unfold slice3X at hc
  split at hc <;> try cases hc
  rename_i id g off l
  split at hc <;> try cases hc
  rename_i q0 k0 b0 e z ht
  split at hc <;> try cases hc
  rename_i te hte
  split at hc <;> try cases hc
  rename_i t0 k ln on xs ho
  obtain ⟨h1,rfl⟩:=h.arr ho
  simp only [beq_if] at hc
  split at hc <;> try cases hc
  rename_i hk
  split at hc <;> try cases hc
  rename_i hg
  split at hc <;> try cases hc
  rename_i mm e0
  split at hc <;> try cases hc
  rename_i hh e1
  split at hc <;> try cases hc
  rename_i q e2
  unfold slice3DV
  simp only [ht,hte,h1]
  rw [if_pos ⟨hk,hg⟩]
  simp only [boundx_ok e0,boundx_ok e1,boundx_ok e2]
  rfl
structure Els where
  n:Nat
  on:Bool
  ys:List DV
def elemsX (m:Mm) (k:Nat) (d:DV):Option Els:=match d with
  | .nils=>some ⟨0,true,[]⟩
  | .emp=>some ⟨0,true,[]⟩
  | .vec _ k' xs=>bx (Nat.beq k' k) (some ⟨len xs,false,xs⟩) none
  | .sl id g off l=>match m.t.get id with
    | some (.arr _ k' ln on xs)=>bx (Nat.beq k' k) (bx (Nat.beq g ln) (bx (Nat.ble (Nat.add off l) ln) (some ⟨l,on,bx (Nat.beq l ln) xs (taken l (dropn off xs))⟩) none) none) none
    | _=>none
  | _=>none
theorem elemsX_ok (h:MmOf m σ) {k n:Nat} {on:Bool} {d:DV} {ys:List DV} (hc:elemsX m k d = some ⟨n,on,ys⟩):srcDV σ k d = some ys∧n = ys.length∧(on = true→allOne ys = true):=by
  unfold elemsX at hc
  split at hc <;> try cases hc
  · exact ⟨rfl,rfl,fun _=>rfl⟩
  · exact ⟨rfl,rfl,fun _=>rfl⟩
  · rename_i c k' xs
    rw [beq_if] at hc
    split at hc <;> try cases hc
    rename_i hk
    exact ⟨by simp only [srcDV,if_pos hk],len_eq _,fun e=>by cases e⟩
  · rename_i id g off l
    split at hc <;> try cases hc
    rename_i t0 k' ln on xs ho
    obtain ⟨h1,rfl⟩:=h.arr ho
    simp only [beq_if,ble_if] at hc
    split at hc <;> try cases hc
    rename_i hk
    split at hc <;> try cases hc
    rename_i hg
    split at hc <;> try cases hc
    rename_i hl
    have hl':off+n≤xs.length:=hl
    have e:(if n = xs.length then xs else taken n (dropn off xs)) = (xs.drop off).take n:=by
      split
      · rename_i hn
        obtain rfl:off = 0:=by omega
        rw [hn,List.drop_zero,List.take_length]
      · rw [taken_eq,dropn_eq]
    rw [e]
    refine ⟨by simp only [srcDV,h1,if_pos hk,if_pos hg],?_,fun eo=>?_⟩
    · rw [List.length_take,List.length_drop]
      omega
    · have:=h.ones ho eo
      unfold allOne at this ⊢
      rw [List.all_eq_true] at this ⊢
      exact fun y hy=>this y (List.mem_of_mem_drop (List.mem_of_mem_take hy))
def srcX (L:Lay) (m:Mm) (te:TI) (t':Nat) (d:DV):Option Els:=match L t' with
  | some { d:=.int _,.. }=>match d with
    | .int _ (.ofNat n)=>bx (Nat.ble (Nat.mul n te.bytes) 1073741824) (bx (Nat.beq (len te.zero.cells) te.k) (some ⟨n,allx DV.one te.zero.cells,repx n te.zero⟩) none) none
    | _=>none
  | some { d:=.slice _,.. }=>elemsX m te.k d
  | _=>none
theorem srcX_ok (h:MmOf m σ) {te:TI} {t' n:Nat} {on:Bool} {d:DV} {ys:List DV} (hc:srcX L m te t' d = some ⟨n,on,ys⟩):srcM L σ te t' d = some ys∧n = ys.length∧(on = true→allOne ys = true):=by
  unfold srcX at hc
  split at hc <;> try cases hc
  · rename_i q0 k0 b0 kk z ht
    split at hc <;> try cases hc
    rename_i k q
    simp only [ble_if,beq_if] at hc
    rw [len_eq] at hc
    split at hc <;> try cases hc
    rename_i h1
    split at hc <;> try cases hc
    rename_i h2
    refine ⟨?_,by rw [repx_eq]; simp,fun e=>by rw [repx_eq]; exact allOne_rep e⟩
    simp only [srcM,ht]
    have e1:(n:Int) * te.bytes≤1073741824:=by
      rw [← Int.natCast_mul]
      exact Int.ofNat_le.2 h1
    rw [if_pos ⟨Int.natCast_nonneg n,e1,h2⟩,repx_eq]
    rfl
  · rename_i q0 k0 b0 kk z ht
    obtain ⟨h1,h2,h3⟩:=elemsX_ok h hc
    exact ⟨by simp only [srcM,ht,h1],h2,h3⟩
theorem onesx {on:Bool} {ys:List DV} (h:on = true→allOne ys = true) (k:bx on true (ones ys) = true):allOne ys = true:=by
  cases on with
  | true=>exact h rfl
  | false=>rw [← ones_eq]; exact k
theorem allOne_app {xs ys:List DV} (h:allOne xs = true) (k:allOne ys = true):allOne (xs ++ ys) = true:=by
  unfold allOne at h k ⊢
  rw [List.all_append,h,k]
  rfl
def appX (L:Lay) (m:Mm) (t t':Nat) (d1 d2:DV):Option (DV × Mm):=match L t with
  | some { d:=.slice e,.. }=>match L e with
    | some te=>match srcX L m te t' d2 with
      | some ⟨n,on2,ys⟩=>bx (Nat.ble 1 te.bytes) (bx (allx DV.one te.zero.cells) (bx (bx on2 true (ones ys)) (match d1 with
          | .nils=>bx (Nat.beq n 0) (some (.nils,m)) (bx (Nat.ble (Nat.mul n te.bytes) 140737488355328) (some (.sl m.n n 0 n,pushX m (.arr e te.k n true ys))) none)
          | .emp=>bx (Nat.beq n 0) (some (.emp,m)) (bx (Nat.ble (Nat.mul n te.bytes) 140737488355328) (some (.sl m.n n 0 n,pushX m (.arr e te.k n true ys))) none)
          | .sl id g off l=>match m.t.get id with
            | some (.arr e0 k ln on xs)=>bx (Nat.beq e0 e) (bx (Nat.beq k te.k) (bx (Nat.beq g ln) (bx (Nat.beq off 0) (bx (Nat.beq l ln) (bx (Nat.ble (Nat.mul (Nat.add ln n) te.bytes) 140737488355328)
                (some (.sl id (Nat.add ln n) 0 (Nat.add ln n),bx (Nat.beq n 0) m ⟨m.t.put id (.arr e k (Nat.add ln n) on (appx xs ys)),m.n⟩)) none) none) none) none) none) none
            | _=>none
          | _=>none) none) none) none
      | none=>none
    | none=>none
  | _=>none
theorem appX_ok (h:MmOf m σ) {t t':Nat} {d1 d2 d:DV} {m':Mm} (hc:appX L m t t' d1 d2 = some (d,m')):∃ σ',appM L σ t t' d1 d2 = some (d,σ')∧MmOf m' σ':=by
  unfold appX at hc
  split at hc <;> try cases hc
  rename_i q0 k0 b0 e z ht
  split at hc <;> try cases hc
  rename_i te hte
  split at hc <;> try cases hc
  rename_i n on2 ys hs
  obtain ⟨hs1,rfl,hs2⟩:=srcX_ok h hs
  simp only [beq_if,ble_if] at hc
  rw [bx_if (allx DV.one te.zero.cells),bx_if (bx on2 true (ones ys)),allx_eq] at hc
  split at hc <;> try cases hc
  rename_i h1
  split at hc <;> try cases hc
  rename_i h2
  split at hc <;> try cases hc
  rename_i h3
  replace h3:=onesx hs2 h3
  unfold appM
  simp only [ht,hte,hs1]
  rw [if_pos ⟨h1,h2,by unfold allOne at h3; exact h3⟩]
  split at hc <;> try cases hc
  · dsimp only
    split at hc
    · rename_i hn
      cases hc
      exact ⟨σ,by rw [if_pos hn],h⟩
    · rename_i hn
      split at hc <;> try cases hc
      rename_i hb
      have hb':ys.length * te.bytes≤140737488355328:=hb
      exact ⟨_,by rw [if_neg hn,if_pos hb',h.n]; rfl,h.push (x:=.arr e te.k ys.length true ys) ⟨rfl,fun _=>h3⟩⟩
  · dsimp only
    split at hc
    · rename_i hn
      cases hc
      exact ⟨σ,by rw [if_pos hn],h⟩
    · rename_i hn
      split at hc <;> try cases hc
      rename_i hb
      have hb':ys.length * te.bytes≤140737488355328:=hb
      exact ⟨_,by rw [if_neg hn,if_pos hb',h.n]; rfl,h.push (x:=.arr e te.k ys.length true ys) ⟨rfl,fun _=>h3⟩⟩
  · rename_i id g off l
    split at hc <;> try cases hc
    rename_i e0 k ln on xs ho
    obtain ⟨g1,rfl⟩:=h.arr ho
    split at hc <;> try cases hc
    rename_i c1
    split at hc <;> try cases hc
    rename_i c2
    split at hc <;> try cases hc
    rename_i c3
    split at hc <;> try cases hc
    rename_i c4
    split at hc <;> try cases hc
    rename_i c5
    split at hc <;> try cases hc
    rename_i c6
    have c6':(xs.length+ys.length) * te.bytes≤140737488355328:=c6
    dsimp only
    rw [g1]
    dsimp only
    refine ⟨_,by rw [if_pos ⟨c1,c2,c3,c4,c5,c6'⟩]; rfl,?_⟩
    by_cases hn:ys.length = 0
    · rw [if_pos hn,if_pos hn]; exact h
    · rw [if_neg hn,if_neg hn,appx_eq]
      exact h.put ho (x:=.arr e k (xs.length+ys.length) on (xs ++ ys)) ⟨by simp,fun eo=>allOne_app (h.ones ho eo) h3⟩
def overX (m:Mm) (k n:Nat) (d:DV) (ys:List DV):Option Mm:=bx (Nat.beq n 0) (some m) (match d with
  | .sl id g off _=>match m.t.get id with
    | some (.arr e k' ln on xs)=>bx (Nat.beq k' k) (bx (Nat.beq g ln) (bx (Nat.ble (Nat.add off n) ln) (some ⟨m.t.put id (.arr e k ln on (appx (taken off xs) (appx ys (dropn (Nat.add off n) xs)))),m.n⟩) none) none) none
    | _=>none
  | _=>none)
theorem overX_ok (h:MmOf m σ) {k n:Nat} {d:DV} {ys:List DV} {m':Mm} (hn:n = ys.length) (h1s:allOne ys = true) (hc:overX m k n d ys = some m'):∃ σ',overM σ k d ys = some σ'∧MmOf m' σ':=by
  subst hn
  unfold overX at hc
  rw [beq_if] at hc
  unfold overM
  split at hc
  · rename_i h0
    cases hc
    exact ⟨σ,by rw [if_pos h0],h⟩
  · rename_i h0
    split at hc <;> try cases hc
    rename_i id g off l
    split at hc <;> try cases hc
    rename_i e k' ln on xs ho
    obtain ⟨g1,rfl⟩:=h.arr ho
    simp only [beq_if,ble_if] at hc
    split at hc <;> try cases hc
    rename_i c1
    split at hc <;> try cases hc
    rename_i c2
    split at hc <;> try cases hc
    rename_i c3
    have c3':off+ys.length≤xs.length:=c3
    refine ⟨_,by rw [if_neg h0]; simp only [g1]; rw [if_pos ⟨c1,c2⟩],?_⟩
    have:appx (taken off xs) (appx ys (dropn (Nat.add off ys.length) xs)) = xs.take off ++ ys ++ xs.drop (off+ys.length):=by
      rw [appx_eq,appx_eq,taken_eq,dropn_eq,List.append_assoc]; rfl
    rw [this]
    refine h.put ho (x:=.arr e k xs.length on (xs.take off ++ ys ++ xs.drop (off+ys.length))) ⟨?_,fun eo=>?_⟩
    · simp only [List.length_append,List.length_take,List.length_drop]
      omega
    · have:=h.ones ho eo
      refine allOne_app (allOne_app ?_ h1s) ?_ <;>
      · unfold allOne at this ⊢
        rw [List.all_eq_true] at this ⊢
        first
          | exact fun y hy=>this y (List.mem_of_mem_take hy)
          | exact fun y hy=>this y (List.mem_of_mem_drop hy)
def copyX (L:Lay) (m:Mm) (t:Nat) (d1 d2:DV):Option (DV × Mm):=match L t with
  | some { d:=.slice e,.. }=>match L e with
    | some te=>match elemsX m te.k d2,lenD d1 with
      | some ⟨q,on2,ys⟩,some n=>bx (bx on2 true (ones ys)) (match overX m te.k (bx (Nat.ble q n) q n) d1 (bx (Nat.ble q n) ys (taken n ys)) with
        | some m'=>some (.int .i64 (.ofNat (bx (Nat.ble q n) q n)),m')
        | none=>none) none
      | _,_=>none
    | none=>none
  | _=>none
theorem copyX_ok (h:MmOf m σ) {t:Nat} {d1 d2 d:DV} {m':Mm} (hc:copyX L m t d1 d2 = some (d,m')):∃ σ',copyM L σ t d1 d2 = some (d,σ')∧MmOf m' σ':=by
  unfold copyX at hc
  split at hc <;> try cases hc
  rename_i q0 k0 b0 e z ht
  split at hc <;> try cases hc
  rename_i te hte
  split at hc <;> try cases hc
  rename_i q on2 ys n hs hl
  obtain ⟨hs1,rfl,hs2⟩:=elemsX_ok h hs
  rw [bx_if (bx on2 true (ones ys))] at hc
  split at hc <;> try cases hc
  rename_i h1
  replace h1:=onesx hs2 h1
  split at hc <;> try cases hc
  rename_i m'' ho
  have e1:bx (Nat.ble ys.length n) ys.length n = min ys.length n:=by rw [ble_if]; split <;> omega
  have e2:bx (Nat.ble ys.length n) ys (taken n ys) = ys.take (min ys.length n):=by
    rw [ble_if,taken_eq]
    split
    · rename_i hh; rw [Nat.min_eq_left hh,List.take_length]
    · rename_i hh; rw [Nat.min_eq_right (by omega)]
  rw [e2,e1] at ho
  obtain ⟨σ',g1,g2⟩:=overX_ok h (by simp) (by unfold allOne at h1 ⊢; rw [List.all_eq_true] at h1 ⊢; exact fun y hy=>h1 y (List.mem_of_mem_take hy)) ho
  refine ⟨σ',?_,g2⟩
  unfold copyM
  simp only [ht,hte,hs1,hl]
  rw [if_pos (by unfold allOne at h1; exact h1),g1,e1]
  rfl
def clearX (L:Lay) (m:Mm) (t:Nat) (d1:DV):Option (DV × Mm):=match L t with
  | some { d:=.slice e,.. }=>match L e with
    | some te=>match lenD d1 with
      | some n=>bx (Nat.beq (len te.zero.cells) te.k) (bx (allx DV.one te.zero.cells) (match overX m te.k n d1 (repx n te.zero) with
        | some m'=>some (.tup [],m')
        | none=>none) none) none
      | none=>none
    | none=>none
  | _=>none
theorem clearX_ok (h:MmOf m σ) {t:Nat} {d1 d:DV} {m':Mm} (hc:clearX L m t d1 = some (d,m')):∃ σ',clearM L σ t d1 = some (d,σ')∧MmOf m' σ':=by
  unfold clearX at hc
  split at hc <;> try cases hc
  rename_i q0 k0 b0 e z ht
  split at hc <;> try cases hc
  rename_i te hte
  split at hc <;> try cases hc
  rename_i n hl
  simp only [beq_if] at hc
  rw [len_eq] at hc
  split at hc <;> try cases hc
  rename_i h1
  rw [bx_if] at hc
  split at hc <;> try cases hc
  rename_i h2
  split at hc <;> try cases hc
  rename_i m'' ho
  rw [repx_eq] at ho
  obtain ⟨σ',g1,g2⟩:=overX_ok h (by simp) (allOne_rep h2) ho
  refine ⟨σ',?_,g2⟩
  rw [allx_eq] at h2
  unfold clearM
  simp only [ht,hte,hl]
  rw [if_pos ⟨h1,h2⟩,g1]
  rfl
end
end
end Go.VL
end
section
namespace Go.VL
open Go
noncomputable section
section
variable {P:Program} {L:Lay} {m:Mm} {σ:List Ob}
def eqX (L:Lay) (m:Mm) (t:Nat) (a b:DV):Option Bool:=match a with
  | .sl id g _ _=>match b with
    | .nils=>match L t with
      | some { d:=.slice _,.. }=>match m.t.get id with
        | some (.arr _ _ ln _ _)=>bx (Nat.beq g ln) (bx (Nat.ble 1 g) (some false) none) none
        | _=>none
      | _=>none
    | _=>none
  | a=>eqM L [] t a b
theorem eqX_ok (h:MmOf m σ) {t:Nat} {a b:DV} {q:Bool} (hc:eqX L m t a b = some q):eqM L σ t a b = some q:=by
  cases a
  case sl id g off l =>
    simp only [eqX] at hc
    split at hc <;> try cases hc
    split at hc <;> try cases hc
    rename_i q0 k0 b0 e z ht
    split at hc <;> try cases hc
    rename_i t0 k ln on xs ho
    obtain ⟨g1,rfl⟩:=h.arr ho
    simp only [beq_if,ble_if] at hc
    split at hc <;> try cases hc
    rename_i c1
    split at hc <;> try cases hc
    rename_i c2
    unfold eqM
    simp only [ht,g1]
    rw [if_pos ⟨c1,c2⟩]
  case vec c k xs =>
    simp only [eqX] at hc
    unfold eqM at hc ⊢
    cases xs <;> cases b <;> exact hc
  all_goals
    simp only [eqX] at hc
    unfold eqM at hc ⊢
    first | exact hc | (cases b <;> exact hc)
def lookupX (L:Lay) (m:Mm) (t:Nat) (mm key:DV) (ok:Bool):Option DV:=match mm with
  | .mp id=>match m.t.get id with
    | some (.oth o)=>lookupM L [o] t (.mp 0) key ok
    | _=>none
  | _=>none
theorem lookupX_ok (h:MmOf m σ) {t:Nat} {mm key d:DV} {ok:Bool} (hc:lookupX L m t mm key ok = some d):lookupM L σ t mm key ok = some d:=by
  unfold lookupX at hc
  split at hc <;> try cases hc
  rename_i id
  split at hc <;> try cases hc
  rename_i o ho
  have g1:=h.oth ho
  unfold lookupM at hc ⊢
  simp only [g1]
  simpa only [List.getElem?_cons_zero] using hc
def updX (L:Lay) (m:Mm) (t:Nat) (mm key v:DV):Option Mm:=match mm with
  | .mp id=>match m.t.get id with
    | some (.oth o)=>match updM L [o] t (.mp 0) key v with
      | some [.oth ot ds]=>some ⟨m.t.put id (.oth (.oth ot ds)),m.n⟩
      | _=>none
    | _=>none
  | _=>none
theorem updX_ok (h:MmOf m σ) {t:Nat} {mm key v:DV} {m':Mm} (hc:updX L m t mm key v = some m'):∃ σ',updM L σ t mm key v = some σ'∧MmOf m' σ':=by
  unfold updX at hc
  split at hc <;> try cases hc
  rename_i id
  split at hc <;> try cases hc
  rename_i o ho
  have g1:=h.oth ho
  split at hc <;> try cases hc
  rename_i ot ds hu
  refine ⟨σ.set id (.oth ot ds),?_,h.put ho (x:=.oth (.oth ot ds)) trivial⟩
  unfold updM at hu ⊢
  split at hu <;> try cases hu
  rename_i q0 k0 b0 kt vt z ht
  simp only [ht,g1]
  dsimp only at hu
  split at hu <;> try cases hu
  rename_i bs clock es heq
  have heq':some o = some (.oth (.map bs clock) es):=heq
  cases heq'
  dsimp only
  split at hu <;> try cases hu
  rename_i hk
  rw [if_pos hk]
  cases hf:findD L kt key es 0 with
  | none=>rw [hf] at hu; cases hu
  | some r =>
    rw [hf] at hu
    cases r with
    | none=>cases hu; rfl
    | some q =>
      obtain ⟨i,x⟩:=q
      dsimp only at hu ⊢
      split at hu
      · cases hu
      · rename_i hs
        cases hu
        rw [if_neg hs]
def rangeX (L:Lay) (m:Mm) (t:Nat) (mm:DV):Option (DV × Mm):=match L t with
  | some { d:=.map _ _,.. }=>match mm with
    | .mp id=>match m.t.get id with
      | some (.oth (.oth (.map _ clock) _))=>some (.it m.n,pushX m (.oth (.oth (.iter (some id) clock [] clock) [])))
      | _=>none
    | _=>none
  | _=>none
theorem rangeX_ok (h:MmOf m σ) {t:Nat} {mm d:DV} {m':Mm} (hc:rangeX L m t mm = some (d,m')):∃ σ',rangeM L σ t mm = some (d,σ')∧MmOf m' σ':=by
  unfold rangeX at hc
  split at hc <;> try cases hc
  rename_i q0 k0 b0 kt vt z ht
  split at hc <;> try cases hc
  rename_i id
  split at hc <;> try cases hc
  rename_i bs clock ds ho
  have g1:=h.oth ho
  refine ⟨_,?_,h.push (x:=.oth (.oth (.iter (some id) clock [] clock) [])) trivial⟩
  unfold rangeM
  simp only [ht,g1,h.n]
  rfl
def nextX (m:Mm) (it:DV):Option DV:=match it with
  | .it id=>match m.t.get id with
    | some (.oth (.oth (.iter (some mid) _ _ _) _))=>match m.t.get mid with
      | some (.oth (.oth (.map [] _) _))=>some (.tup [.bool false])
      | _=>none
    | _=>none
  | _=>none
theorem nextX_ok (h:MmOf m σ) {it d:DV} (hc:nextX m it = some d):nextM σ it = some (d,σ):=by
  unfold nextX at hc
  split at hc <;> try cases hc
  rename_i id
  split at hc <;> try cases hc
  rename_i mid since seen stepped es ho
  split at hc <;> try cases hc
  rename_i clock ds ho2
  unfold nextM
  simp only [h.oth ho,h.oth ho2]
def convX (L:Lay) (m:Mm) (s t:Nat) (d:DV):Option (DV × Mm):=match L s,L t with
  | some { d:=.slice e,.. },some { d:=.slice _,.. }=>bx (Nat.beq s t) (bx (isOct L e) (match d with
    | .sl id g off l=>match m.t.get id with
      | some (.arr _ k ln _ _)=>bx (Nat.beq g ln) (bx (Nat.ble 1 l) (bx (Nat.beq k 1) (some (.sl id g off l,m)) none) none) none
      | _=>none
    | _=>none) none) none
  | some { d:=.str,.. },some { d:=.slice e,.. }=>bx (isOct L e) (match d with
    | .str x=>bx (Nat.ble x.size 1073741824) (some (.sl m.n x.size 0 x.size,pushX m (.arr e 1 x.size true (List.map (fun b:UInt8=>DV.int .u8 b.toNat) x.data.toList)))) none
    | _=>none) none
  | some { d:=.slice e,.. },some { d:=.str,.. }=>bx (isOct L e) (match elemsX m 1 d with
    | some ⟨_,_,xs⟩=>match octs xs with
      | some bs=>some (.str (strOf bs),m)
      | none=>none
    | none=>none) none
  | _,_=>none
theorem convX_ok (h:MmOf m σ) {s t:Nat} {x d:DV} {m':Mm} (hc:convX L m s t x = some (d,m')) :
    (bstrDV L σ s t x = some d∧MmOf m' σ)∨(bstrDV L σ s t x = none∧∃ σ',convM L σ s t x = some (d,σ')∧MmOf m' σ'):=by
  unfold convX at hc
  split at hc <;> try cases hc
  · rename_i q0 k0 b0 e z q1 k1 b1 e1 z1 hs ht
    right
    refine ⟨by unfold bstrDV; simp only [hs,ht],?_⟩
    rw [beq_if] at hc
    split at hc <;> try cases hc
    rename_i c1
    rw [bx_if] at hc
    split at hc <;> try cases hc
    rename_i c2
    split at hc <;> try cases hc
    rename_i id g off l
    split at hc <;> try cases hc
    rename_i t0 k ln on xs ho
    obtain ⟨g1,rfl⟩:=h.arr ho
    rw [beq_if] at hc
    split at hc <;> try cases hc
    rename_i c3
    rw [ble_if] at hc
    split at hc <;> try cases hc
    rename_i c4
    rw [beq_if] at hc
    split at hc <;> try cases hc
    rename_i c5
    refine ⟨σ,?_,h⟩
    unfold convM
    simp only [hs,ht,g1]
    rw [if_pos ⟨c1,c2⟩,if_pos ⟨c3,c4,c5⟩]
  · rename_i q0 k0 b0 z q1 k1 b1 e z1 hs ht
    right
    refine ⟨by unfold bstrDV; simp only [hs,ht],?_⟩
    rw [bx_if] at hc
    split at hc <;> try cases hc
    rename_i c2
    split at hc <;> try cases hc
    rename_i y
    rw [ble_if] at hc
    split at hc <;> try cases hc
    rename_i c3
    refine ⟨_,?_,h.push (x:=.arr e 1 y.size true (List.map (fun b:UInt8=>DV.int .u8 b.toNat) y.data.toList)) ⟨by simp,fun _=>by
      unfold allOne
      rw [List.all_eq_true]
      intro z hz
      obtain ⟨b,_,rfl⟩:=List.mem_map.1 hz
      rfl⟩⟩
    unfold convM
    simp only [hs,ht]
    rw [if_pos c2,if_pos c3,h.n]
    rfl
  · rename_i q0 k0 b0 e z q1 k1 b1 z1 hs ht
    left
    rw [bx_if] at hc
    split at hc <;> try cases hc
    rename_i c2
    split at hc <;> try cases hc
    rename_i n on xs he
    obtain ⟨h1,_⟩:=elemsX_ok h he
    split at hc <;> try cases hc
    rename_i bs hb
    refine ⟨?_,h⟩
    unfold bstrDV
    simp only [hs,ht]
    rw [if_pos c2,h1]
    simp only [hb,Option.map_some]
def xread (L:Lay) (e:Operand→DV) (m:Mm) (op:Op):Option DV:=match op with
  | .load t x=>loadX L m t (e x)
  | .indexAddr t x i=>iaX L m t (e x) (e i)
  | .slice t x lo hi none=>sliceX L m t (e x) (lo.map e) (hi.map e)
  | .slice t x lo (some hi) (some mx)=>slice3X L m t (e x) (lo.map e) (some (e hi)) (e mx)
  | .binOp .eql t x y _=>match eqX L m t (e x) (e y) with
    | some b=>some (.bool b)
    | none=>none
  | .binOp .neq t x y _=>match eqX L m t (e x) (e y) with
    | some b=>some (.bool (notx b))
    | none=>none
  | .lookup t mm k ok=>lookupX L m t (e mm) (e k) ok
  | .next it false=>nextX m (e it)
  | _=>none
def xeff (L:Lay) (e:Operand→DV) (m:Mm) (op:Op):Option (DV × Mm):=match op with
  | .store t p x=>match storeX L m t (e p) (e x) with
    | some m'=>some (.undef,m')
    | none=>none
  | .alloc t=>allocX L m t
  | .box t x=>boxX m t (e x)
  | .buildSlice t n ps=>bx (Nat.beq n 0) (bx (Nat.beq ps.size 0) (match L t with
    | some { d:=.slice q,.. }=>match L q with
      | some _=>some (.emp,m)
      | none=>none
    | _=>none) none) (bsX L m t n (mapx (fun p=>(p.1,e p.2)) ps.toList))
  | .makeSlice t l c=>msX L m t (e l) (e c)
  | .convert s t x=>convX L m s t (e x)
  | .makeMap _ none=>some (.mp m.n,pushX m (.oth (.oth (.map [] 0) [])))
  | .mapUpdate t mm k v=>match updX L m t (e mm) (e k) (e v) with
    | some m'=>some (.undef,m')
    | none=>none
  | .insert t mm k v=>match updX L m t (e mm) (e k) (e v) with
    | some m'=>some (.undef,m')
    | none=>none
  | .range t x=>rangeX L m t (e x)
  | .call { callee:=.builtin .append,args,argTypes }=>match argTypes.toList,args.toList with
    | [t,t'],[a,b]=>appX L m t t' (e a) (e b)
    | _,_=>none
  | .call { callee:=.builtin .copy,args,argTypes }=>match argTypes.toList,args.toList with
    | t :: _,[a,b]=>copyX L m t (e a) (e b)
    | _,_=>none
  | .call { callee:=.builtin .clear,args,argTypes }=>match argTypes.toList,args.toList with
    | t :: _,[a]=>clearX L m t (e a)
    | _,_=>none
  | _=>none
theorem xread_sound (hL:LayOk P L) {env:List (Nat × DV)} {o:Oper} {d:DV} (hm:MmOf m σ) (h:xread L (ev env) m o.op = some d):OpRun P o ⟨env,σ⟩ d σ:=by
  have s0:∀ {σ'},sop0 L ⟨env,σ⟩ o.op = some (d,σ')→OpRun P o ⟨env,σ⟩ d σ':=fun h=>OpRun.of_sop0 hL h
  have s1:∀ {σ'},mop L ⟨env,σ⟩ o.op = some (d,σ')→OpRun P o ⟨env,σ⟩ d σ':=fun h=>OpRun.of_mop hL h
  unfold xread at h
  split at h
  case h_1 t x hop=>exact s0 (by rw [hop]; simp only [sop0,loadX_ok hm h,Option.map_some])
  case h_2 t x i hop=>exact s0 (by rw [hop]; simp only [sop0,iaX_ok hm h,Option.map_some])
  case h_3 t x lo hi hop=>exact s0 (by rw [hop]; simp only [sop0,sliceX_ok hm h,Option.map_some])
  case h_4 t x lo hi mx hop=>exact s1 (by rw [hop]; simp only [mop,slice3X_ok hm h,Option.map_some])
  case h_5 t x y yt hop =>
    split at h <;> cases h
    rename_i hl
    exact s1 (by rw [hop]; simp only [mop,eqX_ok hm hl,Option.map_some])
  case h_6 t x y yt hop =>
    split at h <;> cases h
    rename_i hl
    exact s1 (by rw [hop]; simp only [mop,eqX_ok hm hl,Option.map_some,notx_eq])
  case h_7 t mm k ok hop=>exact s1 (by rw [hop]; simp only [mop,lookupX_ok hm h,Option.map_some])
  case h_8 it hop=>exact s1 (by rw [hop]; simp only [mop,nextX_ok hm h])
  case h_9=>cases h
theorem xeff_sound (hL:LayOk P L) {env:List (Nat × DV)} {o:Oper} {d:DV} {m':Mm} (hm:MmOf m σ) (h:xeff L (ev env) m o.op = some (d,m')):∃ σ',OpRun P o ⟨env,σ⟩ d σ'∧MmOf m' σ':=by
  have s0:∀ {σ'},sop0 L ⟨env,σ⟩ o.op = some (d,σ')→OpRun P o ⟨env,σ⟩ d σ':=fun h=>OpRun.of_sop0 hL h
  have s1:∀ {σ'},mop L ⟨env,σ⟩ o.op = some (d,σ')→OpRun P o ⟨env,σ⟩ d σ':=fun h=>OpRun.of_mop hL h
  unfold xeff at h
  split at h
  case h_1 t p x hop =>
    split at h <;> cases h
    rename_i hl
    obtain ⟨σ',g1,g2⟩:=storeX_ok hm hl
    exact ⟨σ',s0 (by rw [hop]; simp only [sop0,g1,Option.map_some]),g2⟩
  case h_2 t hop =>
    obtain ⟨σ',g1,g2⟩:=allocX_ok (env:=env) hm h
    exact ⟨σ',s0 (by rw [hop]; exact g1),g2⟩
  case h_3 t x hop =>
    obtain ⟨σ',g1,g2⟩:=boxX_ok hm h
    exact ⟨σ',s0 (by rw [hop]; exact g1),g2⟩
  case h_4 t n ps hop =>
    simp only [beq_if] at h
    split at h
    · rename_i hn
      subst hn
      split at h <;> try cases h
      rename_i hp
      split at h <;> try cases h
      rename_i q0 k0 b0 q z ht
      split at h <;> cases h
      rename_i hq
      exact ⟨σ,s1 (by rw [hop]; simp only [mop,ht,hq,if_pos hp]),hm⟩
    · rename_i hn
      obtain ⟨_,σ',g1,g2⟩:=bsX_ok hm h
      rw [mapx_eq] at g1
      exact ⟨σ',s0 (by rw [hop]; simp only [sop0,if_neg hn]; exact g1),g2⟩
  case h_5 t l c hop =>
    obtain ⟨σ',g1,g2⟩:=msX_ok hm h
    exact ⟨σ',s0 (by rw [hop]; exact g1),g2⟩
  case h_6 s t x hop =>
    rcases convX_ok hm h with ⟨g1,g2⟩ | ⟨g0,σ',g1,g2⟩
    · exact ⟨σ,s1 (by rw [hop]; simp only [mop,g1]),g2⟩
    · exact ⟨σ',s1 (by rw [hop]; simp only [mop,g0,g1]),g2⟩
  case h_7 t hop =>
    cases h
    exact ⟨_,s1 (by rw [hop]; simp only [mop,hm.n]; rfl),hm.push (x:=.oth (.oth (.map [] 0) [])) trivial⟩
  case h_8 t mm k v hop =>
    split at h <;> cases h
    rename_i hl
    obtain ⟨σ',g1,g2⟩:=updX_ok hm hl
    exact ⟨σ',s1 (by rw [hop]; simp only [mop,g1,Option.map_some]),g2⟩
  case h_9 t mm k v hop =>
    split at h <;> cases h
    rename_i hl
    obtain ⟨σ',g1,g2⟩:=updX_ok hm hl
    exact ⟨σ',s1 (by rw [hop]; simp only [mop,g1,Option.map_some]),g2⟩
  case h_10 t x hop =>
    obtain ⟨σ',g1,g2⟩:=rangeX_ok hm h
    exact ⟨σ',s1 (by rw [hop]; simp only [mop,g1]),g2⟩
  case h_11 args ts hop =>
    split at h <;> try cases h
    rename_i t t' a b h1 h2
    obtain ⟨σ',g1,g2⟩:=appX_ok hm h
    exact ⟨σ',s1 (by rw [hop]; simp only [mop,h1,h2,List.map_cons,List.map_nil,g1]),g2⟩
  case h_12 args ts hop =>
    split at h <;> try cases h
    rename_i t r a b h1 h2
    obtain ⟨σ',g1,g2⟩:=copyX_ok hm h
    exact ⟨σ',s1 (by rw [hop]; simp only [mop,h1,h2,List.map_cons,List.map_nil,g1]),g2⟩
  case h_13 args ts hop =>
    split at h <;> try cases h
    rename_i t r a h1 h2
    obtain ⟨σ',g1,g2⟩:=clearX_ok hm h
    exact ⟨σ',s1 (by rw [hop]; simp only [mop,h1,h2,List.map_cons,List.map_nil,g1]),g2⟩
  case h_14=>cases h
def xop (L:Lay) (e:Operand→DV) (m:Mm) (op:Op):Option (DV × Mm):=match xpure L e op with
  | some d=>some (d,m)
  | none=>match xread L e m op with
    | some d=>some (d,m)
    | none=>xeff L e m op
theorem xop_sound (hL:LayOk P L) {env:List (Nat × DV)} {o:Oper} {d:DV} {m':Mm} (hm:MmOf m σ) (h:xop L (ev env) m o.op = some (d,m')):∃ σ',OpRun P o ⟨env,σ⟩ d σ'∧MmOf m' σ':=by
  unfold xop at h
  split at h
  · rename_i hp
    cases h
    exact ⟨σ,xpure_sound hL hp σ,hm⟩
  · split at h
    · rename_i hp
      cases h
      exact ⟨σ,xread_sound hL hm hp,hm⟩
    · exact xeff_sound hL hm h
end
end
end Go.VL
end
