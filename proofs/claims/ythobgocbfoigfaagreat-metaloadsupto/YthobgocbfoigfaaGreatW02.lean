/- Proved: MetaLoads: whatever items and data come in (together of bulk at most 1048576), the call returns true and they read as they did; no other condition. This text is part 2 of 15. -/
import Derived.Test.YthobgocbfoigfaaGreatW01
import Derived.IntWalk
import Derived.Laws.StructEq
section
namespace Go.VL
open Go

theorem mod_get {α : Type} [Inhabited α] (z : Array α) (k n : Nat) (hz : z.size = k) (j i : Nat) (hi : i < k) (hj : j < n) : ((Array.range (n * k)).map (fun q => z[q % z.size]!))[j * k + i]? = z[i]? := by
  have hlt : j * k + i < n * k := by
    have : j * k + k ≤ n * k := by rw [← Nat.succ_mul]; exact Nat.mul_le_mul_right _ hj
    omega
  rw [Array.getElem?_map, Array.getElem?_range]
  rw [if_pos hlt]
  simp only [Option.map_some]
  rw [hz, Nat.mul_comm j k, Nat.mul_add_mod, Nat.mod_eq_of_lt hi]
  rw [Array.getElem?_eq_getElem (by omega)]
  simp [show i < z.size by omega]

def msDV (L : Lay) (ob : List Ob) (t : Nat) (l c : DV) : Option (DV × List Ob) :=
  match L t with
  | some { d := .slice e, .. } => match L e with
    | some te => match l, c with
      | .int _ n, .int _ m => if 0 ≤ n ∧ n ≤ m ∧ (te.bytes : Int) * m ≤ 281474976710656 ∧ m ≤ 9223372036854775807 ∧ te.zero.cells.length = te.k ∧ 0 < te.k then
          some (.sl ob.length n.toNat 0 n.toNat, ob ++ [.arr e te.k (List.replicate n.toNat te.zero)]) else none
      | _, _ => none
    | none => none
  | _ => none
section
variable {P : Program} {w : World} {F : Nat → Nat → Prop} {μ : Nat → Option Nat} {σ : List Ob}
theorem run_makeSlice {L : Lay} (hL : LayOk P L) (hr : HR w F μ σ) {t : Nat} {l c d : DV} {vl vc : Value} {σ' : List Ob} (h : msDV L σ t l c = some (d, σ')) (hl : Rep w F μ σ l vl) (hc : Rep w F μ σ c vc) :
    ∃ v w' μ', (Instr.makeSlice t vl vc).run P w = .ok v w' ∧ HR w' F μ' σ' ∧ Step w F μ σ w' F μ' σ' ∧ Fr w μ w' μ' ∧ Rep w' F μ' σ' d v := by
  unfold msDV at h
  split at h <;> try cases h
  rename_i k0 by0 e z ht
  obtain ⟨desc, hu, rfl⟩ := (hL _ _ ht).und
  split at h <;> try cases h
  rename_i te hte
  split at h <;> try cases h
  rename_i kn n km m
  cases hl; cases hc
  by_cases hcond : 0 ≤ n ∧ n ≤ m ∧ (te.bytes : Int) * m ≤ 281474976710656 ∧ m ≤ 9223372036854775807 ∧ te.zero.cells.length = te.k ∧ 0 < te.k
  · rw [if_pos hcond] at h
    cases h
    obtain ⟨h0, h1, h2, h3, h4, h5⟩ := hcond
    obtain ⟨it, z', i1, i2, i3, i4, i5, i6⟩ := (hL _ _ hte).info
    have hrz : Rep w F μ σ te.zero z' := by rw [← i6]; exact rep_ofVal z'
    obtain ⟨N, rfl⟩ := Int.eq_ofNat_of_zero_le h0
    obtain ⟨M, rfl⟩ := Int.eq_ofNat_of_zero_le (show 0 ≤ m by omega)
    have wn : IntKind.i64.wrap (N : Int) = N := IntWalk.i64_in _ (by omega)
    have wm : IntKind.i64.wrap (M : Int) = M := IntWalk.i64_in _ (by omega)
    have hm0 : M * te.k = 0 → M = 0 := fun h => by
      rcases Nat.mul_eq_zero.1 h with h | h
      · exact h
      · omega
    obtain ⟨p1, p2, p3⟩ := hr.push (t := e) (k := te.k) (xs := List.replicate N te.zero) (cur := (Array.range (M * te.k)).map (fun q => (if M * te.k = 0 then #[] else z'.cells)[q % (if M * te.k = 0 then (#[] : Array Value) else z'.cells).size]!))
      (.zero _) (fun y hy => by rw [(List.mem_replicate.1 hy).2]; exact h4) (fun j i y d hy hd => by
        rw [List.getElem?_replicate] at hy
        by_cases hj : j < N
        · rw [if_pos hj] at hy
          cases hy
          have hi : i < te.k := by rw [← h4]; exact (List.getElem?_eq_some_iff.1 hd).1
          obtain ⟨u, hu1, hu2⟩ := rep_cells' hrz (by rw [i5, h4]) i d hd
          refine ⟨u, ?_, hu2⟩
          rw [if_neg (fun h => by have := hm0 h; omega)]
          rw [mod_get z'.cells te.k M i5 j i hi (by omega)]
          exact hu1
        · rw [if_neg hj] at hy; cases hy)
    simp only [Int.toNat_natCast]
    refine ⟨_, _, _, ?_, p1, p2, p3, .sl (A := some ⟨w.heap.size, 0, none⟩) (cap := M) ⟨e, te.k, List.replicate N te.zero, by simp, by omega, by simp, by omega, by simp only [maxLen]; omega, fun _ => .inr ⟨w.heap.size, _, (0, 0), by simp [grow], by rw [alloc_get]; exact if_pos rfl, by simp, rfl, fun _ => by simp⟩⟩⟩
    have hb : ¬ ((te.bytes : Int) * M > 2 ^ 48) := by omega
    have hzv : ∀ w, (zeroValue e).run P w = .ok z' w := fun w => by simp [zeroValue, typeInfo, i1, i4, program, Sem.run]
    have hti : ∀ w, (typeInfo e).run P w = .ok it w := fun w => by simp [typeInfo, i1, program, Sem.run]
    have hask : ∀ n w, (askRoom n).run P w = .ok () w := fun n w => by unfold askRoom; split <;> rfl
    have hno : ¬ ((((decide ((M : Int) < 0) || decide ((it.bytes : Int) * M > 2 ^ 48)) || decide ((N : Int) < 0)) || decide ((N : Int) > M)) = true) := by
      rw [i3]; simp; omega
    simp only [Instr.makeSlice, Sem.run_bind, run_underlying hu, Result.andThen_ok, asInt, asIntOf, Sem.run_pure, hti, wn, wm, Int.toNat_natCast]
    rw [if_neg hno]
    simp only [Sem.run_bind, hask, Result.andThen_ok, (hL _ _ hte).size]
    by_cases hz : M * te.k = 0
    · rw [if_pos hz]; simp only [hz, if_true]; rfl
    · rw [if_neg hz]
      simp only [if_neg hz, Sem.run_bind, hzv, Result.andThen_ok]
      rfl
  · rw [if_neg hcond] at h; cases h

/-- A slice written out. -/
def bsDV (L : Lay) (ob : List Ob) (t n : Nat) (parts : List (Nat × DV)) : Option (DV × List Ob) :=
  match L t with
  | some { d := .slice e, .. } => match L e with
    | some te => if parts.map (·.1) = List.range n ∧ (parts.all fun p => p.2.full && p.2.cells.length == te.k) = true ∧ n * te.k ≤ 16777216 ∧ n ≤ 16777216 ∧ te.zero.cells.length = te.k then
        some (.sl ob.length n 0 n, ob ++ [.arr e te.k (parts.map (·.2))]) else none
    | none => none
  | _ => none
theorem flat_get {k : Nat} : ∀ (ds : List DV) (_ : ∀ y ∈ ds, y.cells.length = k) (j i : Nat) (y : DV), ds[j]? = some y → i < k → (ds.flatMap DV.cells)[j * k + i]? = y.cells[i]?
  | [], _, j, i, y, h, _ => by simp at h
  | d :: ds, hk, 0, i, y, h, hi => by
    simp only [List.getElem?_cons_zero, Option.some.injEq] at h
    subst h
    simp only [List.flatMap_cons, Nat.zero_mul, Nat.zero_add]
    rw [List.getElem?_append_left (by rw [hk d (by simp)]; exact hi)]
  | d :: ds, hk, j + 1, i, y, h, hi => by
    simp only [List.getElem?_cons_succ] at h
    simp only [List.flatMap_cons]
    rw [List.getElem?_append_right (by rw [hk d (by simp), Nat.add_mul]; omega), hk d (by simp), show (j + 1) * k + i - k = j * k + i by rw [Nat.add_mul]; omega]
    exact flat_get ds (fun y hy => hk y (by simp [hy])) j i y h hi
theorem flat_length {k : Nat} : ∀ (ds : List DV) (_ : ∀ y ∈ ds, y.cells.length = k), (ds.flatMap DV.cells).length = ds.length * k
  | [], _ => by simp
  | d :: ds, hk => by
    simp only [List.flatMap_cons, List.length_append, List.length_cons]
    rw [flat_length ds (fun y hy => hk y (by simp [hy])), hk d (by simp), Nat.add_mul]; omega
theorem fill_flat {k : Nat} : ∀ (rest pre : List DV) (parts : List (Nat × DV)), (∀ y ∈ pre, y.cells.length = k) → (∀ y ∈ rest, y.cells.length = k ∧ y.full = true) → parts.map (·.1) = List.range' pre.length rest.length → parts.map (·.2) = rest →
    fillDV (fun i => some (i * k, k)) (pre.flatMap DV.cells ++ List.replicate (rest.length * k) .undef) parts = some ((pre ++ rest).flatMap DV.cells) := by
  intro rest
  induction rest with
  | nil =>
    intro pre parts _ _ _ h2
    have : parts = [] := by simpa using h2
    subst this
    simp [fillDV]
  | cons d rest ih =>
    intro pre parts hp hr h1 h2
    rcases parts with _ | ⟨⟨i, x⟩, parts⟩
    · simp at h2
    · simp only [List.map_cons, List.cons.injEq] at h2
      obtain ⟨rfl, h2⟩ := h2
      simp only [List.map_cons, List.length_cons, List.range'_succ, List.cons.injEq] at h1
      obtain ⟨rfl, h1⟩ := h1
      obtain ⟨hxk, hxf⟩ := hr x (by simp)
      simp only [fillDV]
      rw [if_pos ⟨hxf, hxk, by rw [List.length_append, flat_length pre hp, List.length_replicate, List.length_cons, Nat.add_mul]; omega⟩]
      have hs : splice (pre.flatMap DV.cells ++ List.replicate ((x :: rest).length * k) .undef) (pre.length * k) x.cells = (pre ++ [x]).flatMap DV.cells ++ List.replicate (rest.length * k) .undef := by
        unfold splice
        rw [← flat_length pre hp, List.take_left, List.drop_append, List.drop_of_length_le (by omega)]
        simp only [List.nil_append, List.drop_replicate, List.flatMap_append, List.flatMap_cons, List.flatMap_nil, List.append_nil, List.append_assoc, List.length_cons, hxk]
        congr 3
        rw [Nat.add_mul]; omega
      rw [hs]
      have hpx : ∀ y ∈ pre ++ [x], y.cells.length = k := fun y hy => (List.mem_append.1 hy).elim (hp y) (fun h => by rw [List.mem_singleton.1 h]; exact hxk)
      have := ih (pre ++ [x]) parts hpx (fun y hy => hr y (by simp [hy])) (by simpa using h1) h2
      rw [this]
      simp
theorem run_buildSlice {L : Lay} (hL : LayOk P L) (hr : HR w F μ σ) {t n : Nat} {parts : List (Nat × DV)} {us : Array (Nat × Value)} {d : DV} {σ' : List Ob} (h : bsDV L σ t n parts = some (d, σ'))
    (hp : All2 (fun p u => p.1 = u.1 ∧ Rep w F μ σ p.2 u.2) parts us.toList) :
    ∃ v w' μ', (Instr.buildSlice t n us).run P w = .ok v w' ∧ HR w' F μ' σ' ∧ Step w F μ σ w' F μ' σ' ∧ Fr w μ w' μ' ∧ Rep w' F μ' σ' d v := by
  unfold bsDV at h
  split at h <;> try cases h
  rename_i k0 by0 e z ht
  obtain ⟨desc, hu, rfl⟩ := (hL _ _ ht).und
  split at h <;> try cases h
  rename_i te hte
  by_cases hcond : parts.map (·.1) = List.range n ∧ (parts.all fun p => p.2.full && p.2.cells.length == te.k) = true ∧ n * te.k ≤ 16777216 ∧ n ≤ 16777216 ∧ te.zero.cells.length = te.k
  · rw [if_pos hcond] at h
    cases h
    obtain ⟨h1, h2, h3, h3', h4⟩ := hcond
    obtain ⟨it, z', i1, i2, i3, i4, i5, i6⟩ := (hL _ _ hte).info
    have hpl : parts.length = n := by have := congrArg List.length h1; simpa using this
    have hel : ∀ y ∈ parts.map (·.2), y.cells.length = te.k ∧ y.full = true := by
      intro y hy
      obtain ⟨p, hp1, rfl⟩ := List.mem_map.1 hy
      have := List.all_eq_true.1 h2 p hp1
      simp at this
      exact ⟨this.2, this.1⟩
    have hfl := fill_flat (k := te.k) (parts.map (·.2)) [] parts (by simp) hel (by simp [hpl, h1, List.range_eq_range']) rfl
    simp only [List.flatMap_nil, List.nil_append, List.length_map, hpl] at hfl
    have hrl : ∀ (vs : Array Value), vs.size = n * te.k → RL w F μ σ (List.replicate (n * te.k) .undef) vs := fun vs hvs => ⟨by simp [hvs], fun i d v hd _ => by
      have := List.mem_of_getElem? hd
      rw [(List.mem_replicate.1 this).2]; exact .undef⟩
    have hzv : ∀ w, (zeroValue e).run P w = .ok z' w := fun w => by simp [zeroValue, typeInfo, i1, i4, program, Sem.run]
    have key : ∀ zz : Array Value, ∃ cells, Instr.fill (fun i => some (i * te.k, te.k)) ((Array.range (n * te.k)).map (fun q => zz[q % zz.size]!)) us.toList = some cells ∧ RL w F μ σ ((parts.map (·.2)).flatMap DV.cells) cells := fun zz =>
      fill_sound parts us.toList _ _ _ (hrl _ (by simp)) hfl hp
    have fin : ∀ cells, RL w F μ σ ((parts.map (·.2)).flatMap DV.cells) cells → (Instr.buildSlice t n us).run P w = .ok (.slice (some ⟨w.heap.size, 0, none⟩) n n) (w.alloc (.cells cells e)) →
        ∃ v w' μ', (Instr.buildSlice t n us).run P w = .ok v w' ∧ HR w' F μ' (σ ++ [.arr e te.k (parts.map (·.2))]) ∧ Step w F μ σ w' F μ' (σ ++ [.arr e te.k (parts.map (·.2))]) ∧ Fr w μ w' μ' ∧ Rep w' F μ' (σ ++ [.arr e te.k (parts.map (·.2))]) (.sl σ.length n 0 n) v := by
      intro cells hc hrun
      have hlen : cells.size = n * te.k := by rw [← hc.1, flat_length _ (fun y hy => (hel y hy).1)]; simp [hpl]
      obtain ⟨p1, p2, p3⟩ := hr.push (t := e) (k := te.k) (xs := parts.map (·.2)) (cur := cells) (.zero _) (fun y hy => (hel y hy).1) (fun j i y d hy hd => by
        have hi : i < te.k := by rw [← (hel y (List.mem_of_getElem? hy)).1]; exact (List.getElem?_eq_some_iff.1 hd).1
        have hg := flat_get (k := te.k) _ (fun y hy => (hel y hy).1) j i y hy hi
        rw [hd] at hg
        have hlt := (List.getElem?_eq_some_iff.1 hg).1
        rw [hc.1] at hlt
        exact ⟨_, Array.getElem?_eq_getElem hlt, hc.2 _ d _ hg (Array.getElem?_eq_getElem hlt)⟩)
      exact ⟨_, _, _, hrun, p1, p2, p3, .sl ⟨e, te.k, parts.map (·.2), by simp, by omega, by simp [hpl], Nat.le_refl _, by
        simp only [maxLen]; omega, fun _ => .inr ⟨w.heap.size, cells, (0, 0), by simp [grow], by rw [alloc_get]; exact if_pos rfl, by simp [hlen], rfl, fun _ => by simp⟩⟩⟩
    by_cases hz : n * te.k = 0
    · obtain ⟨cells, hc1, hc2⟩ := key #[]
      refine fin cells hc2 ?_
      simp only [Instr.buildSlice, Sem.run_bind, run_underlying hu, Result.andThen_ok, (hL _ _ hte).size]
      rw [if_neg (by omega), if_pos hz]
      simp only [Sem.run_bind, Sem.run_pure, Result.andThen_ok, hc1]
      rfl
    · obtain ⟨cells, hc1, hc2⟩ := key z'.cells
      refine fin cells hc2 ?_
      simp only [Instr.buildSlice, Sem.run_bind, run_underlying hu, Result.andThen_ok, (hL _ _ hte).size]
      rw [if_neg (by omega), if_neg hz]
      simp only [Sem.run_bind, Sem.run_pure, Result.andThen_ok, hzv, hc1]
      rfl
  · rw [if_neg hcond] at h; cases h
end
end Go.VL
end
section
namespace Go.VL
open Go

def lenDV (L : Lay) (t : Nat) (d : DV) : Option DV :=
  match L t, d with
  | some { d := .slice _, .. }, .vec _ _ xs => some (.int .i64 xs.length)
  | some { d := .slice _, .. }, .sl _ _ _ len => some (.int .i64 len)
  | some { d := .slice _, .. }, .nils => some (.int .i64 0)
  | some { d := .slice _, .. }, .emp => some (.int .i64 0)
  | some { d := .str, .. }, .str s => some (.int .i64 s.size)
  | _, _ => none
def mn (a b : Int) : Int := if b < a then b else a
def mx (a b : Int) : Int := if b > a then b else a
def minDV : List DV → Option DV
  | [.int k a, .int _ b] => some (.int k (mn a b))
  | [.int k a, .int _ b, .int _ c] => some (.int k (mn (mn a b) c))
  | _ => none
def maxDV : List DV → Option DV
  | [.int k a, .int _ b] => some (.int k (mx a b))
  | [.int k a, .int _ b, .int _ c] => some (.int k (mx (mx a b) c))
  | _ => none
def appDV (L : Lay) (ob : List Ob) (t t' : Nat) (d1 d2 : DV) : Option (DV × List Ob) :=
  match L t, L t' with
  | some { d := .slice e, .. }, some { d := .slice _, .. } => match L e with
    | some te => match srcDV ob te.k d2 with
      | some ys => if 0 < te.bytes ∧ (ys.all fun y => y.cells.all DV.one) = true then match d1 with
          | .sl id g off len => match ob[id]? with
            | some (.arr e0 k xs) => if e0 = e ∧ k = te.k ∧ g = xs.length ∧ off = 0 ∧ len = xs.length ∧ (xs.length + ys.length) * te.bytes ≤ 140737488355328 then
                some (.sl id (xs.length + ys.length) 0 (xs.length + ys.length), ob.set id (.arr e k (xs ++ ys))) else none
            | _ => none
          | .nils => if ys.length * te.bytes ≤ 140737488355328 then some (.sl ob.length ys.length 0 ys.length, ob ++ [.arr e te.k ys]) else none
          | _ => none
        else none
      | none => none
    | none => none
  | _, _ => none
def convDV (L : Lay) (s t : Nat) (d : DV) : Option DV :=
  match L s, L t with
  | some _, some { d := .int k, .. } => match d with
    | .int _ n => some (.int k (k.wrap n))
    | _ => none
  | some _, some { d := .str, .. } => match d with
    | .str x => some (.str x)
    | _ => none
  | _, _ => none
def binDV (L : Lay) (op : BinOp) (t : Nat) (a b : DV) : Option DV :=
  match a, b with
  | .int k x, .int k' y => match op with
    | .shl => shiftInt .shl k x y
    | .shr => shiftInt .shr k x y
    | op => if k = k' then binInt op k x y else none
  | .str x, .str y => binStr op x y
  | .bool x, .bool y => match L t, op with
    | some { d := .bool, .. }, .eql => some (.bool (x == y))
    | some { d := .bool, .. }, .neq => some (.bool (!(x == y)))
    | _, _ => none
  | _, _ => none

section
variable {P : Program} {L : Lay} {w : World} {F : Nat → Nat → Prop} {μ : Nat → Option Nat} {σ : List Ob}
theorem run_binDV (hL : LayOk P L) {op : BinOp} {t : Nat} {a b d : DV} {va vb : Value} (h : binDV L op t a b = some d) (ha : Rep w F μ σ a va) (hb : Rep w F μ σ b vb) (x y : Operand) :
    ∃ v, (do eqGuard op t x y va vb; binOp op t va vb : Sem Value).run P w = .ok v w ∧ Rep w F μ σ d v := by
  have gi : ∀ k k' n n', (eqGuard op t x y (.int k n) (.int k' n')).run P w = .ok () w := by intro k k' n n'; unfold eqGuard; cases op <;> rfl
  have gs : ∀ a b, (eqGuard op t x y (.string a) (.string b)).run P w = .ok () w := by intro a b; unfold eqGuard; cases op <;> rfl
  have gb : ∀ a b, (eqGuard op t x y (.bool a) (.bool b)).run P w = .ok () w := by intro a b; unfold eqGuard; cases op <;> rfl
  unfold binDV at h
  split at h
  · rename_i k x' k' y'
    cases ha; cases hb
    have hg := gi k k' x' y'
    split at h
    · obtain ⟨h1, h2⟩ := run_shiftInt (P := P) (k' := k') h t w
      exact ⟨_, by simp only [Sem.run_bind, hg, Result.andThen_ok, h1], rep_toVal h2⟩
    · obtain ⟨h1, h2⟩ := run_shiftInt (P := P) (k' := k') h t w
      exact ⟨_, by simp only [Sem.run_bind, hg, Result.andThen_ok, h1], rep_toVal h2⟩
    · by_cases hk : k = k'
      · rw [if_pos hk] at h
        subst hk
        obtain ⟨h1, h2⟩ := run_binInt (P := P) h t w
        exact ⟨_, by simp only [Sem.run_bind, hg, Result.andThen_ok, h1], rep_toVal h2⟩
      · rw [if_neg hk] at h; cases h
  · rename_i x' y'
    cases ha; cases hb
    have hg := gs x' y'
    obtain ⟨h1, h2⟩ := run_binStr (P := P) h t w
    exact ⟨_, by simp only [Sem.run_bind, hg, Result.andThen_ok, h1], rep_toVal h2⟩
  · rename_i x' y'
    cases ha; cases hb
    have hg := gb x' y'
    have he : ∀ q k by0 z, L t = some ⟨q, k, by0, .bool, z⟩ → (Op.equal t (.bool x') (.bool y')).run P w = .ok (x' == y') w := by
      intro q k by0 z ht
      obtain ⟨desc, hu, rfl⟩ := (hL _ _ ht).und
      have key : ∀ n, (Op.equalIn (n + 1) t (.bool x') (.bool y')).run P w = .ok (x' == y') w := fun n => by
        simp only [Op.equalIn, Sem.run_bind, run_underlying hu, Result.andThen_ok, Sem.run_pure]
      exact key 9999
    split at h <;> try cases h
    · rename_i ht
      exact ⟨.bool (x' == y'), by simp only [Sem.run_bind, hg, Result.andThen_ok, binOp, he _ _ _ _ ht, Sem.run_pure], .bool⟩
    · rename_i ht
      exact ⟨.bool (!(x' == y')), by simp only [Sem.run_bind, hg, Result.andThen_ok, binOp, he _ _ _ _ ht, Sem.run_pure], .bool⟩
  · cases h
theorem run_lenDV (hL : LayOk P L) {t : Nat} {d d' : DV} {v : Value} (h : lenDV L t d = some d') (hv : Rep w F μ σ d v) (ts : Array TypeId) (ty : TypeId) (hts : ts[0]? = some t) :
    ∃ v', (Builtin.len_ ts ty #[v]).run P w = .ok v' w ∧ Rep w F μ σ d' v' := by
  unfold lenDV at h
  split at h <;> try cases h
  all_goals
    rename_i ht
    obtain ⟨desc, hu, rfl⟩ := (hL _ _ ht).und
    cases hv
    exact ⟨_, by simp [Builtin.len_, hts, run_underlying hu, goInt], .int⟩
theorem run_convDV (hL : LayOk P L) {s t : Nat} {d d' : DV} {v : Value} (h : convDV L s t d = some d') (hv : Rep w F μ σ d v) :
    ∃ v', (convert s t v).run P w = .ok v' w ∧ Rep w F μ σ d' v' := by
  unfold convDV at h
  split at h <;> try cases h
  · rename_i ti k0 by0 k z hs ht
    obtain ⟨ds, hus, _⟩ := (hL _ _ hs).und
    obtain ⟨desc, hu, rfl⟩ := (hL _ _ ht).und
    split at h <;> try cases h
    cases hv
    exact ⟨_, by simp [convert, run_underlying hu, run_underlying hus, Conv.intToInt], .int⟩
  · rename_i ti k0 by0 z hs ht
    obtain ⟨ds, hus, _⟩ := (hL _ _ hs).und
    obtain ⟨desc, hu, rfl⟩ := (hL _ _ ht).und
    split at h <;> try cases h
    cases hv
    exact ⟨_, by simp [convert, run_underlying hu, run_underlying hus], .str⟩
theorem run_minDV {ds : List DV} {vs : List Value} {d : DV} (h : minDV ds = some d) (hr : Reps w F μ σ ds vs) (ts : Array TypeId) (ty : TypeId) :
    ∃ v, (Builtin.min_ ts ty ⟨vs⟩).run P w = .ok v w ∧ Rep w F μ σ d v := by
  obtain ⟨hl, hr⟩ := hr
  unfold minDV at h
  split at h <;> try cases h
  · rcases vs with _ | ⟨v0, _ | ⟨v1, _ | ⟨v2, r⟩⟩⟩ <;> simp at hl
    have h0 := hr 0 _ v0 rfl rfl
    have h1 := hr 1 _ v1 rfl rfl
    cases h0; cases h1
    exact ⟨_, by simp [Builtin.min_, Builtin.min2, mn], .int⟩
  · rcases vs with _ | ⟨v0, _ | ⟨v1, _ | ⟨v2, _ | ⟨v3, r⟩⟩⟩⟩ <;> simp at hl
    have h0 := hr 0 _ v0 rfl rfl
    have h1 := hr 1 _ v1 rfl rfl
    have h2 := hr 2 _ v2 rfl rfl
    cases h0; cases h1; cases h2
    exact ⟨_, by simp [Builtin.min_, Builtin.min2, mn]; rfl, .int⟩
theorem run_maxDV {ds : List DV} {vs : List Value} {d : DV} (h : maxDV ds = some d) (hr : Reps w F μ σ ds vs) (ts : Array TypeId) (ty : TypeId) :
    ∃ v, (Builtin.max_ ts ty ⟨vs⟩).run P w = .ok v w ∧ Rep w F μ σ d v := by
  obtain ⟨hl, hr⟩ := hr
  unfold maxDV at h
  split at h <;> try cases h
  · rcases vs with _ | ⟨v0, _ | ⟨v1, _ | ⟨v2, r⟩⟩⟩ <;> simp at hl
    have h0 := hr 0 _ v0 rfl rfl
    have h1 := hr 1 _ v1 rfl rfl
    cases h0; cases h1
    exact ⟨_, by simp [Builtin.max_, Builtin.max2, mx], .int⟩
  · rcases vs with _ | ⟨v0, _ | ⟨v1, _ | ⟨v2, _ | ⟨v3, r⟩⟩⟩⟩ <;> simp at hl
    have h0 := hr 0 _ v0 rfl rfl
    have h1 := hr 1 _ v1 rfl rfl
    have h2 := hr 2 _ v2 rfl rfl
    cases h0; cases h1; cases h2
    exact ⟨_, by simp [Builtin.max_, Builtin.max2, mx], .int⟩
theorem run_appDV (hL : LayOk P L) (hr : HR w F μ σ) {t t' : Nat} {d1 d2 d : DV} {v1 v2 : Value} {σ' : List Ob} (h : appDV L σ t t' d1 d2 = some (d, σ')) (h1 : Rep w F μ σ d1 v1) (h2 : Rep w F μ σ d2 v2) (ty : TypeId) :
    ∃ v w' μ', (Builtin.append_ #[t, t'] ty #[v1, v2]).run P w = .ok v w' ∧ HR w' F μ' σ' ∧ Step w F μ σ w' F μ' σ' ∧ Fr w μ w' μ' ∧ Rep w' F μ' σ' d v := by
  unfold appDV at h
  split at h <;> try cases h
  rename_i k0 by0 e z q1 k1 by1 e1 z1 ht ht'
  split at h <;> try cases h
  rename_i te hte
  split at h <;> try cases h
  rename_i ys hys
  split at h <;> try cases h
  rename_i hcond
  obtain ⟨hb0, hone⟩ := hcond
  have hone' : ∀ y ∈ ys, ∀ c ∈ y.cells, c.one = true := fun y hy c hc => List.all_eq_true.1 (List.all_eq_true.1 hone y hy) c hc
  split at h <;> try cases h
  · rename_i id g off len
    split at h <;> try cases h
    rename_i e0 k xs ho
    split at h <;> try cases h
    rename_i hc
    obtain ⟨rfl, rfl, rfl, rfl, rfl, hb⟩ := hc
    cases h1 with
    | sl hs =>
      obtain ⟨A', cap', w', μ', r1, r2, r3, r4, r5⟩ := run_append hL hr ht rfl hte ht' rfl hb0 ho hs hys h2 hone' hb ty
      refine ⟨_, w', μ', r1, r2, r3, r4, ?_⟩
      rw [List.length_append] at r5
      exact .sl r5
  · split at h <;> try cases h
    rename_i hb
    cases h1
    obtain ⟨q1, q2⟩ := hr.pushNil e te.k
    have hs : SlOk w μ (σ ++ [.arr e te.k []]) σ.length 0 0 0 none 0 := ⟨e, te.k, [], by simp, by omega, by simp, by omega, by simp [maxLen], fun _ => .inl ⟨rfl, rfl, rfl, hr.out _ (Nat.le_refl _)⟩⟩
    have hsrc : srcDV (σ ++ [.arr e te.k []]) te.k d2 = some ys := by
      unfold srcDV at hys ⊢
      cases d2 <;> first | exact hys | skip
      rename_i id g off len
      dsimp only at hys ⊢
      cases ho : σ[id]? with
      | none => rw [ho] at hys; cases hys
      | some o =>
        rw [ho] at hys
        rw [push_get, if_neg (by have := (List.getElem?_eq_some_iff.1 ho).1; omega), ho]
        exact hys
    obtain ⟨A', cap', w', μ', r1, r2, r3, r4, r5⟩ := run_append hL q1 ht rfl hte ht' rfl hb0 (id := σ.length) (xs := []) (by simp) (by simpa using hs) hsrc (h2.step q2) hone' (by simpa using hb) ty
    simp only [List.length_nil, Nat.zero_add, List.nil_append] at r1 r2 r3 r4 r5
    have hset : (σ ++ [Ob.arr e te.k []]).set σ.length (.arr e te.k ys) = σ ++ [.arr e te.k ys] := by
      rw [List.set_append]
      simp
    rw [hset] at r2 r3 r5
    exact ⟨_, w', μ', r1, r2, q2.trans r3, r4, .sl r5⟩
end

def bi (L : Lay) (ob : List Ob) (b : Builtin) (ts : List Nat) (ds : List DV) : Option (DV × List Ob) :=
  match b with
  | .len => match ts, ds with
    | [t], [d] => (lenDV L t d).map fun x => (x, ob)
    | _, _ => none
  | .min => (minDV ds).map fun x => (x, ob)
  | .max => (maxDV ds).map fun x => (x, ob)
  | .append => match ts, ds with
    | [t, t'], [d1, d2] => appDV L ob t t' d1 d2
    | _, _ => none
  | _ => none
end Go.VL
end
section
namespace Go.VL
open Go

section
variable {P : Program} {L : Lay} {w : World} {F : Nat → Nat → Prop} {μ : Nat → Option Nat} {σ : List Ob}

/-! ### A text's octet; a slice cut with a bound on what may grow -/
def indexDV (L : Lay) (t : Nat) (d i : DV) : Option DV :=
  match i with
  | .int _ n => match L t, d with
    | some { d := .str, .. }, .str s => if 0 ≤ n then (match s.data[n.toNat]? with
        | some b => some (.int .u8 b.toNat)
        | none => none) else none
    | some { d := .array m e, .. }, .agg cs => match L e with
      | some te => if 0 ≤ n ∧ n < (m : Int) then (if te.d.isAgg then none else cs[n.toNat * te.k]?) else none
      | none => none
    | _, _ => none
  | _ => none
theorem run_indexDV (hL : LayOk P L) {t : Nat} {d i d' : DV} {v vi : Value} (h : indexDV L t d i = some d') (hv : Rep w F μ σ d v) (hi : Rep w F μ σ i vi) :
    ∃ v', (Instr.index t v vi).run P w = .ok v' w ∧ Rep w F μ σ d' v' := by
  unfold indexDV at h
  split at h <;> try cases h
  rename_i kk n
  cases hi
  split at h <;> try cases h
  · rename_i k0 by0 z s ht
    obtain ⟨desc, hu, rfl⟩ := (hL _ _ ht).und
    cases hv
    by_cases hn : 0 ≤ n
    · rw [if_pos hn] at h
      split at h <;> try cases h
      rename_i b hb
      refine ⟨.int .u8 b.toNat, ?_, .int⟩
      have hb' : (s[n.toNat]? : Option UInt8) = some b := by
        obtain ⟨h1, h2⟩ := Array.getElem?_eq_some_iff.1 hb
        have h1' : n.toNat < s.size := h1
        rw [getElem?_pos s n.toNat h1']
        exact congrArg some h2
      simp only [Instr.index, Sem.run_bind, asIntOf, Sem.run_pure, Result.andThen_ok, run_underlying hu, if_pos hn, hb']
    · rw [if_neg hn] at h; cases h
  · rename_i k0 by0 m e z cs ht
    obtain ⟨desc, hu, rfl⟩ := (hL _ _ ht).und
    split at h <;> try cases h
    rename_i te hte
    by_cases hn : 0 ≤ n ∧ n < (m : Int)
    · rw [if_pos hn] at h
      by_cases ha : te.d.isAgg = true
      · rw [if_pos ha] at h; cases h
      · rw [if_neg ha] at h
        cases hv with
        | @agg _ vs hl hh =>
          have hlt := (List.getElem?_eq_some_iff.1 h).1
          have hv' : vs[n.toNat * te.k]? = some (vs[n.toNat * te.k]'(by omega)) := List.getElem?_eq_getElem _
          refine ⟨_, ?_, hh _ _ _ h hv'⟩
          have hagg := (hL _ _ hte).isAgg w
          rw [Bool.not_eq_true] at ha
          rw [ha] at hagg
          simp only [Instr.index, Sem.run_bind, asIntOf, Sem.run_pure, Result.andThen_ok, run_underlying hu, if_pos hn, (hL _ _ hte).size, part, hagg, Bool.false_eq_true, if_false, List.getElem?_toArray, hv']
    · rw [if_neg hn] at h; cases h

def slice3DV (L : Lay) (σ : List Ob) (t : Nat) (d : DV) (lo hi : Option DV) (mx : DV) : Option DV :=
  match L t with
  | some { d := .slice e, .. } => match L e with
    | some te => match d with
      | .vec c k xs => if te.k = k then (match bound (some mx) 0 xs.length with
          | some m => match bound hi m m with
            | some h => match bound lo 0 h with
              | some l => some (.vec c k ((xs.take h).drop l))
              | none => none
            | none => none
          | none => none) else none
      | .sl id g off len => match σ[id]? with
        | some (.arr _t0 k xs) => if te.k = k ∧ g = xs.length then (match bound (some mx) 0 len with
          | some m => match bound hi m m with
            | some h => match bound lo 0 h with
              | some l => some (.sl id g (off + l) (h - l))
              | none => none
            | none => none
          | none => none) else none
        | _ => none
      | _ => none
    | none => none
  | _ => none
theorem run_sliceBounds3 {dlo dhi : Option DV} {dmx : DV} {vlo vhi : Option Value} {vmx : Value} (hlo : RepO w F μ σ dlo vlo) (hhi : RepO w F μ σ dhi vhi) (hhs : dhi.isSome = true) (hmx : Rep w F μ σ dmx vmx) {len cap l h m : Nat} (hc : len ≤ cap)
    (h0 : bound (some dmx) 0 len = some m) (h1 : bound dhi m m = some h) (h2 : bound dlo 0 h = some l) :
    (Instr.sliceBounds true len cap vlo vhi (some vmx)).run P w = .ok (l, h, m) w ∧ l ≤ h ∧ h ≤ m ∧ m ≤ len := by
  have hm := run_sliceBound' (P := P) hmx h0 hc .slice3Acap
  rcases hhi with ⟨rfl, rfl⟩ | ⟨d', v', rfl, rfl, hr⟩
  · cases hhs
  · have hh := run_sliceBound' (P := P) hr h1 (Nat.le_refl _) .slice3B
    rcases hlo with ⟨rfl, rfl⟩ | ⟨d2, v2, rfl, rfl, hr2⟩
    · simp only [bound, Option.some.injEq] at h2
      subst h2
      refine ⟨?_, Nat.zero_le _, hh.2, hm.2⟩
      simp [Instr.sliceBounds, hm.1, hh.1]
    · have hl := run_sliceBound' (P := P) hr2 h2 (Nat.le_refl _) .slice3C
      refine ⟨?_, hl.2, hh.2, hm.2⟩
      simp [Instr.sliceBounds, hm.1, hh.1, hl.1]
theorem run_slice3DV (hL : LayOk P L) {t : Nat} {d d' : DV} {v : Value} {lo hi : Option DV} {mx : DV} {vlo vhi : Option Value} {vmx : Value} (h : slice3DV L σ t d lo hi mx = some d') (hv : Rep w F μ σ d v) (hlo : RepO w F μ σ lo vlo) (hhi : RepO w F μ σ hi vhi) (hhs : hi.isSome = true)
    (hmx : Rep w F μ σ mx vmx) : ∃ v', (Instr.sliceAt t v vlo vhi (some vmx)).run P w = .ok v' w ∧ Rep w F μ σ d' v' := by
  unfold slice3DV at h
  split at h <;> try cases h
  rename_i k0 by0 e z ht
  obtain ⟨desc, hu, rfl⟩ := (hL _ _ ht).und
  split at h <;> try cases h
  rename_i te hte
  have hsz := (hL _ _ hte).size w
  split at h <;> try cases h
  · rename_i c k xs
    by_cases hk : te.k = k
    · rw [if_pos hk] at h
      split at h <;> try cases h
      rename_i m h0
      split at h <;> try cases h
      rename_i hi' h1
      split at h <;> try cases h
      rename_i l h2
      cases hv with
      | @vec _ _ _ A cap u hc hm ha hkk hr =>
        obtain ⟨r1, r2, r3, r4⟩ := run_sliceBounds3 (P := P) hlo hhi hhs hmx hc h0 h1 h2
        refine ⟨.slice (if m = l then A else A.map (·.add (l * te.k))) (hi' - l) (m - l), ?_, ?_⟩
        · simp only [Instr.sliceAt, Sem.run_bind, run_underlying hu, Result.andThen_ok, Instr.slice, r1, hsz, Sem.run_pure]
        · have hlen : ((xs.take hi').drop l).length = hi' - l := by simp; omega
          have := Rep.vec (w := w) (F := F) (μ := μ) (σ := σ) (c := c) (k := k) (xs := (xs.take hi').drop l) (A := if m = l then A else A.map (·.add (l * te.k))) (cap := m - l) (fun j i => u (l + j) i) (by rw [hlen]; omega) (by omega) (fun h0' => ?_) (fun x hx => hkk x (List.mem_of_mem_take (List.mem_of_mem_drop hx))) (fun j i x d hx hd => ?_)
          · rw [hlen] at this; exact this
          · rw [hlen] at h0'
            obtain ⟨a, rfl, hF, hcell⟩ := ha (by omega)
            rw [if_neg (by omega)]
            refine ⟨_, rfl, by rw [add_block]; exact hF, fun j i hj hi => ?_⟩
            rw [hlen] at hj
            rw [add_add', hk, ← Nat.add_assoc, ← Nat.add_mul]
            exact hcell (l + j) i (by omega) hi
          · have hj : l + j < hi' := by
              have := (List.getElem?_eq_some_iff.1 hx).1
              rw [hlen] at this; omega
            rw [List.getElem?_drop, List.getElem?_take_of_lt hj] at hx
            exact hr _ _ _ _ hx hd
    · rw [if_neg hk] at h; cases h
  · rename_i id g off len
    split at h <;> try cases h
    rename_i t0 k xs ho
    by_cases hk : te.k = k ∧ g = xs.length
    · rw [if_pos hk] at h
      split at h <;> try cases h
      rename_i m h0
      split at h <;> try cases h
      rename_i hi' h1
      split at h <;> try cases h
      rename_i l h2
      cases hv with
      | @sl _ _ _ _ A cap hs =>
        obtain ⟨t2, k2, xs2, ho2, g1, g2, g3, g4, g5⟩ := hs
        rw [ho] at ho2
        cases ho2
        obtain ⟨r1, r2, r3, r4⟩ := run_sliceBounds3 (P := P) hlo hhi hhs hmx g3 h0 h1 h2
        refine ⟨.slice (if m = l then A else A.map (·.add (l * te.k))) (hi' - l) (m - l), ?_, ?_⟩
        · simp only [Instr.sliceAt, Sem.run_bind, run_underlying hu, Result.andThen_ok, Instr.slice, r1, hsz, Sem.run_pure]
        · refine .sl ⟨t0, k, xs, ho, by omega, g2, by omega, by omega, fun hg => ?_⟩
          rcases g5 hg with ⟨q1, rfl, q3, q4⟩ | ⟨b, cur, fr, q1, q2, q3, q5, q4⟩
          · refine .inl ⟨q1, ?_, by omega, q4⟩
            split <;> rfl
          · refine .inr ⟨b, cur, fr, q1, q2, Nat.le_trans (Nat.mul_le_mul_right _ (by omega)) q3, by split <;> simp [q5], fun hpos => ?_⟩
            by_cases hcl : m = l
            · rw [if_pos hcl]
              have hl0 : off + l = 0 := by omega
              have := q4 (by omega)
              subst this
              simp [show off = 0 by omega, show l = 0 by omega]
            · have hA := q4 (by omega)
              subst hA
              rw [if_neg hcl, hk.1]
              simp only [Option.map_some, add_mk, Nat.add_mul]
    · rw [if_neg hk] at h; cases h
end
end Go.VL
end
section
namespace Go.VL
open Go

section
variable {P : Program} {L : Lay} {w : World} {F : Nat → Nat → Prop} {μ : Nat → Option Nat} {σ : List Ob}

/-! ### Octets as a text -/
def octs : List DV → Option (List UInt8)
  | [] => some []
  | .int .u8 n :: r => (octs r).map (UInt8.ofNat n.toNat :: ·)
  | _ => none
theorem octs_length : ∀ {xs : List DV} {bs : List UInt8}, octs xs = some bs → bs.length = xs.length
  | [], _, h => by cases h; rfl
  | x :: r, bs, h => by
    unfold octs at h
    split at h
    · rename_i e; cases e
    · rename_i n r' e
      cases e
      cases hr : octs r with
      | none => rw [hr] at h; cases h
      | some l => rw [hr] at h; cases h; simp [octs_length hr]
    · cases h
theorem octs_one : ∀ {xs : List DV} {bs : List UInt8}, octs xs = some bs → ∀ x ∈ xs, ∃ n, x = .int .u8 n
  | [], _, _, x, hx => by simp at hx
  | y :: r, bs, h, x, hx => by
    unfold octs at h
    split at h
    · rename_i e; cases e
    · rename_i n r' e
      cases e
      cases hr : octs r with
      | none => rw [hr] at h; cases h
      | some l =>
        rcases List.mem_cons.1 hx with rfl | hx
        · exact ⟨_, rfl⟩
        · exact octs_one hr x hx
    · cases h
def pushAll (s : ByteArray) : List UInt8 → ByteArray
  | [] => s
  | b :: r => pushAll (s.push b) r
theorem run_bytesLoop (f : Value → ByteArray → Sem (ForInStep ByteArray)) (hf : ∀ (n : Int) (s : ByteArray), (f (.int .u8 n) s).run P w = .ok (.yield (s.push (UInt8.ofNat n.toNat))) w) : ∀ (bs : List UInt8) (xs : List DV) (vs : List Value) (s : ByteArray), octs xs = some bs → xs.length = vs.length → (∀ (i : Nat) (d : DV) (v : Value), xs[i]? = some d → vs[i]? = some v → Rep w F μ σ d v) →
    (forIn vs s f).run P w = .ok (pushAll s bs) w := by
  intro bs
  induction bs with
  | nil =>
    intro xs vs s h hl _
    have := octs_length h
    obtain rfl : vs = [] := List.eq_nil_of_length_eq_zero (by simp at this; omega)
    rfl
  | cons b bs ih =>
    intro xs vs s h hl hr
    have hlen := octs_length h
    rcases xs with _ | ⟨x, xs⟩
    · simp at hlen
    rcases vs with _ | ⟨v, vs⟩
    · simp at hl
    unfold octs at h
    split at h
    rotate_left 2
    · cases h
    · rename_i e; cases e
    rename_i n r' e
    cases e
    cases hx : octs xs with
    | none => rw [hx] at h; cases h
    | some l =>
      rw [hx] at h; cases h
      have h0 := hr 0 _ v rfl rfl
      cases h0
      simp only [List.forIn_cons, Sem.run_bind, hf, Result.andThen_ok, pushAll]
      exact ih xs vs _ hx (by simpa using hl) (fun i d v hd hv => hr (i + 1) d v (by simpa using hd) (by simpa using hv))
theorem pushAll_eq (bs : List UInt8) : ∀ s : ByteArray, pushAll s bs = ⟨s.data ++ bs.toArray⟩ := by
  induction bs with
  | nil => intro s; simp [pushAll]
  | cons b bs ih =>
    intro s
    simp only [pushAll, ih]
    congr 1
    apply Array.ext'
    simp [ByteArray.push]
def isOct (L : Lay) (e : Nat) : Bool := match L e with
  | some { d := .int .u8, k := 1, .. } => true
  | _ => false
def strOf (bs : List UInt8) : ByteArray := ⟨bs.toArray⟩
def bstrDV (L : Lay) (σ : List Ob) (s t : Nat) (d : DV) : Option DV :=
  match L s, L t with
  | some { d := .slice e, .. }, some { d := .str, .. } => if isOct L e = true then (match srcDV σ 1 d with
    | some xs => (octs xs).map fun bs => .str (strOf bs)
    | none => none) else none
  | _, _ => none
theorem isOct_und (hL : LayOk P L) {e : Nat} (h : isOct L e = true) : P.underlying e = some (.int .u8) := by
  unfold isOct at h
  split at h <;> try cases h
  rename_i b z he
  obtain ⟨d, hu, hd⟩ := (hL _ _ he).und
  cases hd
  exact hu
theorem run_bstrDV (hL : LayOk P L) (hr : HR w F μ σ) {s t : Nat} {d d' : DV} {v : Value} (h : bstrDV L σ s t d = some d') (hv : Rep w F μ σ d v) :
    ∃ v', (convert s t v).run P w = .ok v' w ∧ Rep w F μ σ d' v' := by
  unfold bstrDV at h
  split at h <;> try cases h
  rename_i k0 b0 e z0 q1 k1 b1 z1 hs ht
  obtain ⟨ds, hus, rfl⟩ := (hL _ _ hs).und
  obtain ⟨dt, hut, rfl⟩ := (hL _ _ ht).und
  by_cases ho : isOct L e = true
  · rw [if_pos ho] at h
    have hue := isOct_und hL ho
    split at h <;> try cases h
    rename_i xs hx
    cases hb : octs xs with
    | none => rw [hb] at h; cases h
    | some bs =>
      rw [hb] at h; cases h
      have hone := octs_one hb
      obtain ⟨A, cap, news, rfl, hn, hf⟩ := src_sound (P := P) hr hx hv (fun y hy c hc => by
        obtain ⟨n, rfl⟩ := hone y hy
        simp [DV.cells] at hc
        subst hc
        rfl)
      have hf := hf w rfl
      refine ⟨.string (strOf bs), ?_, .str⟩
      have hconv : (convert s t (.slice A xs.length cap)).run P w = (Conv.bytesToString (.slice A xs.length cap)).run P w := by
        simp only [convert, Sem.run_bind, run_underlying hus, run_underlying hut, Result.andThen_ok]
        simp [run_underlying hue]
      rw [hconv]
      cases A with
      | none =>
        have h0 : news.size = 0 := by
          simp only [Builtin.firstCells, Sem.run_pure] at hf
          cases hf; rfl
        have : xs.length = 0 := by have := hn.size; omega
        have : bs = [] := List.eq_nil_of_length_eq_zero (by rw [octs_length hb]; exact this)
        subst this
        rfl
      | some a =>
        simp only [Builtin.firstCells, Nat.mul_one] at hf
        simp only [Conv.bytesToString, Sem.run_bind, hf, Result.andThen_ok]
        rw [← Array.forIn_toList]
        rw [run_bytesLoop _ (fun n s => rfl) bs xs news.toList .empty hb (by simp [hn.size]) (fun i d v hd hv => by
          have := hn.rep i 0 d d hd (by obtain ⟨n, rfl⟩ := hone d (List.mem_of_getElem? hd); rfl)
          obtain ⟨v', h1, h2⟩ := this
          simp only [Nat.mul_one, Nat.add_zero] at h1
          have : news[i]? = some v := by simpa using hv
          rw [h1] at this
          cases this
          exact h2)]
        simp only [Result.andThen_ok, Sem.run_pure, pushAll_eq, strOf]
        congr 2
        simp
  · rw [if_neg ho] at h; cases h

/-! ### Equality -/
/-- Scalars and flat structs of them. -/
def eqCell (k : TD) : DV → DV → Option Bool
  | .int a x, .int b y => match k with
    | .int _ => if a = b then some (x == y) else none
    | _ => none
  | .bool x, .bool y => match k with
    | .bool => some (x == y)
    | _ => none
  | .str x, .str y => match k with
    | .str => some (x.toList == y.toList)
    | _ => none
  | _, _ => none
def eqCells (L : Lay) : List (Nat × Nat) → List DV → List DV → Option Bool
  | [], _, _ => some true
  | (off, ft) :: r, xs, ys => match L ft, xs[off]?, ys[off]? with
    | some ti, some x, some y => match eqCell ti.d x y with
      | some true => eqCells L r xs ys
      | some false => some false
      | none => none
    | _, _, _ => none
def eqM (L : Lay) (σ : List Ob) (t : Nat) (a b : DV) : Option Bool :=
  match L t with
  | some { d := .struct fs, eq := true, .. } => match a, b with
    | .agg xs, .agg ys => eqCells L fs xs ys
    | _, _ => none
  | some { d := .slice _, .. } => match a, b with
    | .nils, .nils => some true
    | .emp, .nils => some false
    | .sl id g _ _, .nils => match σ[id]? with
      | some (.arr _ _ xs) => if g = xs.length ∧ 0 < g then some false else none
      | _ => none
    | .vec _ _ (_ :: _), .nils => some false
    | _, _ => none
  | some { d := .pointer _, .. } => match a, b with
    | .nilp, .nilp => some true
    | .ptr .., .nilp => some false
    | .vptr .., .nilp => some false
    | _, _ => none
  | _ => none
theorem run_eqCell (hL : LayOk P L) {ft : Nat} {ti : TI} (ht : L ft = some ti) {x y : DV} {vx vy : Value} {b : Bool} (h : eqCell ti.d x y = some b) (hx : Rep w F μ σ x vx) (hy : Rep w F μ σ y vy) (d : Nat) :
    (Op.equalIn (d + 1) ft vx vy).run P w = .ok b w ∧ ti.d.isAgg = false := by
  obtain ⟨desc, hu, hd⟩ := (hL _ _ ht).und
  unfold eqCell at h
  split at h <;> try cases h
  · split at h <;> try cases h
    rename_i a x b' y _ k hk
    rw [hk] at hd ⊢
    cases hd
    by_cases hab : a = b'
    · rw [if_pos hab] at h
      cases h
      cases hx; cases hy
      subst hab
      exact ⟨run_equalIn_int w d ft a k x y hu, rfl⟩
    · rw [if_neg hab] at h; cases h
  · split at h <;> try cases h
    rename_i hk
    rw [hk] at hd ⊢
    cases hd
    cases hx; cases hy
    exact ⟨run_equalIn_bool' w d ft _ _ hu, rfl⟩
  · split at h <;> try cases h
    rename_i hk
    rw [hk] at hd ⊢
    cases hd
    cases hx; cases hy
    exact ⟨run_equalIn_string w d ft _ _ hu, rfl⟩
theorem run_eqCells (hL : LayOk P L) {xs ys : List DV} {vx vy : List Value} (hlx : xs.length = vx.length) (hx : ∀ (i : Nat) (d : DV) (v : Value), xs[i]? = some d → vx[i]? = some v → Rep w F μ σ d v)
    (hly : ys.length = vy.length) (hy : ∀ (i : Nat) (d : DV) (v : Value), ys[i]? = some d → vy[i]? = some v → Rep w F μ σ d v) (d : Nat) :
    ∀ (fs : List Field) (b : Bool), (∀ f ∈ fs, f.name ≠ "_") → eqCells L (fs.map fun f => (f.offset, f.type)) xs ys = some b → (Op.eqFields (d + 1) ⟨vx⟩ ⟨vy⟩ fs).run P w = .ok b w := by
  intro fs
  induction fs with
  | nil => intro b _ h; cases h; rfl
  | cons f fs ih =>
    intro b hn h
    simp only [List.map_cons, eqCells] at h
    split at h <;> try cases h
    rename_i ti x y h1 h2 h3
    have l2 := (List.getElem?_eq_some_iff.1 h2).1
    have l3 := (List.getElem?_eq_some_iff.1 h3).1
    have e2 : vx[f.offset]? = some (vx[f.offset]'(by omega)) := List.getElem?_eq_getElem _
    have e3 : vy[f.offset]? = some (vy[f.offset]'(by omega)) := List.getElem?_eq_getElem _
    have rx := hx _ _ _ h2 e2
    have ry := hy _ _ _ h3 e3
    cases hc : eqCell ti.d x y with
    | none => rw [hc] at h; cases h
    | some c =>
      rw [hc] at h
      obtain ⟨r1, r2⟩ := run_eqCell hL h1 hc rx ry d
      have hagg := (hL _ _ h1).isAgg w
      rw [r2] at hagg
      have p2 : (part f.type ⟨vx⟩ f.offset).run P w = .ok (vx[f.offset]'(by omega)) w := by
        simp only [part, Sem.run_bind, hagg, Result.andThen_ok, Bool.false_eq_true, if_false, List.getElem?_toArray, e2, Sem.run_pure]
      have p3 : (part f.type ⟨vy⟩ f.offset).run P w = .ok (vy[f.offset]'(by omega)) w := by
        simp only [part, Sem.run_bind, hagg, Result.andThen_ok, Bool.false_eq_true, if_false, List.getElem?_toArray, e3, Sem.run_pure]
      simp only [Op.eqFields, if_pos (hn f (by simp)), Sem.run_bind, p2, p3, r1, Result.andThen_ok]
      cases c with
      | true => simp only [Bool.not_true, Bool.false_eq_true, if_false]; exact ih b (fun g hg => hn g (by simp [hg])) h
      | false => cases h; simp only [Bool.not_false, if_true, Sem.run_pure]
theorem run_eqM (hL : LayOk P L) {t : Nat} {a b : DV} {va vb : Value} {q : Bool} (h : eqM L σ t a b = some q) (ha : Rep w F μ σ a va) (hb : Rep w F μ σ b vb) (op : BinOp) (hop : op = .eql ∨ op = .neq) (x y : Operand) :
    (do eqGuard op t x y va vb; binOp op t va vb : Sem Value).run P w = .ok (.bool (if op = .eql then q else !q)) w := by
  have fin : ∀ va vb, (eqGuard op t x y va vb).run P w = .ok () w → (Op.equal t va vb).run P w = .ok q w → (∀ k n, va ≠ .int k n) → (∀ k n, va ≠ .float k n) → (∀ k n m, va ≠ .complex k n m) → (∀ s, va ≠ .string s) →
      (do eqGuard op t x y va vb; binOp op t va vb : Sem Value).run P w = .ok (.bool (if op = .eql then q else !q)) w := by
    intro va vb h1 h2 n1 n2 n3 n4
    rw [Sem.run_bind, h1, Result.andThen_ok]
    rcases hop with rfl | rfl
    · cases va <;> first | exact absurd rfl (n1 _ _) | exact absurd rfl (n2 _ _) | exact absurd rfl (n3 _ _ _) | exact absurd rfl (n4 _) | simp [binOp, h2]
    · cases va <;> first | exact absurd rfl (n1 _ _) | exact absurd rfl (n2 _ _) | exact absurd rfl (n3 _ _ _) | exact absurd rfl (n4 _) | simp [binOp, h2]
  have g0 : ∀ va vb, (va ≠ .nilIface) → (∀ c, va ≠ .agg c) → (eqGuard op t x y va vb).run P w = .ok () w := by
    intro va vb n1 n2
    unfold eqGuard
    rcases hop with rfl | rfl <;> cases va <;> first | exact absurd rfl n1 | exact absurd rfl (n2 _) | rfl
  unfold eqM at h
  split at h <;> try cases h
  · rename_i k0 b0 fs z ht
    split at h <;> try cases h
    rename_i xs ys
    cases ha with
    | @agg _ vx hlx hx =>
    cases hb with
    | @agg _ vy hly hy =>
    obtain ⟨desc, hu, fields, rfl, hfs⟩ := (hL _ _ ht).und
    obtain ⟨e1, e2, e3⟩ := (hL _ _ ht).eqs rfl
    have hfo : P.fieldsOf t = fields := by simp [Program.fieldsOf, hu]
    have hcells : eqCells L (fields.toList.map fun f => (f.offset, f.type)) xs ys = some q := by rw [hfs]; exact h
    refine fin _ _ (run_eqGuard_agg w op t x y _ _ e2) ?_ (by simp) (by simp) (by simp) (by simp)
    have := run_equalIn_struct (P := P) w 9999 t ⟨vx⟩ ⟨vy⟩ (by rw [hfo]; exact hu) e1
    simp only [Op.equal, Op.maxDepth]
    rw [this, hfo]
    exact run_eqCells hL hlx hx hly hy 9998 _ _ (e3 _ hu) hcells
  · rename_i q0 k0 b0 e z ht
    obtain ⟨desc, hu, rfl⟩ := (hL _ _ ht).und
    have he : ∀ A l c, (Op.equal t (.slice A l c) (.slice none 0 0)).run P w = .ok A.isNone w := by
      intro A l c
      have key : ∀ n, (Op.equalIn (n + 1) t (.slice A l c) (.slice none 0 0)).run P w = .ok A.isNone w := fun n => by
        simp only [Op.equalIn, Sem.run_bind, run_underlying hu, Result.andThen_ok]
        cases A <;> rfl
      exact key 9999
    have key : ∀ A l c, A.isNone = q → (do eqGuard op t x y (.slice A l c) (.slice none 0 0); binOp op t (.slice A l c) (.slice none 0 0) : Sem Value).run P w = .ok (.bool (if op = .eql then q else !q)) w := fun A l c hq =>
      fin _ _ (g0 _ _ (by simp) (by simp)) (by rw [he, hq]) (by simp) (by simp) (by simp) (by simp)
    split at h <;> try cases h
    · cases ha; cases hb; exact key _ _ _ rfl
    · cases ha; cases hb; exact key _ _ _ rfl
    · rename_i id g off len
      split at h <;> try cases h
      rename_i t0 k xs ho
      by_cases hg : g = xs.length ∧ 0 < g
      · rw [if_pos hg] at h
        cases h
        cases hb
        cases ha with
        | @sl _ _ _ _ A cap hs =>
          obtain ⟨t2, k2, xs2, ho2, g1, g2, g3, g4, g5⟩ := hs
          rw [ho] at ho2
          cases ho2
          rcases g5 hg.1 with ⟨q1, _⟩ | ⟨b, cur, fr, _, _, _, q5, _⟩
          · omega
          · refine key _ _ _ ?_
            cases A with
            | none => cases q5
            | some a => rfl
      · rw [if_neg hg] at h; cases h
    · cases hb
      cases ha with
      | vec u hc hm ha hk hr =>
        obtain ⟨a, rfl, _⟩ := ha (by simp)
        exact key _ _ _ rfl
  · rename_i q0 k0 b0 e z ht
    obtain ⟨desc, hu, rfl⟩ := (hL _ _ ht).und
    have he : ∀ A, (Op.equal t (.pointer A) (.pointer none)).run P w = .ok A.isNone w := by
      intro A
      have key : ∀ n, (Op.equalIn (n + 1) t (.pointer A) (.pointer none)).run P w = .ok A.isNone w := fun n => by
        simp only [Op.equalIn, Sem.run_bind, run_underlying hu, Result.andThen_ok]
        cases A <;> rfl
      exact key 9999
    have key : ∀ A, A.isNone = q → (do eqGuard op t x y (.pointer A) (.pointer none); binOp op t (.pointer A) (.pointer none) : Sem Value).run P w = .ok (.bool (if op = .eql then q else !q)) w := fun A hq =>
      fin _ _ (g0 _ _ (by simp) (by simp)) (by rw [he, hq]) (by simp) (by simp) (by simp) (by simp)
    split at h <;> try cases h
    · cases ha; cases hb; exact key _ rfl
    · cases ha; cases hb; exact key _ rfl
    · cases ha; cases hb; exact key _ rfl
end
end Go.VL
end
section
set_option linter.unusedVariables false
set_option linter.unusedSimpArgs false
namespace Go.VL
open Go

section
variable {P : Program} {L : Lay} {w : World} {F : Nat → Nat → Prop} {μ : Nat → Option Nat} {σ : List Ob}

theorem HR.drew1 (h : HR w F μ σ) : HR w.drew F μ σ := h.drew _
theorem step_drew1 : Step w F μ σ w.drew F μ σ := step_drew w _ F μ σ
theorem fr_drew1 : Fr w μ w.drew μ := ⟨rfl, rfl, rfl, Nat.le_refl _, fun _ _ _ => rfl, fun _ _ h => .inl h, Nat.le_succ _⟩
theorem News.step {k : Nat} {ys : List DV} {news : Array Value} {w' : World} {F' : Nat → Nat → Prop} {μ' : Nat → Option Nat} {σ' : List Ob} (h : News w F μ σ k ys news) (s : Step w F μ σ w' F' μ' σ') : News w' F' μ' σ' k ys news :=
  ⟨h.size, h.len, h.one, fun j i y d hy hd => by obtain ⟨v, h1, h2⟩ := h.rep j i y d hy hd; exact ⟨v, h1, h2.step s⟩⟩

/-- What is appended to nothing lies in a new row. -/
theorem append_new (hr : HR w F μ σ) {e k bytes : Nat} {ys : List DV} {news : Array Value} {z : Value} (hn : News w F μ σ k ys news) (hb0 : 0 < bytes) (hb : ys.length * bytes ≤ 140737488355328) (hzs : z.cells.size = k) :
    let N := grownCap w ys.length 0 e
    let w' := w.drew.alloc (.cells (news ++ Builtin.zeroCells z.cells (N - ys.length)) e)
    let μ' := grow μ σ.length w.heap.size
    HR w' F μ' (σ ++ [.arr e k ys]) ∧ Step w F μ σ w' F μ' (σ ++ [.arr e k ys]) ∧ Fr w μ w' μ' ∧ Rep w' F μ' (σ ++ [.arr e k ys]) (.sl σ.length ys.length 0 ys.length) (.slice (some ⟨w.heap.size, 0, none⟩) ys.length N) := by
  intro N w' μ'
  have h47 : ys.length ≤ 140737488355328 := Nat.le_trans (Nat.le_mul_of_pos_right _ hb0) hb
  have hgc : ys.length ≤ N := grownCap_ge w ys.length 0 e
  have hgm : N ≤ maxLen := grownCap_le_maxLen w ys.length 0 e (by simp only [maxLen]; omega)
  obtain ⟨p1, p2, p3⟩ := hr.drew1.push (t := e) (k := k) (xs := ys) (cur := news ++ Builtin.zeroCells z.cells (N - ys.length)) (.zero _) hn.len (fun j i y d hy hd => by
    obtain ⟨v, h1, h2⟩ := hn.rep j i y d hy hd
    refine ⟨v, ?_, h2.step step_drew1⟩
    rw [Array.getElem?_append_left (Array.getElem?_eq_some_iff.1 h1).1]
    exact h1)
  refine ⟨p1, step_drew1.trans p2, fr_drew1.trans p3, .sl ⟨e, k, ys, by simp, by omega, Nat.le_refl _, hgc, hgm, fun _ => .inr ⟨w.heap.size, _, (0, 0), by simp [μ', grow], by rw [alloc_get]; exact if_pos rfl, Nat.le_of_eq ?_, rfl, fun _ => by simp⟩⟩⟩
  simp only [Array.size_append, hn.size, Builtin.zeroCells, Array.size_map, Array.size_range, hzs, Nat.zero_add]
  rw [← Nat.add_mul]
  congr 1; omega

/-! ### What is appended -/
def srcM (L : Lay) (σ : List Ob) (te : TI) (t' : Nat) (d : DV) : Option (List DV) :=
  match L t' with
  | some { d := .int _, .. } => match d with
    | .int _ n => if 0 ≤ n ∧ n * te.bytes ≤ 1073741824 ∧ te.zero.cells.length = te.k then some (List.replicate n.toNat te.zero) else none
    | _ => none
  | some { d := .slice _, .. } => srcDV σ te.k d
  | _ => none
theorem zeroCells_get {z : Value} {n j i : Nat} {v : Value} (hj : j < n) (hz : z.cells[i]? = some v) : (Builtin.zeroCells z.cells n)[j * z.cells.size + i]? = some v := by
  obtain ⟨hi, rfl⟩ := Array.getElem?_eq_some_iff.1 hz
  have hlt : j * z.cells.size + i < n * z.cells.size := by
    have : j * z.cells.size + z.cells.size ≤ n * z.cells.size := by rw [← Nat.succ_mul]; exact Nat.mul_le_mul_right _ hj
    omega
  have hmod : (j * z.cells.size + i) % z.cells.size = i := by rw [Nat.mul_comm, Nat.mul_add_mod, Nat.mod_eq_of_lt hi]
  simp only [Builtin.zeroCells]
  rw [Array.getElem?_map]
  simp only [Array.getElem?_range, if_pos hlt, Option.map_some, hmod]
  congr 1
  exact getElem!_pos z.cells i hi
theorem zero_one (hL : LayOk P L) {e : Nat} {te : TI} (hte : L e = some te) {z : Value} (hz : ofVal z = te.zero) (h1 : te.zero.cells.all DV.one = true) : ∀ u ∈ z.cells.toList, u.oneCell' = true := by
  intro u hu
  obtain ⟨i, hi, rfl⟩ := List.getElem_of_mem hu
  have hr : Rep (default : World) (fun _ _ => False) (fun _ => none) [] te.zero z := by rw [← hz]; exact rep_ofVal z
  cases z with
  | agg cs =>
    simp only [Value.cells] at hi ⊢
    simp only [ofVal] at hz
    rw [← hz] at h1
    simp only [DV.cells, List.all_map, List.all_eq_true] at h1
    have := h1 _ (List.getElem_mem hi)
    revert this
    simp only [Function.comp]
    generalize cs.toList[i] = u
    intro this
    unfold ofVal1 at this
    split at this <;> first | rfl | (cases this)
  | _ =>
    simp only [Value.cells, List.length_singleton] at hi
    have hi0 : i = 0 := by simpa using hi
    subst hi0
    simp only [Value.cells]
    rw [← hz] at h1
    simp only [ofVal] at h1
    first
      | rfl
      | (simp [ofVal1, DV.cells, DV.one] at h1)

def appCore (P : Program) (e k n len cap : Nat) (A : Option Addr) (z : Value) (X : Sem (Array Value)) (R : Nat → Sem Unit) : Sem Value := do
  if len + n ≤ cap then
    let new ← X
    if let some a := A then storeCells (a.add (len * k)) new.toList
    pure (Value.slice A (len + n) cap)
  else
    let newCap ← choose (.appendCap (len + n) cap e)
    R newCap
    let old ← Builtin.firstCells k len (.slice A len cap)
    let new ← X
    let rest := Builtin.zeroCells z.cells (newCap - (len + n))
    pure (Value.slice (some (← newRow e (old ++ new ++ rest))) (len + n) newCap)
/-- append, once what is appended is known. -/
theorem append_front (hL : LayOk P L) (hr : HR w F μ σ) {t t' e : Nat} {ti te : TI} (ht : L t = some ti) (hd : ti.d = .slice e) (hte : L e = some te) (hb0 : 0 < te.bytes) (hz1 : te.zero.cells.all DV.one = true) {d2 : DV} {v2 : Value} {ys : List DV} (h2 : srcM L σ te t' d2 = some ys) (hv2 : Rep w F μ σ d2 v2)
    (h1 : ∀ y ∈ ys, ∀ c ∈ y.cells, c.one = true) (ty : TypeId) :
    ∃ (news : Array Value) (z : Value) (X : Sem (Array Value)) (R : Nat → Sem Unit), News w F μ σ te.k ys news ∧ z.cells.size = te.k ∧ (∀ w' : World, w'.heap = w.heap → X.run P w' = .ok news w') ∧ (∀ (n : Nat) (w' : World), (R n).run P w' = .ok () w') ∧
      ∀ (A : Option Addr) (len cap : Nat), (len + ys.length) * te.bytes ≤ 140737488355328 → (Builtin.append_ #[t, t'] ty #[.slice A len cap, v2]).run P w = (appCore P e te.k ys.length len cap A z X R).run P w := by
  obtain ⟨desc, hu, hdesc⟩ := (hL _ _ ht).und
  rw [hd] at hdesc
  cases hdesc
  have hsize := fun w => (hL _ _ hte).size w
  obtain ⟨it, z', i1, i2, i3, i4, i5, i6⟩ := (hL _ _ hte).info
  have hty : ∀ w, (typeInfo e).run P w = .ok it w := fun w => by simp [typeInfo, i1, program, Sem.run]
  have hzr : ∀ w, (zeroValue e).run P w = .ok z' w := fun w => by simp [zeroValue, hty, i4]
  have hR : ∀ (n : Nat) (w' : World), (askRoom (n * it.bytes)).run P w' = .ok () w' := fun n w' => by unfold askRoom; split <;> rfl
  have hbn : ¬ (it.bytes = 0) := by omega
  unfold srcM at h2
  split at h2 <;> try cases h2
  · -- zeros
    rename_i q0 k0 b0 kk z0 ht'
    obtain ⟨desc', hu', rfl⟩ := (hL _ _ ht').und
    split at h2 <;> try cases h2
    rename_i kn n
    cases hv2
    split at h2 <;> try cases h2
    rename_i hn
    obtain ⟨hn0, hnb, hzl⟩ := hn
    obtain ⟨N, rfl⟩ := Int.eq_ofNat_of_zero_le hn0
    have hN : N ≤ 1073741824 := by
      have : (N : Int) * 1 ≤ N * te.bytes := Int.mul_le_mul_of_nonneg_left (by omega) (by omega)
      omega
    have hw : IntKind.i64.wrap (N : Int) = N := IntWalk.i64_in _ (by omega)
    simp only [Int.toNat_natCast, List.length_replicate]
    refine ⟨Builtin.zeroCells z'.cells N, z', (if N * te.k = 0 then pure #[] else do pure (Builtin.zeroCells (← zeroValue e).cells N)), fun n => askRoom (n * it.bytes), ⟨by simp [Builtin.zeroCells, i5], fun y hy => by rw [(List.mem_replicate.1 hy).2]; exact hzl, fun u hu => ?_, fun j i y d hy hd => ?_⟩, i5, fun w' _ => ?_, hR, fun A len cap hb => ?_⟩
    · have ho := zero_one hL hte i6 hz1
      simp only [Builtin.zeroCells, Array.toList_map, List.mem_map, Array.mem_toList_iff, Array.mem_range] at hu
      obtain ⟨q, hq, rfl⟩ := hu
      have hpos : 0 < z'.cells.size := by rcases Nat.eq_zero_or_pos z'.cells.size with h | h
                                          · rw [h] at hq; omega
                                          · exact h
      rw [getElem!_pos z'.cells _ (Nat.mod_lt _ hpos)]
      exact ho _ (by simp)
    · obtain ⟨hj, rfl⟩ : j < N ∧ y = te.zero := by
        rw [List.getElem?_replicate] at hy
        split at hy
        · rename_i hj; exact ⟨hj, (Option.some.inj hy).symm⟩
        · cases hy
      have hrz : Rep w F μ σ te.zero z' := by rw [← i6]; exact rep_ofVal z'
      obtain ⟨u, hu1, hu2⟩ := rep_cells' hrz (by rw [i5, hzl]) i d hd
      refine ⟨u, ?_, hu2⟩
      have := zeroCells_get hj hu1
      rwa [i5] at this
    · by_cases h0 : N * te.k = 0
      · rw [if_pos h0]
        have : Builtin.zeroCells z'.cells N = #[] := by apply Array.eq_empty_of_size_eq_zero; simp [Builtin.zeroCells, i5, h0]
        rw [this]
        rfl
      · rw [if_neg h0]
        simp only [Sem.run_bind, hzr, Result.andThen_ok, Sem.run_pure]
    · have hl0 : ¬ ((N : Int) < 0) := by omega
      have hl1 : ¬ ((N : Int) * (it.bytes : Int) > 2 ^ 48) := by rw [i3]; omega
      have hfit := growslice_fits (need := len + N) (old := cap) (bytes := it.bytes)
      rw [i3] at hfit
      have hlen : len + N ≤ 140737488355328 := Nat.le_trans (Nat.le_mul_of_pos_right _ hb0) hb
      have hmax : ¬ ((len + N : Nat) : Int) > IntKind.i64.max := by simp only [show IntKind.i64.max = 9223372036854775807 from rfl]; omega
      unfold appCore
      by_cases hc : len + N ≤ cap
      · simp only [Builtin.append_, run_underlying hu, run_underlying hu', hsize, hty, hzr, asInt, asIntOf, hw, Sem.run_bind, Sem.run_pure, Result.andThen_ok, List.getElem?_toArray, List.getElem?_cons_zero, List.getElem?_cons_succ, if_true, if_neg hl0, if_neg hl1, Bool.not_true, Bool.false_eq_true, if_false, Int.toNat_natCast, if_pos hc]
        rfl
      · have hf2 : ¬ (Builtin.nextslicecap (len + N) cap * it.bytes > 2 ^ 48) := by
          have := hfit (by omega) hb
          rw [i3]; exact Nat.not_lt.2 this
        simp only [Builtin.append_, run_underlying hu, run_underlying hu', hsize, hty, hzr, asInt, asIntOf, hw, Sem.run_bind, Sem.run_pure, Result.andThen_ok, List.getElem?_toArray, List.getElem?_cons_zero, List.getElem?_cons_succ, if_true, if_neg hl0, if_neg hl1, Bool.not_true, Bool.false_eq_true, if_false, Int.toNat_natCast, if_neg hc, hmax, false_and, if_neg hf2]
  · rename_i q0 k0 b0 e' z0 ht'
    obtain ⟨desc', hu', rfl⟩ := (hL _ _ ht').und
    obtain ⟨A2, cap2, news, rfl, hnews, hfirst⟩ := src_sound (P := P) hr h2 hv2 h1
    refine ⟨news, z', Builtin.firstCells te.k ys.length (.slice A2 ys.length cap2), fun n => askRoom (n * it.bytes), hnews, i5, hfirst, hR, fun A len cap hb => ?_⟩
    have hfit := growslice_fits (need := len + ys.length) (old := cap) (bytes := it.bytes)
    rw [i3] at hfit
    unfold appCore
    by_cases hc : len + ys.length ≤ cap
    · simp only [Builtin.append_, run_underlying hu, run_underlying hu', hsize, Builtin.lenOf, Sem.run_bind, Sem.run_pure, Result.andThen_ok, List.getElem?_toArray, List.getElem?_cons_zero, List.getElem?_cons_succ, Bool.false_eq_true, if_false, Bool.not_false, if_true, if_pos hc]
      rfl
    · have hf2 : ¬ (Builtin.nextslicecap (len + ys.length) cap * it.bytes > 2 ^ 48) := by
        have := hfit (by omega) hb
        rw [i3]; exact Nat.not_lt.2 this
      simp only [Builtin.append_, run_underlying hu, run_underlying hu', hsize, hty, hzr, Builtin.lenOf, Sem.run_bind, Sem.run_pure, Result.andThen_ok, List.getElem?_toArray, List.getElem?_cons_zero, List.getElem?_cons_succ, Bool.false_eq_true, if_false, Bool.not_false, if_true, if_neg hc, hbn, or_self, and_false, hf2]

def appM (L : Lay) (ob : List Ob) (t t' : Nat) (d1 d2 : DV) : Option (DV × List Ob) :=
  match L t with
  | some { d := .slice e, .. } => match L e with
    | some te => match srcM L ob te t' d2 with
      | some ys => if 0 < te.bytes ∧ te.zero.cells.all DV.one = true ∧ (ys.all fun y => y.cells.all DV.one) = true then match d1 with
          | .nils => if ys.length = 0 then some (.nils, ob) else if ys.length * te.bytes ≤ 140737488355328 then some (.sl ob.length ys.length 0 ys.length, ob ++ [.arr e te.k ys]) else none
          | .emp => if ys.length = 0 then some (.emp, ob) else if ys.length * te.bytes ≤ 140737488355328 then some (.sl ob.length ys.length 0 ys.length, ob ++ [.arr e te.k ys]) else none
          | .sl id g off len => match ob[id]? with
            | some (.arr e0 k xs) => if e0 = e ∧ k = te.k ∧ g = xs.length ∧ off = 0 ∧ len = xs.length ∧ (xs.length + ys.length) * te.bytes ≤ 140737488355328 then
                some (.sl id (xs.length + ys.length) 0 (xs.length + ys.length), if ys.length = 0 then ob else ob.set id (.arr e k (xs ++ ys))) else none
            | _ => none
          | _ => none
        else none
      | none => none
    | none => none
  | _ => none
theorem run_appM (hL : LayOk P L) (hr : HR w F μ σ) {t t' : Nat} {d1 d2 d : DV} {v1 v2 : Value} {σ' : List Ob} (h : appM L σ t t' d1 d2 = some (d, σ')) (h1 : Rep w F μ σ d1 v1) (h2 : Rep w F μ σ d2 v2) (ty : TypeId) :
    ∃ v w' μ', (Builtin.append_ #[t, t'] ty #[v1, v2]).run P w = .ok v w' ∧ HR w' F μ' σ' ∧ Step w F μ σ w' F μ' σ' ∧ Fr w μ w' μ' ∧ Rep w' F μ' σ' d v := by
  unfold appM at h
  split at h <;> try cases h
  rename_i q0 k0 b0 e z0 ht
  split at h <;> try cases h
  rename_i te hte
  split at h <;> try cases h
  rename_i ys hys
  split at h <;> try cases h
  rename_i hcond
  obtain ⟨hb0, hz1, hone⟩ := hcond
  have hone' : ∀ y ∈ ys, ∀ c ∈ y.cells, c.one = true := fun y hy c hc => List.all_eq_true.1 (List.all_eq_true.1 hone y hy) c hc
  obtain ⟨news, z, X, R, hn, hzs, hX, hR, hrun⟩ := append_front hL hr ht rfl hte hb0 hz1 hys h2 hone' ty
  have same : ∀ (A : Option Addr) (len cap : Nat), len ≤ cap → ys.length = 0 → len * te.bytes ≤ 140737488355328 → (Builtin.append_ #[t, t'] ty #[.slice A len cap, v2]).run P w = .ok (.slice A len cap) w := by
    intro A len cap hc hy hb
    rw [hrun A len cap (by rw [hy]; simpa using hb)]
    have hn0 : news = #[] := Array.eq_empty_of_size_eq_zero (by rw [hn.size, hy]; simp)
    simp only [appCore, hy, Nat.add_zero, if_pos hc, Sem.run_bind, hX w rfl, Result.andThen_ok, hn0]
    cases A with
    | none => rfl
    | some a => simp [storeCells]
  have new : ∀ (A : Option Addr), ¬ ys.length = 0 → ys.length * te.bytes ≤ 140737488355328 → ∃ v w' μ', (Builtin.append_ #[t, t'] ty #[.slice A 0 0, v2]).run P w = .ok v w' ∧
      HR w' F μ' (σ ++ [.arr e te.k ys]) ∧ Step w F μ σ w' F μ' (σ ++ [.arr e te.k ys]) ∧ Fr w μ w' μ' ∧ Rep w' F μ' (σ ++ [.arr e te.k ys]) (.sl σ.length ys.length 0 ys.length) v := by
    intro A hy hb
    have := append_new hr (e := e) (k := te.k) (bytes := te.bytes) hn hb0 hb hzs
    refine ⟨_, _, _, ?_, this⟩
    rw [hrun A 0 0 (by simpa using hb)]
    have hch : (choose (.appendCap ys.length 0 e)).run P w = .ok (grownCap w ys.length 0 e) w.drew := rfl
    have hf0 : (Builtin.firstCells te.k 0 (.slice A 0 0)).run P w.drew = .ok #[] w.drew := by
      cases A with
      | none => rfl
      | some a => simp [Builtin.firstCells, loadCells, loadCellsFrom]
    simp only [appCore, Nat.zero_add, show ¬ (ys.length ≤ 0) by omega, if_false, Sem.run_bind, hch, Result.andThen_ok, hR, hf0, hX w.drew rfl, Array.empty_append]
    rfl
  split at h <;> try cases h
  · cases h1
    by_cases hy : ys.length = 0
    · rw [if_pos hy] at h; cases h
      exact ⟨_, w, μ, same none 0 0 (Nat.le_refl _) hy (by omega), hr, Step.refl .., Fr.refl .., .nils⟩
    · rw [if_neg hy] at h
      split at h <;> try cases h
      rename_i hb
      exact new none hy hb
  · cases h1
    by_cases hy : ys.length = 0
    · rw [if_pos hy] at h; cases h
      exact ⟨_, w, μ, same _ 0 0 (Nat.le_refl _) hy (by omega), hr, Step.refl .., Fr.refl .., .emp⟩
    · rw [if_neg hy] at h
      split at h <;> try cases h
      rename_i hb
      exact new _ hy hb
  · rename_i id g off len
    split at h <;> try cases h
    rename_i e0 k xs ho
    split at h <;> try cases h
    rename_i hc
    obtain ⟨rfl, rfl, rfl, rfl, rfl, hb⟩ := hc
    cases h1 with
    | @sl _ _ _ _ A cap hs =>
      by_cases hy : ys.length = 0
      · have hs' := hs
        obtain ⟨t2, k2, xs2, ho2, _, _, hcap, _⟩ := hs'
        rw [ho] at ho2
        cases ho2
        simp only [hy, Nat.add_zero, if_true]
        exact ⟨_, w, μ, same A xs.length cap hcap hy (by rw [hy] at hb; simpa using hb), hr, Step.refl .., Fr.refl .., .sl hs⟩
      · rw [if_neg hy]
        obtain ⟨A', cap', w', μ', r1, r2, r3, r4, r5⟩ := append_core (P := P) (z := z) (bytes := te.bytes) hr ho hs hn (by omega) hb0 hb hzs X hX R hR (fun w' hw => sl_first hr ho hs w' hw)
        refine ⟨_, w', μ', (hrun A xs.length cap hb).trans r1, r2, r3, r4, ?_⟩
        rw [List.length_append] at r5
        exact .sl r5

/-! ### copy, clear -/
def takeD (d : DV) (n : Nat) : DV := match d with
  | .vec c k xs => .vec c k (xs.take n)
  | .sl id g off _ => .sl id g off n
  | d => d
theorem src_take {k : Nat} {d : DV} {A : Option Addr} {len cap n : Nat} {ys : List DV} (h : srcDV σ k d = some ys) (hn : n ≤ ys.length) (hv : Rep w F μ σ d (.slice A len cap)) :
    len = ys.length ∧ srcDV σ k (takeD d n) = some (ys.take n) ∧ Rep w F μ σ (takeD d n) (.slice A n cap) := by
  unfold srcDV at h
  split at h <;> try cases h
  · cases hv
    obtain rfl : n = 0 := by simpa using hn
    exact ⟨rfl, rfl, .nils⟩
  · cases hv
    obtain rfl : n = 0 := by simpa using hn
    exact ⟨rfl, rfl, .emp⟩
  · rename_i c k' xs
    by_cases hk : k' = k
    · rw [if_pos hk] at h
      cases h
      cases hv with
      | vec u hc hm ha hkk hr =>
        refine ⟨rfl, by simp [takeD, srcDV, hk], ?_⟩
        have hl : (ys.take n).length = n := by simp; omega
        have := Rep.vec (w := w) (F := F) (μ := μ) (σ := σ) (c := c) (k := k') (xs := ys.take n) (A := A) (cap := cap) u (by omega) hm (fun h0 => by
          obtain ⟨a, h1, h2, h3⟩ := ha (by omega)
          exact ⟨a, h1, h2, fun j i hj hi => h3 j i (by omega) hi⟩) (fun x hx => hkk x (List.mem_of_mem_take hx)) (fun j i x e hx he => by
          have hj := (List.getElem?_eq_some_iff.1 hx).1
          rw [List.getElem?_take_of_lt (by omega)] at hx
          exact hr j i x e hx he)
        rw [hl] at this
        exact this
    · rw [if_neg hk] at h; cases h
  · rename_i id g off l
    split at h <;> try cases h
    rename_i t0 k' xs ho
    by_cases hk : k' = k
    · rw [if_pos hk] at h
      by_cases hg : g = xs.length
      · rw [if_pos hg] at h
        cases h
        cases hv with
        | sl hs =>
          obtain ⟨t2, k2, xs2, ho2, g1, g2, g3, g4, g5⟩ := hs
          rw [ho] at ho2
          cases ho2
          have hl : ((xs.drop off).take len).length = len := by simp; omega
          rw [hl] at hn
          refine ⟨hl.symm, ?_, .sl ⟨t0, k', xs, ho, by omega, g2, by omega, g4, fun e => ?_⟩⟩
          · simp [takeD, srcDV, ho, hk, hg, List.take_take, Nat.min_eq_left hn]
          · rcases g5 e with q | ⟨b, cur, fr, q1, q2, q3, q5, q4⟩
            · exact .inl q
            · exact .inr ⟨b, cur, fr, q1, q2, q3, q5, fun hp => q4 (hp.imp (fun h => by omega) (fun h => h))⟩
      · rw [if_neg hg] at h; cases h
    · rw [if_neg hk] at h; cases h
theorem news_zeros (hL : LayOk P L) {e : Nat} {te : TI} (hte : L e = some te) {z : Value} (hz : ofVal z = te.zero) (hzs : z.cells.size = te.k) (hzl : te.zero.cells.length = te.k) (h1 : te.zero.cells.all DV.one = true) (N : Nat) :
    News w F μ σ te.k (List.replicate N te.zero) (Builtin.zeroCells z.cells N) := by
  refine ⟨by simp [Builtin.zeroCells, hzs], fun y hy => by rw [(List.mem_replicate.1 hy).2]; exact hzl, fun u hu => ?_, fun j i y d hy hd => ?_⟩
  · have ho := zero_one hL hte hz h1
    simp only [Builtin.zeroCells, Array.toList_map, List.mem_map, Array.mem_toList_iff, Array.mem_range] at hu
    obtain ⟨q, hq, rfl⟩ := hu
    have hpos : 0 < z.cells.size := by rcases Nat.eq_zero_or_pos z.cells.size with h | h
                                       · rw [h] at hq; omega
                                       · exact h
    rw [getElem!_pos z.cells _ (Nat.mod_lt _ hpos)]
    exact ho _ (by simp)
  · obtain ⟨hj, rfl⟩ : j < N ∧ y = te.zero := by
      rw [List.getElem?_replicate] at hy
      split at hy
      · rename_i hj; exact ⟨hj, (Option.some.inj hy).symm⟩
      · cases hy
    have hrz : Rep w F μ σ te.zero z := by rw [← hz]; exact rep_ofVal z
    obtain ⟨u, hu1, hu2⟩ := rep_cells' hrz (by rw [hzs, hzl]) i d hd
    refine ⟨u, ?_, hu2⟩
    have := zeroCells_get hj hu1
    rwa [hzs] at this
/-- Elements of an object are overwritten. -/
theorem run_over (hr : HR w F μ σ) {id t k off len cap : Nat} {xs ys : List DV} {A : Option Addr} {news : Array Value} (ho : σ[id]? = some (.arr t k xs)) (hs : SlOk w μ σ id xs.length off len A cap) (hn : News w F μ σ k ys news) (hl : ys.length ≤ len) (h0 : 0 < ys.length) :
    ∃ a w', A = some a ∧ (storeCells a news.toList).run P w = .ok () w' ∧ HR w' F μ (σ.set id (.arr t k (xs.take off ++ ys ++ xs.drop (off + ys.length)))) ∧
      Step w F μ σ w' F μ (σ.set id (.arr t k (xs.take off ++ ys ++ xs.drop (off + ys.length)))) ∧ Fr w μ w' μ := by
  obtain ⟨t2, k2, xs2, ho2, g1, g2, g3, g4, g5⟩ := hs
  rw [ho] at ho2
  cases ho2
  rcases g5 rfl with ⟨q1, _⟩ | ⟨b, cur, fr, q1, q2, q3, q5, q4⟩
  · omega
  have hA := q4 (.inl (by omega))
  subst hA
  obtain ⟨hxk, hor⟩ := hr.obj _ _ ho
  rcases hor with ⟨he, _⟩ | ⟨b', cur', fr', hb', hh', hfr', hcells⟩
  · subst he; simp at g1; omega
  rw [q1] at hb'
  cases hb'
  rw [q2] at hh'
  cases hh'
  have hfit : off * k + 0 + news.toList.length ≤ cur.size := by
    refine Nat.le_trans ?_ q3
    simp only [Nat.add_zero, Array.length_toList, hn.size, ← Nat.add_mul]
    exact Nat.mul_le_mul_right _ (by omega)
  have hlen : (xs.take off ++ ys ++ xs.drop (off + ys.length)).length = xs.length := by simp; omega
  have hall : ∀ y ∈ xs.take off ++ ys ++ xs.drop (off + ys.length), y.cells.length = k := by
    intro y hy
    rcases List.mem_append.1 hy with hy | hy
    · rcases List.mem_append.1 hy with hy | hy
      · exact hxk y (List.mem_of_mem_take hy)
      · exact hn.len y hy
    · exact hxk y (List.mem_of_mem_drop hy)
  refine ⟨_, _, rfl, run_storeCells (P := P) news.toList 0 w cur (p := off * k) q2 hfr' hfit (fun v hv => hn.one v hv), hr.write ho q1 q2 hfr' (putC_size _ _ _) (by omega) hall (fun j i y d hy hd => ?_)⟩
  have hi : i < k := by rw [← hall y (List.mem_of_getElem? hy)]; exact (List.getElem?_eq_some_iff.1 hd).1
  rw [putC_get _ _ _ _ (by simpa using hfit)]
  simp only [Nat.add_zero, Array.length_toList, hn.size]
  rcases Nat.lt_or_ge j off with hj | hj
  · have : j * k + k ≤ off * k := by rw [← Nat.succ_mul]; exact Nat.mul_le_mul_right _ hj
    rw [if_neg (by omega)]
    rw [List.append_assoc, List.getElem?_append_left (by simp; omega), List.getElem?_take_of_lt hj] at hy
    exact hcells j i y d hy hd
  · rcases Nat.lt_or_ge j (off + ys.length) with hj2 | hj2
    · have e1 : j * k = off * k + (j - off) * k := by rw [← Nat.add_mul]; congr 1; omega
      have e2 : (j - off) * k + k ≤ ys.length * k := by rw [← Nat.succ_mul]; exact Nat.mul_le_mul_right _ (by omega)
      rw [if_pos (by omega)]
      rw [List.append_assoc, List.getElem?_append_right (by simp; omega), List.getElem?_append_left (by simp; omega)] at hy
      simp only [List.length_take, Nat.min_eq_left (show off ≤ xs.length by omega)] at hy
      obtain ⟨v, h1, h2⟩ := hn.rep (j - off) i y d hy hd
      exact ⟨v, by rw [show j * k + i - off * k = (j - off) * k + i by omega]; simpa using h1, h2⟩
    · have e1 : (off + ys.length) * k ≤ j * k := Nat.mul_le_mul_right _ hj2
      rw [Nat.add_mul] at e1
      rw [if_neg (by omega)]
      rw [List.getElem?_append_right (by simp; omega), List.getElem?_drop] at hy
      simp only [List.length_append, List.length_take, Nat.min_eq_left (show off ≤ xs.length by omega)] at hy
      rw [show off + ys.length + (j - (off + ys.length)) = j by omega] at hy
      exact hcells j i y d hy hd
def overM (ob : List Ob) (k : Nat) (d : DV) (ys : List DV) : Option (List Ob) :=
  if ys.length = 0 then some ob else match d with
  | .sl id g off _ => match ob[id]? with
    | some (.arr e k' xs) => if k' = k ∧ g = xs.length then some (ob.set id (.arr e k (xs.take off ++ ys ++ xs.drop (off + ys.length)))) else none
    | _ => none
  | _ => none
def lenD : DV → Option Nat
  | .sl _ _ _ len => some len
  | .nils => some 0
  | .emp => some 0
  | _ => none
theorem rep_lenD {d : DV} {n : Nat} {v : Value} (h : lenD d = some n) (hv : Rep w F μ σ d v) : ∃ A cap, v = .slice A n cap := by
  cases d <;> simp only [lenD, Option.some.injEq] at h <;> try cases h
  · cases hv with
    | sl => exact ⟨_, _, rfl⟩
  · cases hv; exact ⟨_, _, rfl⟩
  · cases hv; exact ⟨_, _, rfl⟩
def copyM (L : Lay) (ob : List Ob) (t : Nat) (d1 d2 : DV) : Option (DV × List Ob) :=
  match L t with
  | some { d := .slice e, .. } => match L e with
    | some te => match srcDV ob te.k d2, lenD d1 with
      | some ys, some n => if (ys.all fun y => y.cells.all DV.one) = true then (overM ob te.k d1 (ys.take (min ys.length n))).map fun ob' => (.int .i64 (min ys.length n : Nat), ob') else none
      | _, _ => none
    | none => none
  | _ => none
theorem run_overM (hr : HR w F μ σ) {k : Nat} {d : DV} {A : Option Addr} {len cap : Nat} {ys : List DV} {news : Array Value} {σ' : List Ob} (h : overM σ k d ys = some σ') (hd : Rep w F μ σ d (.slice A len cap)) (hn : News w F μ σ k ys news) (hl : ys.length ≤ len) :
    ∃ w', (do if let some a := A then storeCells a news.toList : Sem Unit).run P w = .ok () w' ∧ HR w' F μ σ' ∧ Step w F μ σ w' F μ σ' ∧ Fr w μ w' μ := by
  unfold overM at h
  by_cases h0 : ys.length = 0
  · rw [if_pos h0] at h
    cases h
    have hn0 : news = #[] := Array.eq_empty_of_size_eq_zero (by rw [hn.size, h0]; simp)
    subst hn0
    refine ⟨w, ?_, hr, Step.refl .., Fr.refl ..⟩
    cases A with
    | none => rfl
    | some a => simp [storeCells]
  · rw [if_neg h0] at h
    split at h <;> try cases h
    rename_i id g off l
    split at h <;> try cases h
    rename_i e k' xs ho
    split at h <;> try cases h
    rename_i hc
    obtain ⟨rfl, rfl⟩ := hc
    cases hd with
    | sl hs =>
      obtain ⟨a, w', rfl, r1, r2⟩ := run_over (P := P) hr ho hs hn hl (by omega)
      exact ⟨w', r1, r2⟩
theorem run_copyM (hL : LayOk P L) (hr : HR w F μ σ) {t : Nat} {d1 d2 d : DV} {v1 v2 : Value} {σ' : List Ob} (h : copyM L σ t d1 d2 = some (d, σ')) (h1 : Rep w F μ σ d1 v1) (h2 : Rep w F μ σ d2 v2) (ts : Array TypeId) (hts : ts[0]? = some t) (ty : TypeId) :
    ∃ v w', (Builtin.copy_ ts ty #[v1, v2]).run P w = .ok v w' ∧ HR w' F μ σ' ∧ Step w F μ σ w' F μ σ' ∧ Fr w μ w' μ ∧ Rep w' F μ σ' d v := by
  unfold copyM at h
  split at h <;> try cases h
  rename_i q0 k0 b0 e z0 ht
  obtain ⟨desc, hu, rfl⟩ := (hL _ _ ht).und
  split at h <;> try cases h
  rename_i te hte
  split at h <;> try cases h
  rename_i ys n hys hlen
  split at h <;> try cases h
  rename_i hone
  have hone' : ∀ y ∈ ys, ∀ c ∈ y.cells, c.one = true := fun y hy c hc => List.all_eq_true.1 (List.all_eq_true.1 hone y hy) c hc
  cases hov : overM σ te.k d1 (ys.take (min ys.length n)) with
  | none => rw [hov] at h; cases h
  | some ob' =>
    rw [hov] at h
    cases h
    obtain ⟨A1, cap1, rfl⟩ := rep_lenD hlen h1
    obtain ⟨A2, cap2, _, rfl, _⟩ := src_sound (P := P) hr hys h2 hone'
    obtain ⟨_, t1, t2⟩ := src_take hys (Nat.min_le_left ys.length n) h2
    obtain ⟨A3, cap3, news, e3, hn, hf⟩ := src_sound (P := P) hr t1 t2 (fun y hy => hone' y (List.mem_of_mem_take hy))
    have hl : (ys.take (min ys.length n)).length = min ys.length n := by simp
    obtain ⟨w', r1, r2, r3, r4⟩ := run_overM (P := P) hr hov h1 hn (by omega)
    refine ⟨.int .i64 (min ys.length n : Nat), w', ?_, r2, r3, r4, .int⟩
    have hf' : (Builtin.firstCells te.k (min ys.length n) (.slice A2 ys.length cap2)).run P w = .ok news w := by
      have := hf w rfl
      rw [hl] at this
      cases A2 <;> exact this
    have hmin : Nat.min ys.length n = min ys.length n := rfl
    simp only [Builtin.copy_, hts, List.getElem?_toArray, List.getElem?_cons_zero, List.getElem?_cons_succ, run_underlying hu, Sem.run_bind, Sem.run_pure, Result.andThen_ok, Builtin.lenOf, (hL _ _ hte).size, hmin, hf']
    cases A1 with
    | none => simp only [Sem.run_pure, Result.andThen_ok, goInt] at r1 ⊢; cases r1; rfl
    | some a => simp only [Sem.run_bind, Sem.run_pure, Result.andThen_ok, goInt] at r1 ⊢; rw [r1]; rfl
def clearM (L : Lay) (ob : List Ob) (t : Nat) (d1 : DV) : Option (DV × List Ob) :=
  match L t with
  | some { d := .slice e, .. } => match L e with
    | some te => match lenD d1 with
      | some n => if te.zero.cells.length = te.k ∧ te.zero.cells.all DV.one = true then (overM ob te.k d1 (List.replicate n te.zero)).map fun ob' => (.tup [], ob') else none
      | none => none
    | none => none
  | _ => none
theorem run_clearM (hL : LayOk P L) (hr : HR w F μ σ) {t : Nat} {d1 d : DV} {v1 : Value} {σ' : List Ob} (h : clearM L σ t d1 = some (d, σ')) (h1 : Rep w F μ σ d1 v1) (ts : Array TypeId) (hts : ts[0]? = some t) (ty : TypeId) :
    ∃ v w', (Builtin.clear_ ts ty #[v1]).run P w = .ok v w' ∧ HR w' F μ σ' ∧ Step w F μ σ w' F μ σ' ∧ Fr w μ w' μ ∧ Rep w' F μ σ' d v := by
  unfold clearM at h
  split at h <;> try cases h
  rename_i q0 k0 b0 e z0 ht
  obtain ⟨desc, hu, rfl⟩ := (hL _ _ ht).und
  split at h <;> try cases h
  rename_i te hte
  split at h <;> try cases h
  rename_i n hlen
  split at h <;> try cases h
  rename_i hz
  cases hov : overM σ te.k d1 (List.replicate n te.zero) with
  | none => rw [hov] at h; cases h
  | some ob' =>
    rw [hov] at h
    cases h
    obtain ⟨A1, cap1, rfl⟩ := rep_lenD hlen h1
    obtain ⟨it, z', i1, i2, i3, i4, i5, i6⟩ := (hL _ _ hte).info
    have hzr : ∀ w, (zeroValue e).run P w = .ok z' w := fun w => by simp [zeroValue, typeInfo, i1, i4, program, Sem.run]
    obtain ⟨w', r1, r2, r3, r4⟩ := run_overM (P := P) hr hov h1 (news_zeros hL hte i6 i5 hz.1 hz.2 n) (by simp)
    refine ⟨.tuple #[], w', ?_, r2, r3, r4, .tup rfl (fun i d v h => by simp at h)⟩
    simp only [Builtin.clear_, hts, List.getElem?_toArray, List.getElem?_cons_zero, run_underlying hu, Sem.run_bind, Sem.run_pure, Result.andThen_ok]
    cases A1 with
    | none => simp only [Sem.run_pure, Result.andThen_ok] at r1 ⊢; cases r1; rfl
    | some a =>
      cases n with
      | zero =>
        have : Builtin.zeroCells z'.cells 0 = #[] := by simp [Builtin.zeroCells]
        rw [this] at r1
        simp only [storeCells, Sem.run_pure] at r1
        cases r1
        simp only [Sem.run_pure, Result.andThen_ok]
      | succ n =>
        simp only [Sem.run_bind, hzr, Result.andThen_ok] at r1 ⊢
        rw [r1]
        rfl
end
end Go.VL
end
section
set_option linter.unusedVariables false
set_option linter.unusedSimpArgs false
namespace Go.VL
open Go

section
variable {P : Program} {L : Lay} {w : World} {F : Nat → Nat → Prop} {μ : Nat → Option Nat} {σ : List Ob}

def TD.scal : TD → Bool
  | .int _ | .bool | .str => true
  | _ => false
/-- A key that may be. -/
def keyOk (L : Lay) (kt : Nat) (d : DV) : Bool :=
  match L kt with
  | some { d := .struct fs, eq := true, .. } => match d with
    | .agg cs => fs.all fun p => match L p.2 with
      | some ti => ti.d.scal && decide (p.1 < cs.length)
      | none => false
    | _ => false
  | some ti => ti.d.scal && d.scal
  | none => false
def keyEq (L : Lay) (kt : Nat) (a b : DV) : Option Bool :=
  match L kt with
  | some { d := .struct fs, eq := true, .. } => match a, b with
    | .agg xs, .agg ys => eqCells L fs xs ys
    | _, _ => none
  | some ti => eqCell ti.d a b
  | none => none
def findD (L : Lay) (kt : Nat) (key : DV) : List DV → Nat → Option (Option (Nat × DV))
  | [], _ => some none
  | k :: v :: r, i => match keyEq L kt key k with
    | some true => some (some (i, v))
    | some false => findD L kt key r (i + 1)
    | none => none
  | _, _ => none

theorem TD.scal_agg {d : TD} (h : d.scal = true) : d.isAgg = false := by cases d <;> first | rfl | (cases h)
theorem run_checkKey1 (hL : LayOk P L) {kt : Nat} {ti : TI} (ht : L kt = some ti) (hs : ti.d.scal = true) (e : Bool) (n : Nat) (v : Value) : (Instr.checkKey e (n + 1) kt v).run P w = .ok () w := by
  obtain ⟨desc, hu, hd⟩ := (hL _ _ ht).und
  have : (∃ k, desc = .int k) ∨ desc = .bool ∨ desc = .string := by
    cases hq : ti.d <;> rw [hq] at hd hs <;> simp only [DescOk] at hd <;> first | (cases hs; done) | exact .inl ⟨_, hd⟩ | exact .inr (.inl hd) | exact .inr (.inr hd)
  rcases this with ⟨k, rfl⟩ | rfl | rfl <;> simp only [Instr.checkKey, Sem.run_bind, run_underlying hu, Result.andThen_ok] <;> cases v <;> rfl
theorem run_checkFields (hL : LayOk P L) {cs : List DV} {vs : List Value} (hl : cs.length = vs.length) (e : Bool) (n : Nat) : ∀ (fs : List Field), ((fs.map fun f => (f.offset, f.type)).all fun p => match L p.2 with
      | some ti => ti.d.scal && decide (p.1 < cs.length)
      | none => false) = true →
    (forIn fs PUnit.unit (fun (f : Field) (r : PUnit) => (do
        if f.name ≠ "_" then
          Instr.checkKey e (n + 1) f.type (← part f.type ⟨vs⟩ f.offset)
          pure PUnit.unit
          pure (.yield PUnit.unit)
        else
          pure PUnit.unit
          pure (.yield PUnit.unit) : Sem (ForInStep PUnit)))).run P w = .ok PUnit.unit w := by
  intro fs
  induction fs with
  | nil => intro _; rfl
  | cons f fs ih =>
    intro h
    simp only [List.map_cons, List.all_cons, Bool.and_eq_true] at h
    obtain ⟨h1, h2⟩ := h
    split at h1
    · rename_i ti ht
      simp only [Bool.and_eq_true, decide_eq_true_eq] at h1
      have hagg := (hL _ _ ht).isAgg w
      rw [TD.scal_agg h1.1] at hagg
      have e2 : vs[f.offset]? = some (vs[f.offset]'(by omega)) := List.getElem?_eq_getElem _
      have p2 : (part f.type ⟨vs⟩ f.offset).run P w = .ok (vs[f.offset]'(by omega)) w := by
        simp only [part, Sem.run_bind, hagg, Result.andThen_ok, Bool.false_eq_true, if_false, List.getElem?_toArray, e2, Sem.run_pure]
      simp only [List.forIn_cons, Sem.run_bind]
      by_cases hn : f.name ≠ "_"
      · simp only [if_pos hn, Sem.run_bind, p2, Result.andThen_ok, run_checkKey1 hL ht h1.1, Sem.run_pure]
        exact ih h2
      · simp only [if_neg hn, Sem.run_bind, Result.andThen_ok, Sem.run_pure]
        exact ih h2
    · cases h1
theorem run_checkKey (hL : LayOk P L) {kt : Nat} {d : DV} {v : Value} (h : keyOk L kt d = true) (hv : Rep w F μ σ d v) (e : Bool) : (Instr.checkKey e 10000 kt v).run P w = .ok () w := by
  have key : ∀ n, (Instr.checkKey e (n + 2) kt v).run P w = .ok () w := by
    intro n
    unfold keyOk at h
    split at h
    · rename_i k0 b0 fs z ht
      split at h <;> try cases h
      rename_i cs
      obtain ⟨desc, hu, fields, rfl, hfs⟩ := (hL _ _ ht).und
      cases hv with
      | @agg _ vs hl hh =>
        rw [← hfs] at h
        have := run_checkFields hL (P := P) (w := w) hl e n fields.toList h
        rw [Instr.checkKey]
        simp only [Sem.run_bind, run_underlying hu, Result.andThen_ok]
        rw [← Array.forIn_toList]
        refine (congrArg (fun x : Result PUnit => x.andThen fun a w' => Sem.run P (pure ()) w') this).trans ?_
        rfl
    · rename_i ti _ ht
      simp only [Bool.and_eq_true] at h
      exact run_checkKey1 hL ht h.1 e (n + 1) v
    · cases h
  exact key 9998

def FoundRel (w : World) (F : Nat → Nat → Prop) (μ : Nat → Option Nat) (σ : List Ob) : Option (Nat × DV) → Option (Nat × Value) → Prop
  | none, none => True
  | some (i, d), some (j, v) => i = j ∧ Rep w F μ σ d v
  | _, _ => False
theorem reps_flat {k v : DV} {ds : List DV} {e : MapEntry} {es : List MapEntry} (h : Reps w F μ σ (k :: v :: ds) (flatE (e :: es))) : Rep w F μ σ k e.key ∧ Rep w F μ σ v e.val ∧ Reps w F μ σ ds (flatE es) := by
  obtain ⟨h1, h2⟩ := h
  simp only [flatE, List.flatMap_cons, List.cons_append, List.nil_append, List.length_cons] at h1 h2
  exact ⟨h2 0 _ _ rfl rfl, h2 1 _ _ rfl rfl, by simpa [flatE] using h1, fun i d v hd hv => h2 (i + 2) d v (by simpa using hd) (by simpa [flatE] using hv)⟩
theorem flatE_length (es : List MapEntry) : (flatE es).length = 2 * es.length := by
  induction es with
  | nil => rfl
  | cons e es ih => simp only [flatE, List.flatMap_cons, List.length_append, List.length_cons, List.length_nil] at ih ⊢; omega
theorem flatE_cons (e : MapEntry) (es : List MapEntry) : flatE (e :: es) = e.key :: e.val :: flatE es := rfl
theorem run_sameNow (hL : LayOk P L) {kt : Nat} {ti : TI} (ht : L kt = some ti) (hs : ti.d.scal = true) {a b : DV} {va vb : Value} {q : Bool} (h : eqCell ti.d a b = some q) (ha : Rep w F μ σ a va) (hb : Rep w F μ σ b vb) :
    ∃ desc, P.underlying kt = some desc ∧ Instr.sameNow desc va vb = some q := by
  obtain ⟨desc, hu, hd⟩ := (hL _ _ ht).und
  refine ⟨desc, hu, ?_⟩
  unfold eqCell at h
  split at h <;> try cases h
  · split at h <;> try cases h
    rename_i k hk
    rw [hk] at hd
    cases hd
    split at h <;> try cases h
    rename_i hab
    cases ha; cases hb
    simp [Instr.sameNow, hab]
  · split at h <;> try cases h
    rename_i hk
    rw [hk] at hd
    cases hd
    cases ha; cases hb
    rfl
  · split at h <;> try cases h
    rename_i hk
    rw [hk] at hd
    cases hd
    cases ha; cases hb
    simp only [Instr.sameNow, Option.some.injEq]
    exact beq_toListBytes _ _
theorem run_findD (hL : LayOk P L) {kt : Nat} {key : DV} {kv : Value} (hk : Rep w F μ σ key kv) (ho : keyOk L kt key = true) : ∀ (es : List MapEntry) (ds : List DV) (i : Nat) (r : Option (Nat × DV)), Reps w F μ σ ds (flatE es) → findD L kt key ds i = some r →
    ∃ r', (do match Instr.findNow (← underlying kt) kv es i with
      | some r => pure r
      | none => Instr.findAsking kt kv es i : Sem (Option (Nat × Value))).run P w = .ok r' w ∧ FoundRel w F μ σ r r' := by
  have hkk : ∃ ti, L kt = some ti ∧ ((ti.d.scal = true ∧ ∀ a b, keyEq L kt a b = eqCell ti.d a b) ∨ (∃ fs, ti.d = .struct fs ∧ ti.eq = true ∧ ∀ a b, keyEq L kt a b = match a, b with | .agg xs, .agg ys => eqCells L fs xs ys | _, _ => none)) := by
    unfold keyOk at ho
    split at ho
    · rename_i k0 b0 fs z ht
      exact ⟨_, ht, .inr ⟨fs, rfl, rfl, fun a b => by unfold keyEq; rw [ht]⟩⟩
    · rename_i ti hne ht
      simp only [Bool.and_eq_true] at ho
      refine ⟨ti, ht, .inl ⟨ho.1, fun a b => ?_⟩⟩
      unfold keyEq
      rw [ht]
      obtain ⟨eq, k, by_, d, z⟩ := ti
      cases eq <;> cases d <;> first | rfl | (cases ho.1)
    · cases ho
  obtain ⟨ti, ht, hcase⟩ := hkk
  obtain ⟨desc, hu, hd⟩ := (hL _ _ ht).und
  rcases hcase with ⟨hs, hkq⟩ | ⟨fs, hfs, heq, hkq⟩
  · -- scalars
    have now : ∀ (es : List MapEntry) (ds : List DV) (i : Nat) (r : Option (Nat × DV)), Reps w F μ σ ds (flatE es) → findD L kt key ds i = some r → ∃ r', Instr.findNow desc kv es i = some r' ∧ FoundRel w F μ σ r r' := by
      intro es
      induction es with
      | nil =>
        intro ds i r hr h
        obtain rfl : ds = [] := List.eq_nil_of_length_eq_zero (by have := hr.1; simpa [flatE] using this)
        cases h
        exact ⟨none, rfl, trivial⟩
      | cons e es ih =>
        intro ds i r hr h
        have hlen := hr.1
        rw [flatE_length] at hlen
        rcases ds with _ | ⟨k, _ | ⟨v, ds⟩⟩
        · simp at hlen
        · simp at hlen; omega
        obtain ⟨h1, h2, h3⟩ := reps_flat hr
        simp only [findD] at h
        cases hq : keyEq L kt key k with
        | none => rw [hq] at h; cases h
        | some q =>
          rw [hq] at h
          rw [hkq] at hq
          obtain ⟨desc', hu', hsame⟩ := run_sameNow hL ht hs hq hk h1
          rw [hu] at hu'
          cases hu'
          cases q with
          | true => cases h; exact ⟨some (i, e.val), by simp only [Instr.findNow, hsame], rfl, h2⟩
          | false =>
            obtain ⟨r', g1, g2⟩ := ih ds (i + 1) r h3 h
            exact ⟨r', by simp only [Instr.findNow, hsame]; exact g1, g2⟩
    intro es ds i r hr h
    obtain ⟨r', g1, g2⟩ := now es ds i r hr h
    exact ⟨r', by simp only [Sem.run_bind, run_underlying hu, Result.andThen_ok, g1, Sem.run_pure], g2⟩
  · -- structs
    rw [hfs] at hd
    obtain ⟨fields, rfl, hff⟩ := hd
    have ask : ∀ (es : List MapEntry) (ds : List DV) (i : Nat) (r : Option (Nat × DV)), Reps w F μ σ ds (flatE es) → findD L kt key ds i = some r → ∃ r', (Instr.findAsking kt kv es i).run P w = .ok r' w ∧ FoundRel w F μ σ r r' := by
      intro es
      induction es with
      | nil =>
        intro ds i r hr h
        obtain rfl : ds = [] := List.eq_nil_of_length_eq_zero (by have := hr.1; simpa [flatE] using this)
        cases h
        exact ⟨none, rfl, trivial⟩
      | cons e es ih =>
        intro ds i r hr h
        have hlen := hr.1
        rw [flatE_length] at hlen
        rcases ds with _ | ⟨k, _ | ⟨v, ds⟩⟩
        · simp at hlen
        · simp at hlen; omega
        obtain ⟨h1, h2, h3⟩ := reps_flat hr
        simp only [findD] at h
        cases hq : keyEq L kt key k with
        | none => rw [hq] at h; cases h
        | some q =>
          rw [hq] at h
          have heqm : eqM L σ kt key k = some q := by
            rw [hkq] at hq
            unfold eqM
            rw [ht]
            obtain ⟨eq, kk, by_, d, z⟩ := ti
            dsimp only at hfs heq
            subst hfs; subst heq
            exact hq
          have hrun : (Op.equal kt kv e.key).run P w = .ok q w := by
            have h0 := run_eqM hL heqm hk h1 .eql (.inl rfl) (.tmp 0) (.tmp 0)
            rw [hkq] at hq
            split at hq <;> try cases hq
            cases hk with
            | @agg xs vx hlx hx =>
            generalize hek : e.key = ek at h1
            cases h1 with
            | @agg ys vy hly hy =>
            obtain ⟨e1, e2, e3⟩ := (hL _ _ ht).eqs heq
            have := run_equalIn_struct (P := P) w 9999 kt ⟨vx⟩ ⟨vy⟩ (by simp [Program.fieldsOf, hu]) e1
            simp only [Op.equal, Op.maxDepth]
            rw [this, show P.fieldsOf kt = fields by simp [Program.fieldsOf, hu]]
            exact run_eqCells hL hlx hx hly hy 9998 _ _ (e3 _ hu) (by rw [hff]; exact hq)
          cases q with
          | true => cases h; exact ⟨some (i, e.val), by simp only [Instr.findAsking, Sem.run_bind, hrun, Result.andThen_ok, if_true, Sem.run_pure], rfl, h2⟩
          | false =>
            obtain ⟨r', g1, g2⟩ := ih ds (i + 1) r h3 h
            exact ⟨r', by simp only [Instr.findAsking, Sem.run_bind, hrun, Result.andThen_ok, Bool.false_eq_true, if_false]; exact g1, g2⟩
    intro es ds i r hr h
    obtain ⟨r', g1, g2⟩ := ask es ds i r hr h
    refine ⟨r', ?_, g2⟩
    simp only [Sem.run_bind, run_underlying hu, Result.andThen_ok]
    cases es with
    | nil =>
      obtain rfl : ds = [] := List.eq_nil_of_length_eq_zero (by have := hr.1; simpa [flatE] using this)
      exact g1
    | cons e es =>
      have : Instr.findNow (.struct fields) kv (e :: es) i = none := by simp [Instr.findNow, Instr.sameNow]
      rw [this]
      exact g1

/-! ### A map asked -/
def lookupM (L : Lay) (ob : List Ob) (t : Nat) (m key : DV) (ok : Bool) : Option DV :=
  match L t with
  | some { d := .map kt vt, .. } => match L vt with
    | some te => match m with
      | .mp id => match ob[id]? with
        | some (.oth (.map _ _) ds) => if keyOk L kt key = true then (match findD L kt key ds 0 with
          | some (some (_, v)) => some (if ok then .tup [v, .bool true] else v)
          | some none => some (if ok then .tup [te.zero, .bool false] else te.zero)
          | none => none) else none
        | _ => none
      | _ => none
    | none => none
  | _ => none
theorem run_lookupM (hL : LayOk P L) (hr : HR w F μ σ) {t : Nat} {m key d : DV} {vm vk : Value} {ok : Bool} (h : lookupM L σ t m key ok = some d) (hm : Rep w F μ σ m vm) (hk : Rep w F μ σ key vk) :
    ∃ v, (Instr.lookup t vm vk ok).run P w = .ok v w ∧ Rep w F μ σ d v := by
  unfold lookupM at h
  split at h <;> try cases h
  rename_i q0 k0 b0 kt vt z ht
  obtain ⟨desc, hu, rfl⟩ := (hL _ _ ht).und
  split at h <;> try cases h
  rename_i te hte
  split at h <;> try cases h
  rename_i id
  split at h <;> try cases h
  rename_i bs clock ds ho
  split at h <;> try cases h
  rename_i hko
  cases hm with
  | @mp _ r hmu _ =>
  obtain ⟨_, vs, ⟨r', me, g1, g2, g3, rfl⟩, g4, g5⟩ := hr.obj _ _ ho
  rw [hmu] at g1
  cases g1
  have hget : (getObj r).run P w = .ok (.map me clock) w := by
    simp only [getObj, Sem.run]
    rw [show w.heap[r]? = _ from g2]
  obtain ⟨z', hz, hzs, hzo⟩ := (hL _ _ hte).zero w
  have hrz : Rep w F μ σ te.zero z' := by rw [← hzo]; exact rep_ofVal z'
  cases hf : findD L kt key ds 0 with
  | none => rw [hf] at h; cases h
  | some r =>
    rw [hf] at h
    obtain ⟨r', h1, h2⟩ := run_findD hL hk hko me.toList ds 0 r ⟨g4, g5⟩ hf
    have hfk : (Instr.findKey kt vk me.toList).run P w = .ok r' w := h1
    have hck := run_checkKey (P := P) hL hko hk me.isEmpty
    cases r with
    | none =>
      cases r' with
      | some _ => exact h2.elim
      | none =>
        refine ⟨if ok then .tuple #[z', .bool false] else z', ?_, ?_⟩
        · simp only [Instr.lookup, Sem.run_bind, run_underlying hu, Result.andThen_ok, hget, Sem.run_pure, hck, hfk, hz]
        · cases ok <;> simp only [Bool.false_eq_true, if_false, if_true, Option.some.injEq] at h ⊢ <;> subst h
          · exact hrz
          · refine .tup (vs := [z', .bool false]) rfl fun i d v hd hv => ?_
            rcases i with _ | _ | i <;> simp at hd hv
            · subst hd; subst hv; exact hrz
            · subst hd; subst hv; exact .bool
    | some p =>
      obtain ⟨i, dv⟩ := p
      cases r' with
      | none => exact h2.elim
      | some p' =>
        obtain ⟨j, v⟩ := p'
        refine ⟨if ok then .tuple #[v, .bool true] else v, ?_, ?_⟩
        · simp only [Instr.lookup, Sem.run_bind, run_underlying hu, Result.andThen_ok, hget, Sem.run_pure, hck, hfk]
        · cases ok <;> simp only [Bool.false_eq_true, if_false, if_true, Option.some.injEq] at h ⊢ <;> subst h
          · exact h2.2
          · refine .tup (vs := [v, .bool true]) rfl fun i d v' hd hv => ?_
            rcases i with _ | _ | i <;> simp at hd hv
            · subst hd; subst hv; exact h2.2
            · subst hd; subst hv; exact .bool
end
end Go.VL
end
section
set_option linter.unusedVariables false
set_option linter.unusedSimpArgs false
namespace Go.VL
open Go

section
variable {P : Program} {L : Lay} {w : World} {F : Nat → Nat → Prop} {μ : Nat → Option Nat} {σ : List Ob}

theorem flatE_get : ∀ (es : List MapEntry) (q : Nat), (flatE es)[2 * q]? = (es[q]?).map (·.key) ∧ (flatE es)[2 * q + 1]? = (es[q]?).map (·.val)
  | [], q => by simp [flatE]
  | e :: es, 0 => by simp [flatE]
  | e :: es, q + 1 => by
    have := flatE_get es q
    rw [show 2 * (q + 1) = 2 * q + 2 by omega]
    simpa [flatE] using this
theorem findD_some {kt : Nat} {key : DV} : ∀ (ds : List DV) (i j : Nat) (d : DV), findD L kt key ds i = some (some (j, d)) → ∃ q k', j = i + q ∧ ds[2 * q]? = some k' ∧ keyEq L kt key k' = some true ∧ ds[2 * q + 1]? = some d
  | [], i, j, d, h => by simp [findD] at h
  | [_], i, j, d, h => by simp [findD] at h
  | k :: v :: r, i, j, d, h => by
    simp only [findD] at h
    split at h
    · rename_i hq
      simp only [Option.some.injEq, Prod.mk.injEq] at h
      obtain ⟨rfl, rfl⟩ := h
      exact ⟨0, k, rfl, rfl, hq, rfl⟩
    · obtain ⟨q, k', h1, h2, h3, h4⟩ := findD_some r (i + 1) j d h
      exact ⟨q + 1, k', by omega, by rw [show 2 * (q + 1) = 2 * q + 2 by omega]; simpa using h2, h3, by rw [show 2 * (q + 1) + 1 = 2 * q + 1 + 2 by omega]; simpa using h4⟩
    · cases h
def isStruct (L : Lay) (kt : Nat) : Bool := match L kt with
  | some ti => !ti.d.scal
  | none => true
def updM (L : Lay) (ob : List Ob) (t : Nat) (m key v : DV) : Option (List Ob) :=
  match L t with
  | some { d := .map kt _, .. } => match m with
    | .mp id => match ob[id]? with
      | some (.oth (.map bs clock) ds) => if keyOk L kt key = true then (match findD L kt key ds 0 with
        | some none => some (ob.set id (.oth (.map (bs ++ [clock]) (clock + 1)) (ds ++ [key, v])))
        | some (some (i, _)) => if isStruct L kt = true then none else some (ob.set id (.oth (.map bs clock) ((ds.set (2 * i) key).set (2 * i + 1) v)))
        | none => none) else none
      | _ => none
    | _ => none
  | _ => none
theorem bytes_beq (x : ByteArray) : (x == x) = true := by rw [beq_toListBytes]; simp
theorem bytes_eq {x y : ByteArray} (h : (x == y) = true) : x = y := by
  rw [beq_toListBytes, ByteArray.toList_eq, ByteArray.toList_eq] at h
  obtain ⟨⟨x⟩⟩ := x
  obtain ⟨⟨y⟩⟩ := y
  have : x = y := by simpa using h
  rw [this]
theorem eqCell_same {k : TD} {a b : DV} {va vb : Value} (h : eqCell k a b = some true) (ha : Rep w F μ σ a va) (hb : Rep w F μ σ b vb) : va = vb := by
  unfold eqCell at h
  split at h <;> try cases h
  · split at h <;> try cases h
    split at h <;> try cases h
    rename_i hab
    simp only [Option.some.injEq, beq_iff_eq] at h
    cases ha; cases hb
    subst hab; subst h
    rfl
  · split at h <;> try cases h
    simp only [Option.some.injEq, beq_iff_eq] at h
    cases ha; cases hb
    subst h
    rfl
  · split at h <;> try cases h
    rename_i x y _ _
    simp only [Option.some.injEq] at h
    cases ha; cases hb
    rw [← beq_toListBytes] at h
    rw [bytes_eq h]
theorem sameBits_refl {k : TD} {a b : DV} {v : Value} (h : eqCell k a b = some true) (ha : Rep w F μ σ a v) : Instr.sameBits 10000 v v = true := by
  have key : ∀ n, Instr.sameBits (n + 1) v v = true := by
    intro n
    unfold eqCell at h
    split at h <;> try cases h
    · cases ha; simp [Instr.sameBits]
    · cases ha; simp [Instr.sameBits]
    · cases ha; simp only [Instr.sameBits]; exact bytes_beq _
  exact key 9999
theorem run_updM (hL : LayOk P L) (hr : HR w F μ σ) {t : Nat} {m key x : DV} {vm vk vx : Value} {σ' : List Ob} (h : updM L σ t m key x = some σ') (hm : Rep w F μ σ m vm) (hk : Rep w F μ σ key vk) (hx : Rep w F μ σ x vx) :
    ∃ w', (Instr.mapUpdate t vm vk vx).run P w = .ok () w' ∧ HR w' F μ σ' ∧ Step w F μ σ w' F μ σ' ∧ Fr w μ w' μ := by
  unfold updM at h
  split at h <;> try cases h
  rename_i q0 k0 b0 kt vt z ht
  obtain ⟨desc, hu, rfl⟩ := (hL _ _ ht).und
  split at h <;> try cases h
  rename_i id
  split at h <;> try cases h
  rename_i bs clock ds ho
  split at h <;> try cases h
  rename_i hko
  cases hm with
  | @mp _ r hmu _ =>
  obtain ⟨_, vs, ⟨r', me, g1, g2, g3, rfl⟩, g4, g5⟩ := hr.obj _ _ ho
  rw [hmu] at g1
  cases g1
  have hget : (getObj r).run P w = .ok (.map me clock) w := by
    simp only [getObj, Sem.run]
    rw [show w.heap[r]? = _ from g2]
  have hset : ∀ O, (setObj r O).run P w = .ok () (wset w r O) := fun O => by
    simp only [setObj, Sem.run]
    rw [show w.heap[r]? = _ from g2]
    rfl
  have hck := run_checkKey (P := P) hL hko hk false
  have rep' : ∀ {w' F' μ' σ'} (s : Step w F μ σ w' F' μ' σ') (ds' : List DV) (es' : List MapEntry), Reps w F μ σ ds' (flatE es') → ds'.length = (flatE es').length ∧ ∀ (i : Nat) (d : DV) (v : Value), ds'[i]? = some d → (flatE es')[i]? = some v → Rep w' F' μ' σ' d v := fun s ds' es' h => ⟨h.1, fun i d v hd hv => (h.2 i d v hd hv).step s⟩
  cases hf : findD L kt key ds 0 with
  | none => rw [hf] at h; cases h
  | some q =>
    rw [hf] at h
    obtain ⟨q', h1, h2⟩ := run_findD hL hk hko me.toList ds 0 q ⟨g4, g5⟩ hf
    have hfk : (Instr.findKey kt vk me.toList).run P w = .ok q' w := h1
    cases q with
    | none =>
      cases h
      cases q' with
      | some _ => exact h2.elim
      | none =>
        have hnew : Reps w F μ σ (ds ++ [key, x]) (flatE (me.push { key := vk, val := vx, born := clock }).toList) := by
          have e : flatE (me.push { key := vk, val := vx, born := clock }).toList = flatE me.toList ++ [vk, vx] := by simp [flatE]
          rw [e]
          refine Reps.append ⟨g4, g5⟩ ⟨rfl, fun i d v hd hv => ?_⟩
          rcases i with _ | _ | i <;> simp at hd hv
          · subst hd; subst hv; exact hk
          · subst hd; subst hv; exact hx
        refine ⟨wset w r (.map (me.push { key := vk, val := vx, born := clock }) (clock + 1)), ?_, hr.turn _ ho hmu rfl fun hst hh => ⟨by simp [OT.refs], _, ⟨r, _, hmu, hh, by simp [g3], rfl⟩, (rep' hst _ _ hnew).1, (rep' hst _ _ hnew).2⟩⟩
        simp only [Instr.mapUpdate, Sem.run_bind, run_underlying hu, Result.andThen_ok, hget, hck, hfk, hset]
    | some p =>
      obtain ⟨i, dv⟩ := p
      cases q' with
      | none => exact h2.elim
      | some p' =>
        obtain ⟨j, v⟩ := p'
        obtain ⟨rfl, h2⟩ := h2
        dsimp only at h
        split at h <;> try cases h
        rename_i hst
        obtain ⟨qq, k', e1, e2, e3, e4⟩ := findD_some ds 0 i dv hf
        obtain rfl : i = qq := by omega
        have hlen : i < me.toList.length := by
          have := (List.getElem?_eq_some_iff.1 e4).1
          rw [g4, flatE_length] at this
          omega
        have hme : me.toList[i]? = some (me.toList[i]'hlen) := List.getElem?_eq_getElem _
        have hme' : me[i]? = some (me.toList[i]'hlen) := by simp
        have hk' : Rep w F μ σ k' (me.toList[i]'hlen).key := g5 _ _ _ e2 (by rw [(flatE_get me.toList i).1, hme]; rfl)
        have hsc : ∃ ti, L kt = some ti ∧ ti.d.scal = true ∧ eqCell ti.d key k' = some true := by
          unfold isStruct at hst
          split at hst
          · rename_i ti hti
            refine ⟨ti, hti, by simpa using hst, ?_⟩
            unfold keyEq at e3
            rw [hti] at e3
            obtain ⟨eq, k, by_, d, z⟩ := ti
            simp only [Bool.not_eq_true', Bool.not_eq_false] at hst
            cases eq <;> cases d <;> first | exact e3 | (simp [TD.scal] at hst)
          · simp at hst
        obtain ⟨ti, _, _, hec⟩ := hsc
        have hsame := eqCell_same hec hk hk'
        have hbits := sameBits_refl hec hk
        have hstay : (Instr.keyThatStays ((me[i]?.map (·.key)).getD vk) vk).run P w = .ok vk w := by
          rw [hme']
          simp only [Option.map_some, Option.getD_some, Instr.keyThatStays, ← hsame, hbits, if_true, Sem.run_pure]
        have hnew : Reps w F μ σ ((ds.set (2 * i) key).set (2 * i + 1) x) (flatE (me.modify i fun e => { e with key := vk, val := vx }).toList) := by
          have hget' : ∀ q, (me.modify i fun e => { e with key := vk, val := vx }).toList[q]? = if q = i then some { (me.toList[i]'hlen) with key := vk, val := vx } else me.toList[q]? := by
            intro q
            have : (me.modify i fun e => { e with key := vk, val := vx })[q]? = if q = i then some { (me.toList[i]'hlen) with key := vk, val := vx } else me.toList[q]? := by
              rw [Array.getElem?_modify]
              by_cases hq : i = q
              · subst hq
                simp [hme']
              · rw [if_neg hq, if_neg (fun e => hq e.symm)]
                simp
            rw [Array.getElem?_toList]; exact this
          refine ⟨by simp [flatE_length, g4], fun q d v hd hv => ?_⟩
          have hsz : 2 * i + 1 < ds.length := (List.getElem?_eq_some_iff.1 e4).1
          rw [List.getElem?_set, List.getElem?_set] at hd
          simp only [List.length_set] at hd
          obtain ⟨p, hp | hp⟩ : ∃ p, q = 2 * p ∨ q = 2 * p + 1 := ⟨q / 2, by omega⟩
          · subst hp
            rw [(flatE_get _ p).1, hget'] at hv
            rw [if_neg (by omega)] at hd
            by_cases hpi : p = i
            · subst hpi
              rw [if_pos rfl] at hv
              simp only [Option.map_some, Option.some.injEq] at hv
              rw [if_pos rfl, if_pos (by omega)] at hd
              cases hd; subst hv
              exact hk
            · rw [if_neg hpi] at hv
              rw [if_neg (by omega)] at hd
              exact g5 _ _ _ hd (by rw [(flatE_get _ p).1]; exact hv)
          · subst hp
            rw [(flatE_get _ p).2, hget'] at hv
            by_cases hpi : p = i
            · subst hpi
              rw [if_pos rfl] at hv
              simp only [Option.map_some, Option.some.injEq] at hv
              rw [if_pos rfl, if_pos (by omega)] at hd
              cases hd; subst hv
              exact hx
            · rw [if_neg hpi] at hv
              rw [if_neg (by omega), if_neg (by omega)] at hd
              exact g5 _ _ _ hd (by rw [(flatE_get _ p).2]; exact hv)
        refine ⟨wset w r (.map (me.modify i fun e => { e with key := vk, val := vx }) clock), ?_, hr.turn _ ho hmu rfl fun hst hh => ⟨by simp [OT.refs], _, ⟨r, _, hmu, hh, ?_, rfl⟩, (rep' hst _ _ hnew).1, (rep' hst _ _ hnew).2⟩⟩
        · simp only [Instr.mapUpdate, Sem.run_bind, run_underlying hu, Result.andThen_ok, hget, hck, hfk, hstay, hset]
        · rw [← g3]
          apply List.ext_getElem?
          intro q
          rw [List.getElem?_map, List.getElem?_map]
          have : (me.modify i fun e => { e with key := vk, val := vx })[q]? = if q = i then some { (me.toList[i]'hlen) with key := vk, val := vx } else me.toList[q]? := by
            rw [Array.getElem?_modify]
            by_cases hq : i = q
            · subst hq
              simp [hme']
            · rw [if_neg hq, if_neg (fun e => hq e.symm)]
              simp
          rw [Array.getElem?_toList, this]
          by_cases hq : q = i
          · subst hq; rw [if_pos rfl, hme]; rfl
          · rw [if_neg hq]
end
end Go.VL
end
section
set_option linter.unusedVariables false
set_option linter.unusedSimpArgs false
namespace Go.VL
open Go

section
variable {P : Program} {L : Lay} {w : World} {F : Nat → Nat → Prop} {μ : Nat → Option Nat} {σ : List Ob}

/-- What touches the objects comes to this. -/
def MemRun (P : Program) (w : World) (F : Nat → Nat → Prop) (μ : Nat → Option Nat) (σ : List Ob) (s : Sem Value) (d : DV) (σ' : List Ob) : Prop :=
  ∃ v w' μ', s.run P w = .ok v w' ∧ HR w' F μ' σ' ∧ Step w F μ σ w' F μ' σ' ∧ Fr w μ w' μ' ∧ Rep w' F μ' σ' d v

theorem HR.garbage (hr : HR w F μ σ) (O : Obj) : HR (w.alloc O) F μ σ ∧ Step w F μ σ (w.alloc O) F μ σ ∧ Fr w μ (w.alloc O) μ := by
  have hst : Step w F μ σ (w.alloc O) F μ σ := by
    refine ⟨fun c q hF => ?_, fun _ _ h => h, fun i o h => ⟨o, h, Ob.ext_refl o⟩, fun i t' k' zs us h h' he => ⟨rfl, fun q cu fr hm hq => ⟨cu, fr, ?_, rfl⟩⟩, fun i tt es h => rfl⟩
    · rw [alloc_get, if_neg]
      have := (hr.col c q hF).1
      omega
    · have := hr.lt i q hm
      rw [alloc_get, if_neg (by omega)]; exact hq
  refine ⟨⟨fun i o h => ?_, hr.out, hr.inj, fun i q h => ?_, fun c q h => ⟨?_, (hr.col c q h).2⟩⟩, hst, ⟨rfl, rfl, rfl, by rw [alloc_size]; omega, fun q hq hm => ?_, fun i q h => .inl h, Nat.le_refl _⟩⟩
  · have := hr.obj i o h
    cases o with
    | arr t' k' zs =>
      refine ⟨this.1, ?_⟩
      rcases this.2 with ⟨e1, e2⟩ | ⟨b', cu, fr', hb', hh', hfr', hcc⟩
      · exact .inl ⟨e1, e2⟩
      · refine .inr ⟨b', cu, fr', hb', ?_, hfr', fun j q x d hx hd => ?_⟩
        · have := hr.lt _ _ hb'
          rw [alloc_get, if_neg (by omega)]; exact hh'
        · obtain ⟨v, h1, h2⟩ := hcc j q x d hx hd
          exact ⟨v, h1, h2.step hst⟩
    | oth t' ds =>
      refine this.keep hst h fun q hq => ?_
      have := hr.lt _ _ hq
      rw [alloc_get, if_neg (by omega)]
    | dead => exact this
  · have := hr.lt _ _ h
    rw [alloc_size]; omega
  · have := (hr.col c q h).1
    rw [alloc_size]; omega
  · rw [alloc_get, if_neg (by omega)]

/-! ### Maps made; ranges -/
theorem run_makeMap (hr : HR w F μ σ) (t : TypeId) : MemRun P w F μ σ (Instr.makeMap t none) (.mp σ.length) (σ ++ [.oth (.map [] 0) []]) := by
  obtain ⟨p1, p2, p3⟩ := hr.pushAny (.map #[] 0) (.oth (.map [] 0) []) fun hst h1 h2 => ⟨by simp [OT.refs], [], ⟨_, #[], h1, h2, rfl, rfl⟩, rfl, fun i d v hd => by simp at hd⟩
  exact ⟨.map (some w.heap.size), _, _, rfl, p1, p2, p3, .mp (by simp [grow]) ⟨.map [] 0, [], by simp, rfl⟩⟩
def rangeM (L : Lay) (ob : List Ob) (t : Nat) (m : DV) : Option (DV × List Ob) :=
  match L t with
  | some { d := .map _ _, .. } => match m with
    | .mp id => match ob[id]? with
      | some (.oth (.map _ clock) _) => some (.it ob.length, ob ++ [.oth (.iter (some id) clock [] clock) []])
      | _ => none
    | _ => none
  | _ => none
theorem run_rangeM (hL : LayOk P L) (hr : HR w F μ σ) {t : Nat} {m d : DV} {v : Value} {σ' : List Ob} (h : rangeM L σ t m = some (d, σ')) (hm : Rep w F μ σ m v) : MemRun P w F μ σ (Instr.range t v) d σ' := by
  unfold rangeM at h
  split at h <;> try cases h
  rename_i q0 k0 b0 kt vt z ht
  obtain ⟨desc, hu, rfl⟩ := (hL _ _ ht).und
  split at h <;> try cases h
  rename_i id
  split at h <;> try cases h
  rename_i bs clock ds ho
  cases hm with
  | @mp _ r hmu _ =>
  obtain ⟨_, vs, ⟨r', me, g1, g2, g3, rfl⟩, g4, g5⟩ := hr.obj _ _ ho
  rw [hmu] at g1
  cases g1
  have hid := (List.getElem?_eq_some_iff.1 ho).1
  have hget : (getObj r).run P w = .ok (.map me clock) w := by
    simp only [getObj, Sem.run]
    rw [show w.heap[r]? = _ from g2]
  obtain ⟨p1, p2, p3⟩ := hr.pushAny (.mapIter (some r) clock #[] clock) (.oth (.iter (some id) clock [] clock) []) fun hst h1 h2 =>
    ⟨fun i hi => by
      simp only [OT.refs, List.mem_singleton] at hi
      subst hi
      exact ⟨_, _, by rw [push_get, if_neg (by omega)]; exact ho⟩, [], ⟨rfl, _, some r, h1, h2, by simp only [grow]; rw [if_neg (by omega)]; exact ⟨hmu.symm, rfl⟩⟩, rfl, fun i d v hd => by simp at hd⟩
  refine ⟨.pointer (some ⟨w.heap.size, 0, none⟩), _, _, ?_, p1, p2, p3, .it (by simp [grow]) ⟨.iter (some id) clock [] clock, [], by simp, rfl⟩⟩
  simp only [Instr.range, Sem.run_bind, run_underlying hu, Result.andThen_ok, hget, Sem.run_pure]
  rfl
/-- The entries that a range has not come to: their places. -/
def leftOf (bs seen : List Nat) : List Nat := (List.range bs.length).filter fun i => !seen.contains (bs.getD i 0)
def nextM (ob : List Ob) (it : DV) : Option (DV × List Ob) :=
  match it with
  | .it id => match ob[id]? with
    | some (.oth (.iter (some mid) since seen stepped) _) => match ob[mid]? with
      | some (.oth (.map [] _) _) => some (.tup [.bool false], ob)
      | _ => none
    | _ => none
  | _ => none
theorem run_nextM0 (hr : HR w F μ σ) {it d : DV} {v : Value} {σ' : List Ob} (h : nextM σ it = some (d, σ')) (hv : Rep w F μ σ it v) (ty : TypeId) : MemRun P w F μ σ (Instr.next v false ty) d σ' := by
  unfold nextM at h
  split at h <;> try cases h
  rename_i id
  split at h <;> try cases h
  rename_i mid since seen stepped ds ho
  split at h <;> try cases h
  rename_i clock ds' hm
  cases hv with
  | @it _ r hmu _ =>
  obtain ⟨_, vs, ⟨rfl, r', mo, g1, g2, g3⟩, _, _⟩ := hr.obj _ _ ho
  rw [hmu] at g1
  cases g1
  obtain ⟨rfl, g4⟩ := g3
  obtain ⟨_, vs', ⟨rm, me, q1, q2, q3, rfl⟩, _, _⟩ := hr.obj _ _ hm
  rw [q1] at g2
  have hme : me = #[] := by simpa using q3
  subst hme
  have hget : (getObj r).run P w = .ok (.mapIter (some rm) since seen.toArray stepped) w := by
    simp only [getObj, Sem.run]
    rw [show w.heap[r]? = _ from g2]
  have hget' : (getObj rm).run P w = .ok (.map #[] clock) w := by
    simp only [getObj, Sem.run]
    rw [show w.heap[rm]? = _ from q2]
  refine ⟨.tuple #[.bool false], w, μ, ?_, hr, Step.refl .., Fr.refl .., .tup rfl fun i d v hd hv => ?_⟩
  · simp only [Instr.next, Sem.run_bind, hget, hget', Result.andThen_ok]
    have hf : ∀ p : MapEntry → Bool, Array.filter p #[] 0 0 = #[] := fun p => rfl
    have hf' : ∀ p : MapEntry → Bool, Array.filter p #[] = #[] := fun p => rfl
    simp [choose, Sem.run, Question.forced, Result.andThen, hf, hf']
  · rcases i with _ | i <;> simp at hd hv
    subst hd; subst hv; exact .bool

/-! ### Interfaces asked for what they hold -/
def taM (L : Lay) (x : DV) (t : Nat) : Option DV :=
  match L t with
  | some te => match te.d with
    | .other => none
    | _ => match x with
      | .nili => some (.tup [te.zero, .bool false])
      | .iface t' d => if t' = t then some (.tup [d, .bool true]) else some (.tup [te.zero, .bool false])
      | _ => none
  | none => none
theorem run_taM (hL : LayOk P L) {x d : DV} {v : Value} {t : Nat} (h : taM L x t = some d) (hv : Rep w F μ σ x v) (xt : TypeId) : ∃ v', (Instr.typeAssert v xt t true).run P w = .ok v' w ∧ Rep w F μ σ d v' := by
  unfold taM at h
  split at h <;> try cases h
  rename_i te hte
  obtain ⟨desc, hu, hd⟩ := (hL _ _ hte).und
  obtain ⟨z, hz, _, hzo⟩ := (hL _ _ hte).zero w
  have hrz : Rep w F μ σ te.zero z := by rw [← hzo]; exact rep_ofVal z
  have hni : ∀ m, desc ≠ .interface m := by
    rintro m rfl
    cases hq : te.d <;> rw [hq] at hd <;> simp [DescOk] at hd
  have fails : Rep w F μ σ (.tup [te.zero, .bool false]) (.tuple #[z, .bool false]) := by
    refine .tup (vs := [z, .bool false]) rfl fun i d v hd hv => ?_
    rcases i with _ | _ | i <;> simp at hd hv
    · subst hd; subst hv; exact hrz
    · subst hd; subst hv; exact .bool
  split at h <;> try cases h
  split at h <;> try cases h
  · cases hv
    refine ⟨.tuple #[z, .bool false], ?_, fails⟩
    simp only [Instr.typeAssert, Sem.run_bind, run_underlying hu, Result.andThen_ok]
    cases desc <;> first | exact absurd rfl (hni _) | simp [hz]
  · rename_i t' d'
    cases hv with
    | @iface _ _ v' hr' =>
      by_cases ht : t' = t
      · rw [if_pos ht] at h
        cases h
        refine ⟨.tuple #[v', .bool true], ?_, ?_⟩
        · simp only [Instr.typeAssert, Sem.run_bind, run_underlying hu, Result.andThen_ok]
          cases desc <;> first | exact absurd rfl (hni _) | simp [ht]
        · refine .tup (vs := [v', .bool true]) rfl fun i d v hd hv => ?_
          rcases i with _ | _ | i <;> simp at hd hv
          · subst hd; subst hv; exact hr'
          · subst hd; subst hv; exact .bool
      · rw [if_neg ht] at h
        cases h
        refine ⟨.tuple #[z, .bool false], ?_, fails⟩
        simp only [Instr.typeAssert, Sem.run_bind, run_underlying hu, Result.andThen_ok]
        cases desc <;> first | exact absurd rfl (hni _) | simp [ht, hz]

/-! ### Texts as octets -/
def convM (L : Lay) (ob : List Ob) (s t : Nat) (d : DV) : Option (DV × List Ob) :=
  match L s, L t with
  | some { d := .slice e, .. }, some { d := .slice _, .. } => if s = t ∧ isOct L e = true then (match d with
    | .sl id g off len => match ob[id]? with
      | some (.arr _ _ xs) => if g = xs.length ∧ 0 < len then some (d, ob) else none
      | _ => none
    | _ => none) else none
  | some _, some { d := .slice e, .. } => if isOct L e = true then (match d with
    | .str x => if x.size ≤ 1073741824 then some (.sl ob.length x.size 0 x.size, ob ++ [.arr e 1 (x.data.toList.map fun b => .int .u8 b.toNat)]) else none
    | _ => none) else none
  | _, _ => none
theorem FrOk.mark {fr : Nat × Nat} {n : Nat} (h : FrOk fr n) : FrOk (if (fr.1 == fr.2) = true then (n, n + 1) else (min fr.1 n, max fr.2 (n + 1))) n := by
  rcases h with rfl | h
  · exact .inr (Nat.le_refl _)
  · split
    · exact .inr (Nat.le_refl _)
    · exact .inr (by show n ≤ min fr.1 n; omega)
theorem run_mark {b o : Nat} {cur : Array Value} {e : TypeId} {fr : Nat × Nat} (h : w.heap[b]? = some (.cells cur e fr)) :
    (markStringish ⟨b, o, none⟩).run P w = .ok () (wset w b (.cells cur e (if (fr.1 == fr.2) = true then (cur.size, cur.size + 1) else (min fr.1 cur.size, max fr.2 (cur.size + 1))))) := by
  have hsh : (shape b).run P w = .ok (some (e, cur.size)) w := by simp [shape, Sem.run, World.shape?, h]
  simp only [markStringish, Sem.run_bind, hsh, Result.andThen_ok, freeze, Sem.run]
  congr 1
  obtain ⟨lo, hi⟩ := fr
  unfold World.freeze wset
  rw [if_neg (by omega)]
  congr 1
  apply Array.ext_getElem?
  intro i
  rw [Array.getElem?_modify, Array.getElem?_setIfInBounds]
  obtain ⟨h1, h2⟩ := Array.getElem?_eq_some_iff.1 h
  by_cases hi : b = i
  · subst hi
    simp [h1, h2]
  · simp [hi]
theorem run_convM (hL : LayOk P L) (hr : HR w F μ σ) {s t : Nat} {d d' : DV} {v : Value} {σ' : List Ob} (h : convM L σ s t d = some (d', σ')) (hv : Rep w F μ σ d v) : MemRun P w F μ σ (convert s t v) d' σ' := by
  unfold convM at h
  split at h <;> try cases h
  · rename_i q0 k0 b0 e z0 q1 k1 b1 e1 z1 hs ht
    obtain ⟨desc, hu, rfl⟩ := (hL _ _ hs).und
    split at h <;> try cases h
    rename_i hc
    obtain ⟨rfl, hoct⟩ := hc
    have hue := isOct_und hL hoct
    split at h <;> try cases h
    rename_i id g off len
    split at h <;> try cases h
    rename_i t0 k xs ho
    split at h <;> try cases h
    rename_i hg
    obtain ⟨rfl, hlen⟩ := hg
    cases hv with
    | @sl _ _ _ _ A cap hsl =>
    have hsl' := hsl
    obtain ⟨t2, k2, xs2, ho2, g1, g2, g3, g4, g5⟩ := hsl'
    rw [ho] at ho2
    cases ho2
    rcases g5 rfl with ⟨q1, _⟩ | ⟨b, cur, fr, q1, q2, q3, q5, q4⟩
    · omega
    have hA := q4 (.inl hlen)
    subst hA
    obtain ⟨hxk, hor⟩ := hr.obj _ _ ho
    rcases hor with ⟨he, _⟩ | ⟨b', cur', fr', hb', hh', hfr', hcells⟩
    · subst he; simp at g1; omega
    rw [q1] at hb'
    cases hb'
    rw [q2] at hh'
    cases hh'
    obtain ⟨p1, p2, p3⟩ := hr.write (ys := xs) (cur' := cur) ho q1 q2 (hfr'.mark) rfl (Nat.le_refl _) hxk hcells
    rw [set_self ho] at p1 p2
    refine ⟨_, _, μ, ?_, p1, p2, p3, (Rep.sl hsl).step p2⟩
    have : (convert s s (.slice (some ⟨b, off * k, none⟩) len cap)).run P w = ((do markStringish ⟨b, off * k, none⟩; pure (.slice (some ⟨b, off * k, none⟩) len cap) : Sem Value)).run P w := by
      simp only [convert, Sem.run_bind, run_underlying hu, Result.andThen_ok, run_underlying hue, beq_self_eq_true]
    rw [this]
    simp only [Sem.run_bind, run_mark q2, Result.andThen_ok, Sem.run_pure]
  · rename_i ti q1 k1 b1 e z1 hne hs ht
    obtain ⟨desc, hus, _⟩ := (hL _ _ hs).und
    obtain ⟨desc', hu, rfl⟩ := (hL _ _ ht).und
    split at h <;> try cases h
    rename_i hoct
    have hue := isOct_und hL hoct
    split at h <;> try cases h
    rename_i x
    split at h <;> try cases h
    rename_i hx
    cases hv
    have hgc := grownCap_ge w x.size 0 e
    have hgm := grownCap_le_maxLen w x.size 0 e (by simp only [maxLen]; omega)
    generalize hN : grownCap w x.size 0 e = N at hgc hgm
    have hch : (choose (.appendCap x.size 0 e)).run P w = .ok N w.drew := by rw [← hN]; rfl
    obtain ⟨cells, hcells⟩ : ∃ cells, cells = (x.data.map fun b => Value.int .u8 b.toNat) ++ Array.replicate (N - x.size) (.int .u8 0) := ⟨_, rfl⟩
    have hcs : cells.size = N := by
      rw [hcells]
      simp only [Array.size_append, Array.size_map, Array.size_replicate]
      show x.size + (N - x.size) = N
      omega
    have hxs : (x.data.toList.map fun b => DV.int .u8 b.toNat).length = x.size := by first | (simp; done) | (simp; rfl)
    obtain ⟨p1, p2, p3⟩ := hr.drew1.push (t := e) (k := 1) (xs := x.data.toList.map fun b => .int .u8 b.toNat) (cur := cells) (fr := (cells.size, cells.size + 1)) (.inr (Nat.le_refl _)) (fun y hy => by
      obtain ⟨b, _, rfl⟩ := List.mem_map.1 hy; rfl) (fun j i y d hy hd => by
      rw [List.getElem?_map] at hy
      cases hb : x.data.toList[j]? with
      | none => rw [hb] at hy; cases hy
      | some b =>
        rw [hb] at hy
        cases hy
        rcases i with _ | i <;> simp [DV.cells] at hd
        subst hd
        refine ⟨.int .u8 b.toNat, ?_, .int⟩
        have hj : j < x.data.size := by have := (List.getElem?_eq_some_iff.1 hb).1; simpa using this
        rw [hcells, Nat.mul_one, Nat.add_zero, Array.getElem?_append_left (by simpa using hj), Array.getElem?_map]
        rw [Array.getElem?_toList] at hb
        rw [hb]
        rfl)
    refine ⟨.slice (some ⟨w.heap.size, 0, none⟩) x.size N, _, _, ?_, p1, step_drew1.trans p2, fr_drew1.trans p3, ?_⟩
    · have hrow : (newRow e cells).run P w.drew = .ok ⟨w.heap.size, 0, none⟩ (w.drew.alloc (.cells cells e)) := rfl
      have hget : (w.drew.alloc (.cells cells e)).heap[w.heap.size]? = some (.cells cells e (0, 0)) := by rw [alloc_get]; exact if_pos rfl
      have hmk := run_mark (P := P) (o := 0) hget
      have heq : wset (w.drew.alloc (.cells cells e)) w.heap.size (.cells cells e (cells.size, cells.size + 1)) = w.drew.alloc (.cells cells e (cells.size, cells.size + 1)) := by
        unfold wset World.alloc
        congr 1
        apply Array.ext_getElem?
        intro i
        have hs : w.drew.heap.size = w.heap.size := rfl
        rw [Array.getElem?_setIfInBounds]
        by_cases hi : w.heap.size = i
        · rw [if_pos hi, if_pos (by rw [Array.size_push, hs]; omega), Array.getElem?_push, hs, if_pos hi.symm]
        · rw [if_neg hi, Array.getElem?_push, Array.getElem?_push, hs, if_neg (fun e => hi e.symm), if_neg (fun e => hi e.symm)]
      have e1 : (if ((0, 0) : Nat × Nat).1 == ((0, 0) : Nat × Nat).2 then (cells.size, cells.size + 1) else (min 0 cells.size, max 0 (cells.size + 1))) = (cells.size, cells.size + 1) := rfl
      simp only [e1, heq] at hmk
      have hcv : (convert s t (.string x)).run P w = (Conv.stringToBytes e x).run P w := by
        simp only [convert, Sem.run_bind, run_underlying hus, run_underlying hu, Result.andThen_ok]
        cases desc <;> simp [run_underlying hue]
      rw [hcv]
      simp only [Conv.stringToBytes, Sem.run_bind, hch, Result.andThen_ok, ← hcells, hrow, Sem.run_pure]
      refine (congrArg (fun r : Result Unit => r.andThen fun _ w' => Result.ok (Value.slice (some ⟨w.heap.size, 0, none⟩) x.size N) w') hmk).trans ?_
      rfl
    · refine .sl ⟨e, 1, x.data.toList.map fun b => .int .u8 b.toNat, by simp, by omega, by rw [hxs]; exact Nat.le_refl _, hgc, hgm, fun _ => .inr ⟨w.heap.size, cells, _, if_pos rfl, by rw [alloc_get]; exact if_pos rfl, by rw [hcs]; omega, rfl, fun _ => by simp⟩⟩
end
end Go.VL
end
section
set_option linter.unusedVariables false
set_option linter.unusedSimpArgs false
namespace Go.VL
open Go

/-- Operations beyond the simple ones. -/
def mop (L : Lay) (st : St) (op : Op) : Option (DV × List Ob) :=
  match op with
  | .binOp op t x y _ => match op with
    | .eql => (eqM L st.ob t (ev st.env x) (ev st.env y)).map fun b => (.bool b, st.ob)
    | .neq => (eqM L st.ob t (ev st.env x) (ev st.env y)).map fun b => (.bool (!b), st.ob)
    | _ => none
  | .index t x i => (indexDV L t (ev st.env x) (ev st.env i)).map fun d => (d, st.ob)
  | .slice t x lo (some hi) (some mx) => (slice3DV L st.ob t (ev st.env x) (lo.map (ev st.env)) (some (ev st.env hi)) (ev st.env mx)).map fun d => (d, st.ob)
  | .convert s t x => match bstrDV L st.ob s t (ev st.env x) with
    | some d => some (d, st.ob)
    | none => convM L st.ob s t (ev st.env x)
  | .typeAssert x _ t true => (taM L (ev st.env x) t).map fun d => (d, st.ob)
  | .makeMap t none => some (.mp st.ob.length, st.ob ++ [.oth (.map [] 0) []])
  | .lookup t m k ok => (lookupM L st.ob t (ev st.env m) (ev st.env k) ok).map fun d => (d, st.ob)
  | .mapUpdate t m k v => (updM L st.ob t (ev st.env m) (ev st.env k) (ev st.env v)).map fun ob => (.undef, ob)
  | .insert t m k v => (updM L st.ob t (ev st.env m) (ev st.env k) (ev st.env v)).map fun ob => (.undef, ob)
  | .range t x => rangeM L st.ob t (ev st.env x)
  | .next it false => nextM st.ob (ev st.env it)
  | .buildSlice t 0 ps => if ps.size = 0 then (match L t with
    | some { d := .slice e, .. } => match L e with
      | some _ => some (.emp, st.ob)
      | none => none
    | _ => none) else none
  | .call { callee := .builtin .append, args, argTypes } => match argTypes.toList, args.toList.map (ev st.env) with
    | [t, t'], [d1, d2] => appM L st.ob t t' d1 d2
    | _, _ => none
  | .call { callee := .builtin .copy, args, argTypes } => match argTypes.toList, args.toList.map (ev st.env) with
    | t :: _, [d1, d2] => copyM L st.ob t d1 d2
    | _, _ => none
  | .call { callee := .builtin .clear, args, argTypes } => match argTypes.toList, args.toList.map (ev st.env) with
    | t :: _, [d1] => clearM L st.ob t d1
    | _, _ => none
  | _ => none

theorem OpRun.mem {P : Program} {o : Oper} {st : St} {d : DV} {ob' : List Ob}
    (h : ∀ (a : Act) (w : World) (F : Nat → Nat → Prop) (μ : Nat → Option Nat), HR w F μ st.ob → (∀ x, Rep w F μ st.ob (ev st.env x) (a.eval x)) →
      ∃ s : Sem Value, MemRun P w F μ st.ob s d ob' ∧ ∀ v w', s.run P w = .ok v w' → (execOp a.eval o).run P w = .ok (.value v) w') : OpRun P o st d ob' := by
  intro a w F μ hr he
  obtain ⟨s, ⟨v, w', μ', h1, h2, h3, h4, h5⟩, h6⟩ := h a w F μ hr he
  exact ⟨_, w', μ', v, h6 v w' h1, .inl rfl, h2, h3, h4, h5⟩
theorem repO_map1 {w : World} {F : Nat → Nat → Prop} {μ : Nat → Option Nat} {σ : List Ob} {env : List (Nat × DV)} {a : Act} (he : ∀ x, Rep w F μ σ (ev env x) (a.eval x)) (o : Option Operand) :
    RepO w F μ σ (o.map (ev env)) (o.map a.eval) := by
  cases o with
  | none => exact .inl ⟨rfl, rfl⟩
  | some x => exact .inr ⟨_, _, rfl, rfl, he x⟩

theorem OpRun.of_mop {P : Program} {L : Lay} (hL : LayOk P L) {o : Oper} {st : St} {d : DV} {ob' : List Ob} (h : mop L st o.op = some (d, ob')) : OpRun P o st d ob' := by
  have pure1 : ∀ (q : Option DV), q.map (fun d => (d, st.ob)) = some (d, ob') → q = some d ∧ ob' = st.ob := by
    intro q hq
    cases q with
    | none => cases hq
    | some x => cases hq; exact ⟨rfl, rfl⟩
  unfold mop at h
  split at h
  case h_1 op t x y yt hop =>
    split at h <;> try cases h
    · cases hq : eqM L st.ob t (ev st.env x) (ev st.env y) with
      | none => rw [hq] at h; cases h
      | some b =>
        rw [hq] at h; cases h
        refine OpRun.pure fun a w F μ hr he => ⟨_, ?_, .bool⟩
        have := run_eqM (P := P) hL hq (he x) (he y) .eql (.inl rfl) x y
        simp only [execOp, hop]
        rw [Sem.run_bind, this]
        rfl
    · cases hq : eqM L st.ob t (ev st.env x) (ev st.env y) with
      | none => rw [hq] at h; cases h
      | some b =>
        rw [hq] at h; cases h
        refine OpRun.pure fun a w F μ hr he => ⟨_, ?_, .bool⟩
        have := run_eqM (P := P) hL hq (he x) (he y) .neq (.inr rfl) x y
        simp only [execOp, hop]
        rw [Sem.run_bind, this]
        rfl
  case h_2 t x i hop =>
    obtain ⟨h1, rfl⟩ := pure1 _ h
    refine OpRun.pure fun a w F μ hr he => ?_
    obtain ⟨v, r1, r2⟩ := run_indexDV (P := P) hL h1 (he x) (he i)
    exact ⟨v, by simp [execOp, hop, r1], r2⟩
  case h_3 t x lo hi mx hop =>
    obtain ⟨h1, rfl⟩ := pure1 _ h
    refine OpRun.pure fun a w F μ hr he => ?_
    obtain ⟨v, r1, r2⟩ := run_slice3DV (P := P) hL h1 (he x) (repO_map1 he lo) (.inr ⟨_, _, rfl, rfl, he hi⟩) rfl (he mx)
    exact ⟨v, by simp [execOp, hop, r1], r2⟩
  case h_4 s t x hop =>
    split at h
    · rename_i d' hb
      cases h
      refine OpRun.pure fun a w F μ hr he => ?_
      obtain ⟨v, r1, r2⟩ := run_bstrDV (P := P) hL hr hb (he x)
      exact ⟨v, by simp [execOp, hop, r1], r2⟩
    · exact OpRun.mem fun a w F μ hr he => ⟨_, run_convM hL hr h (he x), fun v w' h1 => by simp [execOp, hop, h1]⟩
  case h_5 x xt t hop =>
    obtain ⟨h1, rfl⟩ := pure1 _ h
    refine OpRun.pure fun a w F μ hr he => ?_
    obtain ⟨v, r1, r2⟩ := run_taM (P := P) hL h1 (he x) xt
    exact ⟨v, by simp [execOp, hop, r1], r2⟩
  case h_6 t hop =>
    cases h
    exact OpRun.mem fun a w F μ hr he => ⟨_, run_makeMap hr t, fun v w' h1 => by simp [execOp, hop, h1]⟩
  case h_7 t m k ok hop =>
    obtain ⟨h1, rfl⟩ := pure1 _ h
    refine OpRun.pure fun a w F μ hr he => ?_
    obtain ⟨v, r1, r2⟩ := run_lookupM (P := P) hL hr h1 (he m) (he k)
    exact ⟨v, by simp [execOp, hop, r1], r2⟩
  case h_8 t m k v hop =>
    intro a w F μ hr he
    cases hq : updM L st.ob t (ev st.env m) (ev st.env k) (ev st.env v) with
    | none => rw [hq] at h; cases h
    | some ob2 =>
      rw [hq] at h; cases h
      obtain ⟨w', r1, r2, r3, r4⟩ := run_updM (P := P) hL hr hq (he m) (he k) (he v)
      exact ⟨.skip, w', μ, undef, by simp [execOp, hop, r1], .inr ⟨rfl, rfl⟩, r2, r3, r4, .undef⟩
  case h_9 t m k v hop =>
    intro a w F μ hr he
    cases hq : updM L st.ob t (ev st.env m) (ev st.env k) (ev st.env v) with
    | none => rw [hq] at h; cases h
    | some ob2 =>
      rw [hq] at h; cases h
      obtain ⟨w', r1, r2, r3, r4⟩ := run_updM (P := P) hL hr hq (he m) (he k) (he v)
      exact ⟨.skip, w', μ, undef, by simp [execOp, hop, r1], .inr ⟨rfl, rfl⟩, r2, r3, r4, .undef⟩
  case h_10 t x hop => exact OpRun.mem fun a w F μ hr he => ⟨_, run_rangeM hL hr h (he x), fun v w' h1 => by simp [execOp, hop, h1]⟩
  case h_11 it hop => exact OpRun.mem fun a w F μ hr he => ⟨_, run_nextM0 hr h (he it) o.type, fun v w' h1 => by simp [execOp, hop, h1]⟩
  case h_12 t ps hop =>
    split at h <;> try cases h
    rename_i hps
    split at h <;> try cases h
    rename_i q0 k0 b0 e z ht
    obtain ⟨desc, hu, rfl⟩ := (hL _ _ ht).und
    split at h <;> try cases h
    rename_i te hte
    refine OpRun.mem fun a w F μ hr he => ⟨Instr.buildSlice t 0 #[], ?_, fun v w' h1 => ?_⟩
    · obtain ⟨g1, g2, g3⟩ := hr.garbage (.cells #[] e)
      refine ⟨.slice (some ⟨w.heap.size, 0, none⟩) 0 0, _, μ, ?_, g1, g2, g3, .emp⟩
      have h0 : ¬ (0 > 2 ^ 24) := by simp
      simp only [Instr.buildSlice, Sem.run_bind, run_underlying hu, Result.andThen_ok, (hL _ _ hte).size, Nat.zero_mul, if_neg h0, if_true, Sem.run_bind, Sem.run_pure, Result.andThen_ok, Instr.fill]
      have hz0 : ∀ f : Nat → Value, (Array.range 0).map f = #[] := fun f => by apply Array.eq_empty_of_size_eq_zero; simp
      rw [hz0]
      rfl
    · have : ps.map (fun (i, x) => (i, a.eval x)) = #[] := by apply Array.eq_empty_of_size_eq_zero; simpa using hps
      simp [execOp, hop, this, h1]
  case h_13 args ts hop =>
    split at h <;> try cases h
    rename_i t t' d1 d2 hts hds
    refine OpRun.mem fun a w F μ hr he => ?_
    have hargs : args.map a.eval = ⟨args.toList.map a.eval⟩ := by apply Array.ext'; simp
    rcases hxs : args.toList with _ | ⟨x1, _ | ⟨x2, _ | ⟨x3, r⟩⟩⟩ <;> rw [hxs] at hds <;> simp at hds
    obtain ⟨rfl, rfl⟩ := hds
    have : ts = #[t, t'] := by apply Array.ext'; simpa using hts
    subst this
    refine ⟨Builtin.append_ #[t, t'] o.type #[a.eval x1, a.eval x2], run_appM hL hr h (he x1) (he x2) o.type, fun v w' h1 => ?_⟩
    simp only [execOp, hop, resolve, Sem.run_bind, Sem.run_pure, Result.andThen_ok, invoke, hargs, hxs, List.map_cons, List.map_nil, builtin, h1]
  case h_14 args ts hop =>
    split at h <;> try cases h
    rename_i t r d1 d2 hts hds
    refine OpRun.mem fun a w F μ hr he => ?_
    have hargs : args.map a.eval = ⟨args.toList.map a.eval⟩ := by apply Array.ext'; simp
    rcases hxs : args.toList with _ | ⟨x1, _ | ⟨x2, _ | ⟨x3, r⟩⟩⟩ <;> rw [hxs] at hds <;> simp at hds
    obtain ⟨rfl, rfl⟩ := hds
    have hts0 : ts[0]? = some t := by
      have : ts.toList[0]? = some t := by rw [hts]; rfl
      simpa using this
    obtain ⟨v, w', r1, r2, r3, r4, r5⟩ := run_copyM (P := P) hL hr h (he x1) (he x2) ts hts0 o.type
    refine ⟨Builtin.copy_ ts o.type #[a.eval x1, a.eval x2], ⟨v, w', μ, r1, r2, r3, r4, r5⟩, fun v w' h1 => ?_⟩
    simp only [execOp, hop, resolve, Sem.run_bind, Sem.run_pure, Result.andThen_ok, invoke, hargs, hxs, List.map_cons, List.map_nil, builtin, h1]
  case h_15 args ts hop =>
    split at h <;> try cases h
    rename_i t r d1 hts hds
    refine OpRun.mem fun a w F μ hr he => ?_
    have hargs : args.map a.eval = ⟨args.toList.map a.eval⟩ := by apply Array.ext'; simp
    rcases hxs : args.toList with _ | ⟨x1, _ | ⟨x2, r⟩⟩ <;> rw [hxs] at hds <;> simp at hds
    subst hds
    have hts0 : ts[0]? = some t := by
      have : ts.toList[0]? = some t := by rw [hts]; rfl
      simpa using this
    obtain ⟨v, w', r1, r2, r3, r4, r5⟩ := run_clearM (P := P) hL hr h (he x1) ts hts0 o.type
    refine ⟨Builtin.clear_ ts o.type #[a.eval x1], ⟨v, w', μ, r1, r2, r3, r4, r5⟩, fun v w' h1 => ?_⟩
    simp only [execOp, hop, resolve, Sem.run_bind, Sem.run_pure, Result.andThen_ok, invoke, hargs, hxs, List.map_cons, List.map_nil, builtin, h1]
  case h_16 => cases h
end Go.VL
end
section
namespace Go.VL
open Go

def sop0 (L : Lay) (st : St) (op : Op) : Option (DV × List Ob) :=
  match op with
  | .move x => some (ev st.env x, st.ob)
  | .assign x => some (ev st.env x, st.ob)
  | .pick c a b => match ev st.env c with
    | .bool q => some (if q = true then ev st.env a else ev st.env b, st.ob)
    | _ => none
  | .binOp op t x y _ => (binDV L op t (ev st.env x) (ev st.env y)).map fun d => (d, st.ob)
  | .unOp op _ x => (un op (ev st.env x)).map fun d => (d, st.ob)
  | .convert s t x => (convDV L s t (ev st.env x)).map fun d => (d, st.ob)
  | .extract x i => match ev st.env x with
    | .tup xs => (xs[i]?).map fun d => (d, st.ob)
    | _ => none
  | .field t x f => (fieldDV L t (ev st.env x) f).map fun d => (d, st.ob)
  | .fieldAddr t x f => (fieldAddrDV L t f (ev st.env x)).map fun d => (d, st.ob)
  | .indexAddr t x i => (indexAddrDV L st.ob t (ev st.env x) (ev st.env i)).map fun d => (d, st.ob)
  | .load t x => (loadDV L st.ob t (ev st.env x)).map fun d => (d, st.ob)
  | .store t p x => (storeDV L st.ob t (ev st.env p) (ev st.env x)).map fun ob => (.undef, ob)
  | .alloc t => match L t with
    | some ti => if ti.zero.cells.length = ti.k then some (.ptr st.ob.length 1 0 0, st.ob ++ [.arr t ti.k [ti.zero]]) else none
    | none => none
  | .box t x => if (ev st.env x).full = true then some (.ptr st.ob.length 1 0 0, st.ob ++ [.arr t (ev st.env x).cells.length [ev st.env x]]) else none
  | .build t ps => (buildDV L t (ps.toList.map fun p => (p.1, ev st.env p.2))).map fun d => (d, st.ob)
  | .buildSlice t n ps => if n = 0 then none else bsDV L st.ob t n (ps.toList.map fun p => (p.1, ev st.env p.2))
  | .makeSlice t l c => msDV L st.ob t (ev st.env l) (ev st.env c)
  | .slice t x lo hi none => (sliceDV L st.ob t (ev st.env x) (lo.map (ev st.env)) (hi.map (ev st.env))).map fun d => (d, st.ob)
  | .makeFunc (.func f) first caps => if first.size = 0 then some (.fn f (caps.toList.map (ev st.env)), st.ob) else none
  | .makeInterface t x => match L t with
    | some _ => some (.iface t (ev st.env x), st.ob)
    | none => none
  | .nilCheck x => match ev st.env x with
    | .ptr id g j o => some (.ptr id g j o, st.ob)
    | .vptr c cs => some (.vptr c cs, st.ob)
    | .fn f caps => some (.fn f caps, st.ob)
    | .iface t x => some (.iface t x, st.ob)
    | _ => none
  | .call { callee := .builtin b, args, argTypes } => bi L st.ob b argTypes.toList (args.toList.map (ev st.env))
  | _ => none

theorem all2_map {w : World} {F : Nat → Nat → Prop} {μ : Nat → Option Nat} {σ : List Ob} {env : List (Nat × DV)} {a : Act} (he : ∀ x, Rep w F μ σ (ev env x) (a.eval x)) (ps : Array (Nat × Operand)) :
    All2 (fun (p : Nat × DV) (u : Nat × Value) => p.1 = u.1 ∧ Rep w F μ σ p.2 u.2) (ps.toList.map fun p => (p.1, ev env p.2)) (ps.map fun (i, x) => (i, a.eval x)).toList := by
  rw [Array.toList_map]
  exact forall2_map _ fun x _ => ⟨rfl, he x.2⟩
theorem repO_map {w : World} {F : Nat → Nat → Prop} {μ : Nat → Option Nat} {σ : List Ob} {env : List (Nat × DV)} {a : Act} (he : ∀ x, Rep w F μ σ (ev env x) (a.eval x)) (o : Option Operand) :
    RepO w F μ σ (o.map (ev env)) (o.map a.eval) := by
  cases o with
  | none => exact .inl ⟨rfl, rfl⟩
  | some x => exact .inr ⟨_, _, rfl, rfl, he x⟩
theorem repsL_map {w : World} {F : Nat → Nat → Prop} {μ : Nat → Option Nat} {σ : List Ob} {env : List (Nat × DV)} {a : Act} (he : ∀ x, Rep w F μ σ (ev env x) (a.eval x)) (xs : List Operand) :
    Reps w F μ σ (xs.map (ev env)) (xs.map a.eval) := by
  refine ⟨by simp, fun i d v hd hv => ?_⟩
  rw [List.getElem?_map] at hd hv
  cases hx : xs[i]? with
  | none => simp [hx] at hd
  | some x =>
    simp only [hx, Option.map_some, Option.some.injEq] at hd hv
    subst hd; subst hv
    exact he x

theorem OpRun.of_sop0 {P : Program} {L : Lay} (hL : LayOk P L) {o : Oper} {st : St} {d : DV} {ob' : List Ob} (h : sop0 L st o.op = some (d, ob')) : OpRun P o st d ob' := by
  have pure1 : ∀ (q : Option DV), q.map (fun d => (d, st.ob)) = some (d, ob') → q = some d ∧ ob' = st.ob := by
    intro q hq
    cases q with
    | none => cases hq
    | some x => cases hq; exact ⟨rfl, rfl⟩
  cases hop : o.op <;> rw [hop] at h <;> try (cases h; done)
  case move x =>
    cases h
    exact OpRun.pure fun a w F μ hr he => ⟨_, by simp [execOp, hop], he x⟩
  case assign x =>
    cases h
    exact OpRun.pure fun a w F μ hr he => ⟨_, by simp [execOp, hop], he x⟩
  case pick c x y =>
    simp only [sop0] at h
    split at h <;> try cases h
    rename_i q hc
    refine OpRun.pure fun a w F μ hr he => ?_
    have h1 := he c
    rw [hc] at h1
    have h2 : a.eval c = .bool q := by generalize a.eval c = v at h1; cases h1; rfl
    cases q
    · exact ⟨_, by simp [execOp, hop, h2, asBool], he y⟩
    · exact ⟨_, by simp [execOp, hop, h2, asBool], he x⟩
  case binOp op t x y yt =>
    obtain ⟨h1, rfl⟩ := pure1 _ h
    refine OpRun.pure fun a w F μ hr he => ?_
    obtain ⟨v, hv1, hv2⟩ := run_binDV hL h1 (he x) (he y) x y
    refine ⟨v, ?_, hv2⟩
    simp only [execOp, hop]
    rw [Sem.run_bind, hv1]
    rfl
  case unOp op t x =>
    obtain ⟨h1, rfl⟩ := pure1 _ h
    refine OpRun.pure fun a w F μ hr he => ?_
    have hx := he x
    cases hd : ev st.env x <;> rw [hd] at h1 hx <;> try (cases h1; done)
    · rename_i k n
      have h2 : a.eval x = .int k n := by generalize a.eval x = v at hx; cases hx; rfl
      obtain ⟨r1, r2⟩ := run_un (P := P) (v := a.eval x) h1 (by rw [h2]; rfl) rfl w
      exact ⟨_, by simp [execOp, hop, r1], rep_toVal r2⟩
    · rename_i b
      have h2 : a.eval x = .bool b := by generalize a.eval x = v at hx; cases hx; rfl
      obtain ⟨r1, r2⟩ := run_un (P := P) (v := a.eval x) h1 (by rw [h2]; rfl) rfl w
      exact ⟨_, by simp [execOp, hop, r1], rep_toVal r2⟩
  case convert s t x =>
    obtain ⟨h1, rfl⟩ := pure1 _ h
    refine OpRun.pure fun a w F μ hr he => ?_
    obtain ⟨v, r1, r2⟩ := run_convDV hL h1 (he x)
    exact ⟨v, by simp [execOp, hop, r1], r2⟩
  case extract x i =>
    simp only [sop0] at h
    split at h <;> try cases h
    rename_i xs hx
    obtain ⟨h1, rfl⟩ := pure1 _ h
    refine OpRun.pure fun a w F μ hr he => ?_
    have h2 := he x
    rw [hx] at h2
    generalize hv : a.eval x = v at h2
    cases h2 with
    | @tup _ vs hl hh =>
      have hi := (List.getElem?_eq_some_iff.1 h1).1
      refine ⟨vs[i]'(by omega), ?_, hh i d _ h1 (List.getElem?_eq_getElem (by omega))⟩
      have : (⟨vs⟩ : Array Value)[i]? = some (vs[i]'(by omega)) := by simp
      simp only [execOp, hop, hv, Instr.extract, this, Sem.run_bind, Sem.run_pure, Result.andThen_ok]
  case field t x f =>
    obtain ⟨h1, rfl⟩ := pure1 _ h
    refine OpRun.pure fun a w F μ hr he => ?_
    obtain ⟨v, r1, r2⟩ := run_fieldDV hL h1 (he x)
    exact ⟨v, by simp [execOp, hop, r1], r2⟩
  case fieldAddr t x f =>
    obtain ⟨h1, rfl⟩ := pure1 _ h
    refine OpRun.pure fun a w F μ hr he => ?_
    obtain ⟨v, r1, r2⟩ := run_fieldAddr hL h1 (he x)
    exact ⟨v, by simp [execOp, hop, r1], r2⟩
  case indexAddr t x i =>
    obtain ⟨h1, rfl⟩ := pure1 _ h
    refine OpRun.pure fun a w F μ hr he => ?_
    obtain ⟨v, r1, r2⟩ := run_indexAddr hL h1 (he x) (he i)
    exact ⟨v, by simp [execOp, hop, r1], r2⟩
  case load t x =>
    obtain ⟨h1, rfl⟩ := pure1 _ h
    refine OpRun.pure fun a w F μ hr he => ?_
    obtain ⟨v, r1, r2⟩ := run_load hL hr h1 (he x)
    exact ⟨v, by simp [execOp, hop, r1], r2⟩
  case store t p x =>
    intro a w F μ hr he
    simp only [sop0] at h
    cases hs : storeDV L st.ob t (ev st.env p) (ev st.env x) with
    | none => rw [hs] at h; cases h
    | some ob2 =>
      rw [hs] at h; cases h
      obtain ⟨w', r1, r2, r3, r4⟩ := run_storeDV hL hr hs (he p) (he x)
      exact ⟨.skip, w', μ, undef, by simp [execOp, hop, r1], .inr ⟨rfl, rfl⟩, r2, r3, r4, .undef⟩
  case alloc t =>
    simp only [sop0] at h
    split at h <;> try cases h
    rename_i ti ht
    split at h <;> try cases h
    rename_i hk
    exact OpRun.alloc hL hop ht hk
  case box t x =>
    simp only [sop0] at h
    split at h <;> try cases h
    rename_i hf
    exact OpRun.box hop hf
  case build t ps =>
    obtain ⟨h1, rfl⟩ := pure1 _ h
    refine OpRun.pure fun a w F μ hr he => ?_
    obtain ⟨v, r1, r2⟩ := run_buildDV hL h1 (all2_map he ps)
    exact ⟨v, by simp [execOp, hop, r1], r2⟩
  case buildSlice t n ps =>
    simp only [sop0] at h
    split at h <;> try cases h
    intro a w F μ hr he
    obtain ⟨v, w', μ', r1, r2, r3, r4, r5⟩ := run_buildSlice (P := P) hL hr h (all2_map he ps)
    exact ⟨.value v, w', μ', v, by simp [execOp, hop, r1], .inl rfl, r2, r3, r4, r5⟩
  case makeSlice t l c =>
    intro a w F μ hr he
    obtain ⟨v, w', μ', r1, r2, r3, r4, r5⟩ := run_makeSlice (P := P) hL hr h (he l) (he c)
    exact ⟨.value v, w', μ', v, by simp [execOp, hop, r1], .inl rfl, r2, r3, r4, r5⟩
  case slice t x lo hi mx =>
    cases mx with
    | some m => cases h
    | none =>
      obtain ⟨h1, rfl⟩ := pure1 _ h
      refine OpRun.pure fun a w F μ hr he => ?_
      obtain ⟨v, r1, r2⟩ := run_sliceDV (P := P) hL h1 (he x) (repO_map he lo) (repO_map he hi)
      exact ⟨v, by simp [execOp, hop, r1], r2⟩
  case makeFunc fn first caps =>
    cases fn <;> try (cases h; done)
    rename_i f
    simp only [sop0] at h
    split at h <;> try cases h
    rename_i hf
    refine OpRun.pure fun a w F μ hr he => ?_
    obtain ⟨hl, hh⟩ := repsL_map he caps.toList
    have hf0 : first.map a.eval = #[] := by
      apply Array.eq_empty_of_size_eq_zero; simpa using hf
    have hc : caps.map a.eval = ⟨caps.toList.map a.eval⟩ := by apply Array.ext'; simp
    refine ⟨.func (.func f) #[] ⟨caps.toList.map a.eval⟩, ?_, .fn hl hh⟩
    simp only [execOp, hop, Instr.makeFunc, hf0, hc, Sem.run_bind, Sem.run_pure, Result.andThen_ok]
  case makeInterface t x =>
    simp only [sop0] at h
    split at h <;> try cases h
    rename_i ti ht
    refine OpRun.pure fun a w F μ hr he => ⟨.iface t (a.eval x), ?_, .iface (he x)⟩
    obtain ⟨desc, hu, hd⟩ := (hL _ _ ht).und
    have : (Instr.makeInterface t (a.eval x)).run P w = .ok (.iface t (a.eval x)) w := by
      simp only [Instr.makeInterface, Sem.run_bind, run_underlying hu, Result.andThen_ok]
      cases hq : ti.d <;> rw [hq] at hd <;> simp only [DescOk] at hd <;> try (subst hd; rfl)
      · obtain ⟨f, rfl, _⟩ := hd; rfl
      · cases desc <;> first | rfl | (simp at hd)
    simp [execOp, hop, this]
  case nilCheck x =>
    simp only [sop0] at h
    split at h <;> try cases h
    all_goals
      rename_i hx
      refine OpRun.pure fun a w F μ hr he => ?_
      have h1 := he x
      rw [hx] at h1
      generalize hv : a.eval x = v at h1
      refine ⟨v, ?_, h1⟩
      cases h1
      simp [execOp, hop, hv]
  case call c =>
    obtain ⟨callee, args, ts⟩ := c
    cases callee <;> try (cases h; done)
    rename_i b
    simp only [sop0] at h
    intro a w F μ hr he
    have hreps := repsL_map he args.toList
    have hargs : args.map a.eval = ⟨args.toList.map a.eval⟩ := by apply Array.ext'; simp
    have fin : ∀ (v : Value) (w' : World), (∀ consts, (builtin b ts o.type consts ⟨args.toList.map a.eval⟩).run P w = .ok (.value v) w') → (execOp a.eval o).run P w = .ok (.value v) w' := by
      intro v w' hb
      simp only [execOp, hop, resolve, Sem.run_bind, Sem.run_pure, Result.andThen_ok, invoke, hargs]
      exact hb _
    cases b <;> try (cases h; done)
    case append =>
      simp only [bi] at h
      split at h <;> try cases h
      rename_i t t' d1 d2 hts hds
      obtain ⟨hl, hr2⟩ := hreps
      rw [hds] at hl hr2
      rcases hvs : args.toList.map a.eval with _ | ⟨v1, _ | ⟨v2, _ | ⟨v3, r⟩⟩⟩ <;> rw [hvs] at hl hr2 <;> simp at hl
      obtain ⟨v, w', μ', r1, r2, r3, r4, r5⟩ := run_appDV (P := P) hL hr h (hr2 0 d1 v1 rfl rfl) (hr2 1 d2 v2 rfl rfl) o.type
      refine ⟨.value v, w', μ', v, fin v w' (fun consts => ?_), .inl rfl, r2, r3, r4, r5⟩
      have : ts = #[t, t'] := by apply Array.ext'; simpa using hts
      subst this
      rw [hvs]
      simp only [builtin, Sem.run_bind, r1, Result.andThen_ok, Sem.run_pure]
    case len =>
      simp only [bi] at h
      split at h <;> try cases h
      rename_i t d1 hts hds
      obtain ⟨h1, rfl⟩ := pure1 _ h
      obtain ⟨hl, hr2⟩ := hreps
      rw [hds] at hl hr2
      rcases hvs : args.toList.map a.eval with _ | ⟨v1, _ | ⟨v2, r⟩⟩ <;> rw [hvs] at hl hr2 <;> simp at hl
      have : ts = #[t] := by apply Array.ext'; simpa using hts
      subst this
      obtain ⟨v, r1, r2⟩ := run_lenDV (P := P) hL h1 (hr2 0 d1 v1 rfl rfl) #[t] o.type rfl
      refine ⟨.value v, w, μ, v, fin v w (fun consts => ?_), .inl rfl, hr, Step.refl .., Fr.refl .., r2⟩
      rw [hvs]
      simp only [builtin, Sem.run_bind, r1, Result.andThen_ok, Sem.run_pure]
    case min =>
      obtain ⟨h1, rfl⟩ := pure1 _ h
      obtain ⟨v, r1, r2⟩ := run_minDV (P := P) h1 hreps ts o.type
      refine ⟨.value v, w, μ, v, fin v w (fun consts => ?_), .inl rfl, hr, Step.refl .., Fr.refl .., r2⟩
      simp only [builtin, Sem.run_bind, r1, Result.andThen_ok, Sem.run_pure]
    case max =>
      obtain ⟨h1, rfl⟩ := pure1 _ h
      obtain ⟨v, r1, r2⟩ := run_maxDV (P := P) h1 hreps ts o.type
      refine ⟨.value v, w, μ, v, fin v w (fun consts => ?_), .inl rfl, hr, Step.refl .., Fr.refl .., r2⟩
      simp only [builtin, Sem.run_bind, r1, Result.andThen_ok, Sem.run_pure]
/-- All operations that are known. -/
def sop (L : Lay) (st : St) (op : Op) : Option (DV × List Ob) :=
  match sop0 L st op with
  | some r => some r
  | none => mop L st op
theorem OpRun.of_sop {P : Program} {L : Lay} (hL : LayOk P L) {o : Oper} {st : St} {d : DV} {ob' : List Ob} (h : sop L st o.op = some (d, ob')) : OpRun P o st d ob' := by
  unfold sop at h
  split at h
  · rename_i r hr
    cases h
    exact OpRun.of_sop0 hL hr
  · exact OpRun.of_mop hL h
end Go.VL
end
