/- Proved: the card of CheckOwn: whatever octets come in, the call returns true and they read as they did; no condition beside those the row itself lists. This text is part 2 of 17. -/
import Derived.Test.YtjfcmanopkhdkaaGreatDoorW01
import Derived.IntWalk
import Derived.Laws.StructEq
section
namespace Go.VL
open Go

section
variable {w : World} {F : Nat → Nat → Prop} {μ : Nat → Option Nat} {σ : List Ob}

def moved (μ : Nat → Option Nat) (id b : Nat) : Nat → Option Nat := fun i => if i = id then some b else μ i
/-- An object that has grown lies in a new row. -/
theorem HR.move (hr : HR w F μ σ) {id t k : Nat} {xs ys : List DV} {cur : Array Value} (ho : σ[id]? = some (.arr t k xs)) (hl : xs.length < ys.length) (hk : ∀ y ∈ ys, y.cells.length = k)
    (hc : ∀ (j i : Nat) (y d : DV), ys[j]? = some y → y.cells[i]? = some d → ∃ v, cur[j * k + i]? = some v ∧ Rep w F μ σ d v) :
    HR (w.drew.alloc (.cells cur t)) F (moved μ id w.heap.size) (σ.set id (.arr t k ys)) ∧ Step w F μ σ (w.drew.alloc (.cells cur t)) F (moved μ id w.heap.size) (σ.set id (.arr t k ys)) ∧
      Fr w μ (w.drew.alloc (.cells cur t)) (moved μ id w.heap.size) := by
  have hidl := (List.getElem?_eq_some_iff.1 ho).1
  have hget : ∀ i, (w.drew.alloc (.cells cur t)).heap[i]? = if i = w.heap.size then some (.cells cur t) else w.heap[i]? := fun i => alloc_get w.drew _ i
  have hsize : (w.drew.alloc (.cells cur t)).heap.size = w.heap.size + 1 := alloc_size w.drew _
  have hmu : ∀ i q, moved μ id w.heap.size i = some q → (i = id ∧ q = w.heap.size) ∨ (i ≠ id ∧ μ i = some q) := by
    intro i q h
    simp only [moved] at h
    by_cases hi : i = id
    · rw [if_pos hi] at h; cases h; exact .inl ⟨hi, rfl⟩
    · rw [if_neg hi] at h; exact .inr ⟨hi, h⟩
  have hst : Step w F μ σ (w.drew.alloc (.cells cur t)) F (moved μ id w.heap.size) (σ.set id (.arr t k ys)) := by
    refine ⟨fun c q hF => ?_, fun _ _ h => h, fun i o h => ?_, fun i t' k' zs us h h' he => ?_, fun i tt es h => ?_⟩
    · rw [hget, if_neg]
      have := (hr.col c q hF).1
      omega
    · rw [set_get hidl]
      by_cases hi : id = i
      · subst hi
        rw [ho] at h; cases h
        exact ⟨_, by rw [if_pos rfl], ys, rfl, by omega⟩
      · exact ⟨o, by rw [if_neg hi]; exact h, Ob.ext_refl o⟩
    · rw [set_get hidl] at h'
      by_cases hi : id = i
      · subst hi
        rw [if_pos rfl] at h'
        rw [ho] at h
        cases h; cases h'
        omega
      · refine ⟨by simp only [moved]; rw [if_neg (fun e => hi e.symm)], fun q cu fr hm hq => ⟨cu, fr, ?_, rfl⟩⟩
        have := hr.lt i q hm
        rw [hget, if_neg (by omega)]; exact hq
    · simp only [moved]
      rw [if_neg]
      rintro rfl
      rw [ho] at h; cases h
  refine ⟨⟨fun i o h => ?_, fun i hi => ?_, fun i j q h1 h2 => ?_, fun i q h => ?_, fun c q h => ⟨?_, fun i hi => ?_⟩⟩, hst, ⟨rfl, rfl, rfl, by rw [hsize]; omega, fun q hq hm => ?_, fun i q h => ?_, Nat.le_succ _⟩⟩
  · rw [set_get hidl] at h
    by_cases hi : id = i
    · subst hi
      rw [if_pos rfl] at h
      cases h
      refine ⟨hk, .inr ⟨w.heap.size, cur, (0, 0), by simp [moved], by rw [hget, if_pos rfl], .zero _, fun j i y d hy hd => ?_⟩⟩
      obtain ⟨v, h1, h2⟩ := hc j i y d hy hd
      exact ⟨v, h1, h2.step hst⟩
    · rw [if_neg hi] at h
      have := hr.obj i o h
      have hg : moved μ id w.heap.size i = μ i := by simp only [moved]; rw [if_neg (fun e => hi e.symm)]
      cases o with
      | arr t' k' zs =>
        refine ⟨this.1, ?_⟩
        rcases this.2 with ⟨e1, e2⟩ | ⟨b', cu, fr', hb', hh', hfr', hcc⟩
        · exact .inl ⟨e1, by rw [hg]; exact e2⟩
        · refine .inr ⟨b', cu, fr', by rw [hg]; exact hb', ?_, hfr', fun j q x d hx hd => ?_⟩
          · have := hr.lt _ _ hb'
            rw [hget, if_neg (by omega)]; exact hh'
          · obtain ⟨v, h1, h2⟩ := hcc j q x d hx hd
            exact ⟨v, h1, h2.step hst⟩
      | oth t' ds =>
        refine this.keep hst h fun q hq => ?_
        have := hr.lt _ _ hq
        rw [hget, if_neg (by omega)]
      | dead => exact hg.trans this
  · simp at hi
    simp only [moved]
    rw [if_neg (by omega)]
    exact hr.out i hi
  · rcases hmu i q h1 with ⟨rfl, rfl⟩ | ⟨hi, h1'⟩
    · rcases hmu j _ h2 with ⟨rfl, _⟩ | ⟨hj, h2'⟩
      · rfl
      · have := hr.lt _ _ h2'; omega
    · rcases hmu j _ h2 with ⟨rfl, rfl⟩ | ⟨hj, h2'⟩
      · have := hr.lt _ _ h1'; omega
      · exact hr.inj _ _ _ h1' h2'
  · rcases hmu i q h with ⟨rfl, rfl⟩ | ⟨hi, h1'⟩
    · rw [hsize]; omega
    · have := hr.lt _ _ h1'
      rw [hsize]; omega
  · have := (hr.col c q h).1
    rw [hsize]; omega
  · rcases hmu i q hi with ⟨rfl, rfl⟩ | ⟨_, h1'⟩
    · have := (hr.col c _ h).1; omega
    · exact (hr.col c q h).2 i h1'
  · rw [hget, if_neg (by omega)]
  · rcases hmu i q h with ⟨rfl, rfl⟩ | ⟨_, h1'⟩
    · exact .inr (Nat.le_refl _)
    · exact .inl h1'

/-- An object without a row: a nil slice of one's own. -/
theorem HR.pushNil (hr : HR w F μ σ) (t k : Nat) : HR w F μ (σ ++ [.arr t k []]) ∧ Step w F μ σ w F μ (σ ++ [.arr t k []]) := by
  have hst : Step w F μ σ w F μ (σ ++ [.arr t k []]) := by
    refine ⟨fun _ _ _ => rfl, fun _ _ h => h, fun i o h => ⟨o, ?_, Ob.ext_refl o⟩, fun _ _ _ _ _ _ _ _ => ⟨rfl, fun q cu fr _ hq => ⟨cu, fr, hq, rfl⟩⟩, fun _ _ _ _ => rfl⟩
    have := (List.getElem?_eq_some_iff.1 h).1
    rw [push_get, if_neg (by omega)]; exact h
  refine ⟨⟨fun i o h => ?_, fun i hi => hr.out i (by simp at hi; omega), hr.inj, hr.lt, hr.col⟩, hst⟩
  rw [push_get] at h
  by_cases hi : i = σ.length
  · rw [if_pos hi] at h
    cases h
    subst hi
    exact ⟨by simp, .inl ⟨rfl, hr.out _ (Nat.le_refl _)⟩⟩
  · rw [if_neg hi] at h
    have := hr.obj i o h
    cases o with
    | arr t' k' zs =>
      refine ⟨this.1, this.2.imp id ?_⟩
      rintro ⟨b', cu, fr', hb', hh', hfr', hcc⟩
      refine ⟨b', cu, fr', hb', hh', hfr', fun j q x d hx hd => ?_⟩
      obtain ⟨v, h1, h2⟩ := hcc j q x d hx hd
      exact ⟨v, h1, h2.step hst⟩
    | oth t' ds => exact this.keep hst h fun q hq => rfl
    | dead => exact this
end

/-- What is appended: elements ys, their cells in news. -/
structure News (w : World) (F : Nat → Nat → Prop) (μ : Nat → Option Nat) (σ : List Ob) (k : Nat) (ys : List DV) (news : Array Value) : Prop where
  size : news.size = ys.length * k
  len : ∀ y ∈ ys, y.cells.length = k
  one : ∀ u ∈ news.toList, u.oneCell' = true
  rep : ∀ (j i : Nat) (y d : DV), ys[j]? = some y → y.cells[i]? = some d → ∃ v, news[j * k + i]? = some v ∧ Rep w F μ σ d v

theorem sized_append {k : Nat} {xs ys : List DV} (hx : ∀ y ∈ xs, y.cells.length = k) (hy : ∀ y ∈ ys, y.cells.length = k) : ∀ y ∈ xs ++ ys, y.cells.length = k := by
  intro y h
  rcases List.mem_append.1 h with h | h
  · exact hx y h
  · exact hy y h

/-- append's two ways, what is appended being known. -/
theorem append_core {P : Program} {w : World} {F : Nat → Nat → Prop} {μ : Nat → Option Nat} {σ : List Ob} (hr : HR w F μ σ) {id e k : Nat} {bytes : Nat} {xs ys : List DV} {A : Option Addr} {cap : Nat} {news : Array Value} {z : Value}
    (ho : σ[id]? = some (.arr e k xs)) (hs : SlOk w μ σ id xs.length 0 xs.length A cap) (hn : News w F μ σ k ys news) (hy0 : 0 < ys.length) (hb0 : 0 < bytes) (hb : (xs.length + ys.length) * bytes ≤ 140737488355328)
    (hzs : z.cells.size = k) (X : Sem (Array Value)) (hX : ∀ w' : World, w'.heap = w.heap → X.run P w' = .ok news w') (R : Nat → Sem Unit) (hR : ∀ (n : Nat) (w' : World), (R n).run P w' = .ok () w')
    (hold : ∀ w' : World, w'.heap = w.heap → ∃ old, (Builtin.firstCells k xs.length (.slice A xs.length cap)).run P w' = .ok old w' ∧ old.size = xs.length * k ∧
      ∀ (j i : Nat) (y d : DV), xs[j]? = some y → y.cells[i]? = some d → ∃ v, old[j * k + i]? = some v ∧ Rep w F μ σ d v) :
    ∃ A' cap' w' μ', (do
        if xs.length + ys.length ≤ cap then
          let new ← X
          if let some a := A then storeCells (a.add (xs.length * k)) new.toList
          pure (Value.slice A (xs.length + ys.length) cap)
        else
          let newCap ← choose (.appendCap (xs.length + ys.length) cap e)
          R newCap
          let old ← Builtin.firstCells k xs.length (.slice A xs.length cap)
          let new ← X
          let rest := Builtin.zeroCells z.cells (newCap - (xs.length + ys.length))
          pure (Value.slice (some (← newRow e (old ++ new ++ rest))) (xs.length + ys.length) newCap) : Sem Value).run P w = .ok (.slice A' (xs.length + ys.length) cap') w' ∧
      HR w' F μ' (σ.set id (.arr e k (xs ++ ys))) ∧ Step w F μ σ w' F μ' (σ.set id (.arr e k (xs ++ ys))) ∧ Fr w μ w' μ' ∧
      SlOk w' μ' (σ.set id (.arr e k (xs ++ ys))) id (xs ++ ys).length 0 (xs ++ ys).length A' cap' := by
  have hidl := (List.getElem?_eq_some_iff.1 ho).1
  obtain ⟨hxk, hor⟩ := hr.obj _ _ ho
  have hall := sized_append hxk hn.len
  have h47 : xs.length + ys.length ≤ 140737488355328 := Nat.le_trans (Nat.le_mul_of_pos_right _ hb0) hb
  by_cases hcap : xs.length + ys.length ≤ cap
  · -- in place
    obtain ⟨t1, k1, xs1, ho1, _, _, _, hm, hq⟩ := hs
    rw [ho] at ho1
    cases ho1
    rcases hq rfl with ⟨_, _, hc0, _⟩ | ⟨b, cur, fr, hmu, hh, hsz, hAs, hA⟩
    · omega
    · have hA' := hA (.inr rfl)
      subst hA'
      rcases hor with ⟨_, hmu'⟩ | ⟨b', cur', fr', hmu', hh', hfr', hcells⟩
      · rw [hmu] at hmu'; cases hmu'
      rw [hmu] at hmu'
      cases hmu'
      rw [hh] at hh'
      cases hh'
      simp only [Nat.zero_add, Nat.zero_mul] at hsz ⊢
      have hfit : 0 + xs.length * k + 0 + news.toList.length ≤ cur.size := by
        refine Nat.le_trans ?_ hsz
        simp only [Nat.zero_add, Nat.add_zero, Array.length_toList, hn.size, ← Nat.add_mul]
        exact Nat.mul_le_mul_right _ hcap
      have hwrite := hr.write (ys := xs ++ ys) (cur' := putC cur (0 + xs.length * k + 0) news.toList) ho hmu hh hfr' (putC_size _ _ _) (by simp) hall (fun j i y d hy hd => by
        have hyk := hall y (List.mem_of_getElem? hy)
        have hi : i < k := by rw [← hyk]; exact (List.getElem?_eq_some_iff.1 hd).1
        rw [putC_get _ _ _ _ hfit]
        simp only [Nat.zero_add, Nat.add_zero, Array.length_toList, hn.size]
        rcases Nat.lt_or_ge j xs.length with hj | hj
        · have : j * k + k ≤ xs.length * k := by rw [← Nat.succ_mul]; exact Nat.mul_le_mul_right _ hj
          rw [if_neg (by omega)]
          rw [List.getElem?_append_left hj] at hy
          exact hcells j i y d hy hd
        · rw [List.getElem?_append_right hj] at hy
          have hjl := (List.getElem?_eq_some_iff.1 hy).1
          have e1 : j * k = xs.length * k + (j - xs.length) * k := by rw [← Nat.add_mul]; congr 1; omega
          have e2 : (j - xs.length) * k + k ≤ ys.length * k := by rw [← Nat.succ_mul]; exact Nat.mul_le_mul_right _ hjl
          rw [if_pos (by omega)]
          obtain ⟨v, h1, h2⟩ := hn.rep (j - xs.length) i y d hy hd
          exact ⟨v, by rw [show j * k + i - xs.length * k = (j - xs.length) * k + i by omega]; simpa using h1, h2⟩)
      refine ⟨some ⟨b, 0, none⟩, cap, _, μ, ?_, hwrite.1, hwrite.2.1, hwrite.2.2, ?_⟩
      · rw [if_pos hcap]
        simp only [Sem.run_bind, hX w rfl, Result.andThen_ok, add_mk]
        have := run_storeCells (P := P) news.toList 0 w cur (p := 0 + xs.length * k) hh hfr' hfit (fun v hv => hn.one v hv)
        simp only [this, Result.andThen_ok, Sem.run_pure]
      · refine ⟨e, k, xs ++ ys, by simp [hidl], by omega, Nat.le_refl _, by simpa using hcap, hm, fun _ => .inr ⟨b, _, _, hmu, by rw [wset_get (Array.getElem?_eq_some_iff.1 hh).1, if_pos rfl], by rw [putC_size]; simpa using hsz, rfl, fun _ => by simp⟩⟩
  · -- a new row
    have hcap' : cap < xs.length + ys.length := by omega
    obtain ⟨old, hold1, hold2, hold3⟩ := hold w.drew rfl
    have hgc := grownCap_ge w (xs.length + ys.length) cap e
    have hgm := grownCap_le_maxLen w (xs.length + ys.length) cap e (by simp only [maxLen]; omega)
    generalize hN : grownCap w (xs.length + ys.length) cap e = N at hgc hgm
    have hmove := hr.move (ys := xs ++ ys) (cur := old ++ news ++ Builtin.zeroCells z.cells (N - (xs.length + ys.length))) ho (by simp; omega) hall (fun j i y d hy hd => by
        have hyk := hall y (List.mem_of_getElem? hy)
        have hi : i < k := by rw [← hyk]; exact (List.getElem?_eq_some_iff.1 hd).1
        rcases Nat.lt_or_ge j xs.length with hj | hj
        · have : j * k + k ≤ xs.length * k := by rw [← Nat.succ_mul]; exact Nat.mul_le_mul_right _ hj
          rw [Array.append_assoc, Array.getElem?_append_left (by omega)]
          rw [List.getElem?_append_left hj] at hy
          exact hold3 j i y d hy hd
        · rw [List.getElem?_append_right hj] at hy
          have hjl := (List.getElem?_eq_some_iff.1 hy).1
          have e1 : j * k = xs.length * k + (j - xs.length) * k := by rw [← Nat.add_mul]; congr 1; omega
          have e2 : (j - xs.length) * k + k ≤ ys.length * k := by rw [← Nat.succ_mul]; exact Nat.mul_le_mul_right _ hjl
          rw [Array.getElem?_append_left (by simp [hold2, hn.size]; omega), Array.getElem?_append_right (by omega)]
          obtain ⟨v, h1, h2⟩ := hn.rep (j - xs.length) i y d hy hd
          exact ⟨v, by rw [show j * k + i - old.size = (j - xs.length) * k + i by omega]; exact h1, h2⟩)
    refine ⟨some ⟨w.heap.size, 0, none⟩, N, _, _, ?_, hmove.1, hmove.2.1, hmove.2.2, ?_⟩
    · rw [if_neg hcap]
      have hch : (choose (.appendCap (xs.length + ys.length) cap e)).run P w = .ok N w.drew := by
        rw [← hN]
        rfl
      simp only [Sem.run_bind, hch, Result.andThen_ok, hR, hold1, hX w.drew rfl]
      rfl
    · refine ⟨e, k, xs ++ ys, by simp [hidl], by omega, Nat.le_refl _, by simp; omega, hgm, fun _ => .inr ⟨w.heap.size, _, (0, 0), by simp [moved], by rw [alloc_get]; exact if_pos rfl, Nat.le_of_eq ?_, rfl, fun _ => by simp⟩⟩
      simp only [Array.size_append, hold2, hn.size, Builtin.zeroCells, Array.size_map, Array.size_range, hzs, Nat.zero_add]
      rw [← Nat.add_mul, ← Nat.add_mul]
      congr 1; omega
end Go.VL
end
section
namespace Go.VL
open Go

/-- The elements of a slice that is read. -/
def srcDV (σ : List Ob) (k : Nat) (d : DV) : Option (List DV) :=
  match d with
  | .nils => some []
  | .emp => some []
  | .vec _ k' xs => if k' = k then some xs else none
  | .sl id g off len => match σ[id]? with
    | some (.arr _t0 k' xs) => if k' = k then (if g = xs.length then some ((xs.drop off).take len) else none) else none
    | _ => none
  | _ => none

section
variable {w : World} {F : Nat → Nat → Prop} {μ : Nat → Option Nat} {σ : List Ob}
theorem src_sound {P : Program} (hr : HR w F μ σ) {k : Nat} {d : DV} {v : Value} {ys : List DV} (h : srcDV σ k d = some ys) (hv : Rep w F μ σ d v) (h1 : ∀ y ∈ ys, ∀ c ∈ y.cells, c.one = true) :
    ∃ A cap news, v = .slice A ys.length cap ∧ News w F μ σ k ys news ∧ ∀ w' : World, w'.heap = w.heap → (Builtin.firstCells k ys.length v).run P w' = .ok news w' := by
  have mk : ∀ (a : Addr) (cap : Nat) (u : Nat → Nat → Value), (∀ y ∈ ys, y.cells.length = k) → (∀ j i, j < ys.length → i < k → w.cell? (a.add (j * k + i)) = some (u j i)) →
      (∀ (j i : Nat) (x d : DV), ys[j]? = some x → x.cells[i]? = some d → Rep w F μ σ d (u j i)) → v = .slice (some a) ys.length cap →
      ∃ A cap news, v = .slice A ys.length cap ∧ News w F μ σ k ys news ∧ ∀ w' : World, w'.heap = w.heap → (Builtin.firstCells k ys.length v).run P w' = .ok news w' := by
    rintro a cap u hk hcell hrep rfl
    have hdm : ∀ j i, i < k → (j * k + i) / k = j ∧ (j * k + i) % k = i := fun j i hi => by
      rw [Nat.mul_comm j k]
      exact ⟨by rw [Nat.mul_add_div (by omega), Nat.div_eq_of_lt hi]; omega, by rw [Nat.mul_add_mod, Nat.mod_eq_of_lt hi]⟩
    have hsplit : ∀ q, q < ys.length * k → q / k < ys.length ∧ q % k < k ∧ (q / k) * k + q % k = q := fun q hq => by
      have hk0 : 0 < k := by rcases Nat.eq_zero_or_pos k with h | h; · subst h; omega
                             · exact h
      exact ⟨(Nat.div_lt_iff_lt_mul hk0).2 hq, Nat.mod_lt _ hk0, by rw [Nat.mul_comm]; exact Nat.div_add_mod q k⟩
    refine ⟨some a, cap, ((List.range (ys.length * k)).map fun q => u (q / k) (q % k)).toArray, rfl, ⟨by simp, hk, fun x hx => ?_, fun j i y e hy he => ?_⟩, fun w' hw' => ?_⟩
    · simp only [List.mem_map, List.mem_range] at hx
      obtain ⟨q, hq, rfl⟩ := hx
      obtain ⟨q1, q2, q3⟩ := hsplit q hq
      have hy := List.getElem?_eq_getElem q1
      have hlen := hk _ (List.getElem_mem q1)
      have he := List.getElem?_eq_getElem (show q % k < ys[q / k].cells.length by omega)
      exact (rep_one (hrep _ _ _ _ hy he) (h1 _ (List.getElem_mem q1) _ (List.getElem_mem _))).2
    · have hj := (List.getElem?_eq_some_iff.1 hy).1
      have hi : i < k := by rw [← hk y (List.mem_of_getElem? hy)]; exact (List.getElem?_eq_some_iff.1 he).1
      obtain ⟨d1, d2⟩ := hdm j i hi
      have hlt : j * k + i < ys.length * k := by
        have : j * k + k ≤ ys.length * k := by rw [← Nat.succ_mul]; exact Nat.mul_le_mul_right _ hj
        omega
      exact ⟨u j i, by simp [hlt, d1, d2], hrep j i y e hy he⟩
    · simp only [Builtin.firstCells, loadCells]
      rw [run_loadCellsFrom (u := fun q => u (q / k) (q % k)) _ 0 #[] (fun q hq => by
        obtain ⟨q1, q2, q3⟩ := hsplit q hq
        have := hcell _ _ q1 q2
        rw [q3] at this
        rw [Nat.zero_add]
        unfold World.cell? at this ⊢
        rw [hw']; exact this)]
      simp
  have mk0 : ∀ (A : Option Addr) (cap : Nat), ys = [] → v = .slice A 0 cap → ∃ A cap news, v = .slice A ys.length cap ∧ News w F μ σ k ys news ∧ ∀ w' : World, w'.heap = w.heap → (Builtin.firstCells k ys.length v).run P w' = .ok news w' := by
    rintro A cap rfl rfl
    refine ⟨A, cap, #[], rfl, ⟨by simp, by simp, by simp, fun j i y d hy => by simp at hy⟩, fun w' _ => ?_⟩
    cases A with
    | none => rfl
    | some a => simp [Builtin.firstCells, loadCells, loadCellsFrom]
  unfold srcDV at h
  split at h <;> try cases h
  · cases hv; exact mk0 none 0 rfl rfl
  · cases hv; exact mk0 (some _) 0 rfl rfl
  · rename_i c k' xs
    by_cases hk : k' = k
    · rw [if_pos hk] at h
      cases h
      subst hk
      cases hv with
      | vec u hc hm ha hk hrep =>
        rcases Nat.eq_zero_or_pos ys.length with h0 | h0
        · exact mk0 _ _ (List.eq_nil_of_length_eq_zero h0) (by rw [h0])
        · obtain ⟨a, rfl, hF, hcell⟩ := ha h0
          exact mk a _ u hk hcell hrep rfl
    · rw [if_neg hk] at h; cases h
  · rename_i id g off len
    split at h <;> try cases h
    rename_i t0 k' xs ho
    by_cases hk : k' = k
    · rw [if_pos hk] at h
      by_cases hg : g = xs.length
      · rw [if_pos hg] at h
        cases h
        subst hk
        cases hv with
        | sl hs =>
          obtain ⟨t2, k2, xs2, ho2, h1', h2, h3, h4, h5⟩ := hs
          rw [ho] at ho2
          cases ho2
          have hlen : ((xs.drop off).take len).length = len := by simp; omega
          rcases Nat.eq_zero_or_pos len with h0 | h0
          · subst h0
            exact mk0 _ _ (by simp) rfl
          · rcases h5 hg with ⟨g0, _⟩ | ⟨b, cur, fr, hmu, hh, hsz, hAs, hA⟩
            · omega
            · have hA' := hA (.inl h0)
              subst hA'
              obtain ⟨hxk, hor⟩ := hr.obj _ _ ho
              rcases hor with ⟨he, _⟩ | ⟨b', cur', fr', hb', hh', hfr', hcells⟩
              · subst he; simp at hg; omega
              · rw [hmu] at hb'
                cases hb'
                rw [hh] at hh'
                cases hh'
                have hget : ∀ j x, ((xs.drop off).take len)[j]? = some x → j < len ∧ xs[off + j]? = some x := by
                  intro j x hj
                  have hjl := (List.getElem?_eq_some_iff.1 hj).1
                  rw [hlen] at hjl
                  rw [List.getElem?_take_of_lt hjl, List.getElem?_drop] at hj
                  exact ⟨hjl, hj⟩
                refine mk _ _ (fun j i => (cur[(off + j) * k' + i]?).getD undef) (fun y hy => ?_) (fun j i hj hi => ?_) (fun j i x e hx he => ?_) (by rw [hlen])
                · exact hxk y (List.mem_of_mem_drop (List.mem_of_mem_take hy))
                · rw [hlen] at hj
                  have hx : xs[off + j]? = some (xs[off + j]'(by omega)) := List.getElem?_eq_getElem (by omega)
                  have hxl := hxk _ (List.getElem_mem (show off + j < xs.length by omega))
                  obtain ⟨vv, hvv, _⟩ := hcells (off + j) i _ _ hx (List.getElem?_eq_getElem (show i < xs[off + j].cells.length by omega))
                  rw [add_mk]
                  rw [show off * k' + (j * k' + i) = (off + j) * k' + i by rw [Nat.add_mul]; omega]
                  simp only [World.cell?, hh]
                  simp [hvv]
                · obtain ⟨hj, hx'⟩ := hget j x hx
                  obtain ⟨vv, hvv, hrep⟩ := hcells (off + j) i x e hx' he
                  show Rep w F μ σ e ((cur[(off + j) * k' + i]?).getD undef)
                  rw [hvv]
                  exact hrep
      · rw [if_neg hg] at h; cases h
    · rw [if_neg hk] at h; cases h

theorem sl_first {P : Program} (hr : HR w F μ σ) {id e k : Nat} {xs : List DV} {A : Option Addr} {cap : Nat} (ho : σ[id]? = some (.arr e k xs)) (hs : SlOk w μ σ id xs.length 0 xs.length A cap) (w' : World) (hw : w'.heap = w.heap) :
    ∃ old, (Builtin.firstCells k xs.length (.slice A xs.length cap)).run P w' = .ok old w' ∧ old.size = xs.length * k ∧
      ∀ (j i : Nat) (y d : DV), xs[j]? = some y → y.cells[i]? = some d → ∃ v, old[j * k + i]? = some v ∧ Rep w F μ σ d v := by
  obtain ⟨t2, k2, xs2, ho2, h1', h2, h3, h4, h5⟩ := hs
  rw [ho] at ho2
  cases ho2
  rcases Nat.eq_zero_or_pos xs.length with h0 | h0
  · have : xs = [] := List.eq_nil_of_length_eq_zero h0
    subst this
    refine ⟨#[], ?_, by simp, fun j i y d hy => by simp at hy⟩
    cases A with
    | none => rfl
    | some a => simp [Builtin.firstCells, loadCells, loadCellsFrom]
  · rcases h5 rfl with ⟨g0, _⟩ | ⟨b, cur, fr, hmu, hh, hsz, hAs, hA⟩
    · omega
    · have hA' := hA (.inl h0)
      subst hA'
      obtain ⟨hxk, hor⟩ := hr.obj _ _ ho
      rcases hor with ⟨he, _⟩ | ⟨b', cur', fr', hb', hh', hfr', hcells⟩
      · subst he; simp at h0
      · rw [hmu] at hb'
        cases hb'
        rw [hh] at hh'
        cases hh'
        have hle : xs.length * k ≤ cur.size := Nat.le_trans (by rw [Nat.zero_add]; exact Nat.mul_le_mul_right _ h3) hsz
        refine ⟨((List.range (xs.length * k)).map fun q => (cur[q]?).getD undef).toArray, ?_, by simp, fun j i y d hy hd => ?_⟩
        · simp only [Builtin.firstCells, loadCells, Nat.zero_mul]
          rw [run_loadCellsFrom (u := fun q => (cur[q]?).getD undef) _ 0 #[] (fun q hq => by
            rw [add_mk]
            simp only [World.cell?, hw, hh, Nat.zero_add]
            simp [show q < cur.size by omega])]
          simp
        · obtain ⟨v, hv, hrep⟩ := hcells j i y d hy hd
          have hj := (List.getElem?_eq_some_iff.1 hy).1
          have hi : i < k := by rw [← hxk y (List.mem_of_getElem? hy)]; exact (List.getElem?_eq_some_iff.1 hd).1
          have : j * k + k ≤ xs.length * k := by rw [← Nat.succ_mul]; exact Nat.mul_le_mul_right _ hj
          exact ⟨v, by simp [show j * k + i < xs.length * k by omega, hv], hrep⟩
end

theorem set_self {α : Type} {l : List α} {i : Nat} {a : α} (h : l[i]? = some a) : l.set i a = l := by
  apply List.ext_getElem?
  intro j
  rw [set_get (List.getElem?_eq_some_iff.1 h).1]
  by_cases hj : i = j
  · subst hj; rw [if_pos rfl, h]
  · rw [if_neg hj]

/-- append(v, x...): v an object whole. -/
theorem run_append {P : Program} {L : Lay} (hL : LayOk P L) {w : World} {F : Nat → Nat → Prop} {μ : Nat → Option Nat} {σ : List Ob} (hr : HR w F μ σ) {t t' e : Nat} {ti ti' te : TI} (ht : L t = some ti) (hd : ti.d = .slice e) (hte : L e = some te)
    (ht' : L t' = some ti') {e' : Nat} (hd' : ti'.d = .slice e') (hb0 : 0 < te.bytes) {id : Nat} {xs ys : List DV} {A : Option Addr} {cap : Nat} (ho : σ[id]? = some (.arr e te.k xs)) (hs : SlOk w μ σ id xs.length 0 xs.length A cap)
    {d2 : DV} {v2 : Value} (h2 : srcDV σ te.k d2 = some ys) (hv2 : Rep w F μ σ d2 v2) (h1 : ∀ y ∈ ys, ∀ c ∈ y.cells, c.one = true) (hb : (xs.length + ys.length) * te.bytes ≤ 140737488355328) (ty : TypeId) :
    ∃ A' cap' w' μ', (Builtin.append_ #[t, t'] ty #[.slice A xs.length cap, v2]).run P w = .ok (.slice A' (xs.length + ys.length) cap') w' ∧
      HR w' F μ' (σ.set id (.arr e te.k (xs ++ ys))) ∧ Step w F μ σ w' F μ' (σ.set id (.arr e te.k (xs ++ ys))) ∧ Fr w μ w' μ' ∧
      SlOk w' μ' (σ.set id (.arr e te.k (xs ++ ys))) id (xs ++ ys).length 0 (xs ++ ys).length A' cap' := by
  obtain ⟨desc, hu, hdesc⟩ := (hL _ _ ht).und
  rw [hd] at hdesc
  cases hdesc
  obtain ⟨desc', hu', hdesc'⟩ := (hL _ _ ht').und
  rw [hd'] at hdesc'
  cases hdesc'
  obtain ⟨A2, cap2, news, rfl, hnews, hfirst⟩ := src_sound (P := P) hr h2 hv2 h1
  obtain ⟨z, hz, hzs, hzo⟩ := (hL _ _ hte).zero w
  have hsize := fun w => (hL _ _ hte).size w
  obtain ⟨it, z', i1, i2, i3, i4, i5, i6⟩ := (hL _ _ hte).info
  have hty : ∀ w, (typeInfo e).run P w = .ok it w := fun w => by simp [typeInfo, i1, program, Sem.run]
  have hzr : ∀ w, (zeroValue e).run P w = .ok z' w := fun w => by simp [zeroValue, hty, i4]
  rcases Nat.eq_zero_or_pos ys.length with hy | hy
  · -- nothing is appended
    have : ys = [] := List.eq_nil_of_length_eq_zero hy
    subst this
    have hs' := hs
    obtain ⟨t2, k2, xs2, ho2, _, _, hcap, _⟩ := hs'
    rw [ho] at ho2
    cases ho2
    refine ⟨A, cap, w, μ, ?_, ?_⟩
    · have hf0 : (Builtin.firstCells te.k 0 (.slice A2 0 cap2)).run P w = .ok #[] w := by
        cases A2 with
        | none => rfl
        | some a => simp [Builtin.firstCells, loadCells, loadCellsFrom]
      cases A <;> simp [Builtin.append_, run_underlying hu, run_underlying hu', hsize, Builtin.lenOf, hcap, hf0, storeCells]
    · simp only [List.append_nil]
      rw [set_self ho]
      exact ⟨hr, Step.refl .., Fr.refl .., hs⟩
  · obtain ⟨A', cap', w', μ', hrun, h⟩ := append_core (P := P) (z := z') (bytes := te.bytes) hr ho hs hnews hy hb0 hb i5 (Builtin.firstCells te.k ys.length (.slice A2 ys.length cap2)) (hfirst) (fun n => askRoom (n * it.bytes))
      (fun n w' => by unfold askRoom; split <;> rfl) (fun w' hw => sl_first hr ho hs w' hw)
    refine ⟨A', cap', w', μ', ?_, h⟩
    rw [← hrun]
    have hfit := growslice_fits (need := xs.length + ys.length) (old := cap) (bytes := it.bytes)
    rw [i3] at hfit
    by_cases hc : xs.length + ys.length ≤ cap
    · simp only [Builtin.append_, run_underlying hu, run_underlying hu', hsize, Builtin.lenOf, Sem.run_bind, Sem.run_pure, Result.andThen_ok, List.getElem?_toArray, List.getElem?_cons_zero, List.getElem?_cons_succ, Bool.false_eq_true, if_false, Bool.not_false, if_true, if_pos hc]
      rfl
    · have hf2 : ¬ (Builtin.nextslicecap (xs.length + ys.length) cap * it.bytes > 2 ^ 48) := by
        have := hfit (by omega) hb
        rw [i3]; exact Nat.not_lt.2 this
      have hbn : ¬ (it.bytes = 0) := by omega
      simp only [Builtin.append_, run_underlying hu, run_underlying hu', hsize, hty, hzr, Builtin.lenOf, Sem.run_bind, Sem.run_pure, Result.andThen_ok, List.getElem?_toArray, List.getElem?_cons_zero, List.getElem?_cons_succ, Bool.false_eq_true, if_false, Bool.not_false, if_true, if_neg hc, hbn, or_self, and_false, hf2]
end Go.VL
end
section
namespace Go.VL
open Go

/-! ### Slices cut -/
def bound (d : Option DV) (dflt max : Nat) : Option Nat :=
  match d with
  | none => some dflt
  | some (.int _ n) => if 0 ≤ n ∧ n ≤ (max : Int) then some n.toNat else none
  | some _ => none
def sliceDV (L : Lay) (σ : List Ob) (t : Nat) (d : DV) (lo hi : Option DV) : Option DV :=
  match L t with
  | some { d := .slice e, .. } => match L e with
    | some te => match d with
      | .vec c k xs => if te.k = k then (match bound hi xs.length xs.length with
          | some h => match bound lo 0 h with
            | some l => some (.vec c k ((xs.take h).drop l))
            | none => none
          | none => none) else none
      | .sl id g off len => match σ[id]? with
          | some (.arr _t0 k xs) => if te.k = k ∧ g = xs.length then (match bound hi len len with
            | some h => match bound lo 0 h with
              | some l => some (.sl id g (off + l) (h - l))
              | none => none
            | none => none) else none
          | _ => none
      | .nils => match bound hi 0 0 with
          | some h => match bound lo 0 h with
            | some _ => some .nils
            | none => none
          | none => none
      | _ => none
    | none => none
  | some { d := .str, .. } => match d with
    | .str s => match bound hi s.size s.size with
      | some h => match bound lo 0 h with
        | some l => some (.str (s.extract l h))
        | none => none
      | none => none
    | _ => none
  | _ => none

section
variable {P : Program} {w : World} {F : Nat → Nat → Prop} {μ : Nat → Option Nat} {σ : List Ob}
theorem run_sliceBound' {d : DV} {v : Value} (hv : Rep w F μ σ d v) {dflt max n : Nat} (h : bound (some d) dflt max = some n) {y : Nat} (hy : max ≤ y) (code : BoundsCode) :
    (Instr.sliceBound v y code).run P w = .ok n w ∧ n ≤ max := by
  cases d with
  | int k i =>
    simp only [bound] at h
    cases hv
    by_cases hi : 0 ≤ i ∧ i ≤ (max : Int)
    · rw [if_pos hi] at h
      cases h
      refine ⟨?_, by omega⟩
      simp only [Instr.sliceBound, Sem.run_bind, asIntOf, Sem.run_pure, Result.andThen_ok]
      rw [if_pos (by omega)]
      rfl
    · rw [if_neg hi] at h; cases h
  | _ => cases h
def RepO (w : World) (F : Nat → Nat → Prop) (μ : Nat → Option Nat) (σ : List Ob) (d : Option DV) (v : Option Value) : Prop :=
  (d = none ∧ v = none) ∨ ∃ d' v', d = some d' ∧ v = some v' ∧ Rep w F μ σ d' v'
theorem run_sliceBounds' {dlo dhi : Option DV} {vlo vhi : Option Value} (hlo : RepO w F μ σ dlo vlo) (hhi : RepO w F μ σ dhi vhi) {len cap l h : Nat} (hc : len ≤ cap) (h1 : bound dhi len len = some h) (h2 : bound dlo 0 h = some l) (b : Bool) :
    (Instr.sliceBounds b len cap vlo vhi none).run P w = .ok (l, h, cap) w ∧ l ≤ h ∧ h ≤ len := by
  have hh : h ≤ len ∧ ((match vhi with | some v => Instr.sliceBound v cap (if b then .sliceAcap else .sliceAlen) | none => pure len : Sem Nat)).run P w = .ok h w := by
    rcases hhi with ⟨rfl, rfl⟩ | ⟨d', v', rfl, rfl, hr⟩
    · simp only [bound, Option.some.injEq] at h1
      subst h1
      exact ⟨Nat.le_refl _, rfl⟩
    · have := run_sliceBound' (P := P) hr h1 hc (if b then .sliceAcap else .sliceAlen)
      exact ⟨this.2, this.1⟩
  have hl : l ≤ h ∧ ((match vlo with | some v => Instr.sliceBound v h .sliceB | none => pure 0 : Sem Nat)).run P w = .ok l w := by
    rcases hlo with ⟨rfl, rfl⟩ | ⟨d', v', rfl, rfl, hr⟩
    · simp only [bound, Option.some.injEq] at h2
      subst h2
      exact ⟨Nat.zero_le _, rfl⟩
    · have := run_sliceBound' (P := P) hr h2 (Nat.le_refl h) .sliceB
      exact ⟨this.2, this.1⟩
  refine ⟨?_, hl.1, hh.1⟩
  have e1 := hh.2
  have e2 := hl.2
  unfold Instr.sliceBounds
  cases vhi <;> cases vlo <;> simp_all [Sem.run_bind]

theorem run_sliceDV {L : Lay} (hL : LayOk P L) {t : Nat} {d d' : DV} {v : Value} {dlo dhi : Option DV} {vlo vhi : Option Value} (h : sliceDV L σ t d dlo dhi = some d') (hv : Rep w F μ σ d v) (hlo : RepO w F μ σ dlo vlo) (hhi : RepO w F μ σ dhi vhi) :
    ∃ v', (Instr.sliceAt t v vlo vhi none).run P w = .ok v' w ∧ Rep w F μ σ d' v' := by
  unfold sliceDV at h
  split at h <;> try cases h
  · rename_i k0 by0 e z ht
    obtain ⟨desc, hu, rfl⟩ := (hL _ _ ht).und
    split at h <;> try cases h
    rename_i te hte
    have hsz := (hL _ _ hte).size w
    have run : ∀ (A : Option Addr) (len cap l hh : Nat), len ≤ cap → bound dhi len len = some hh → bound dlo 0 hh = some l →
        (Instr.sliceAt t (.slice A len cap) vlo vhi none).run P w = .ok (.slice (if cap = l then A else A.map (·.add (l * te.k))) (hh - l) (cap - l)) w ∧ l ≤ hh ∧ hh ≤ len := by
      intro A len cap l hh hc h1 h2
      obtain ⟨h3, h4, h5⟩ := run_sliceBounds' (P := P) hlo hhi hc h1 h2 true
      refine ⟨?_, h4, h5⟩
      simp only [Instr.sliceAt, Sem.run_bind, run_underlying hu, Result.andThen_ok, Instr.slice, h3, hsz, Sem.run_pure]
    split at h <;> try cases h
    · rename_i c k xs
      by_cases hk : te.k = k
      · rw [if_pos hk] at h
        split at h <;> try cases h
        rename_i hi h1
        split at h <;> try cases h
        rename_i l h2
        cases hv with
        | @vec _ _ _ A cap u hc hm ha hkk hr =>
          obtain ⟨r1, r2, r3⟩ := run A xs.length cap l hi hc h1 h2
          refine ⟨_, r1, ?_⟩
          have hlen : ((xs.take hi).drop l).length = hi - l := by simp; omega
          have hget : ∀ j x, ((xs.take hi).drop l)[j]? = some x → l + j < hi ∧ xs[l + j]? = some x := by
            intro j x hj
            have hjl := (List.getElem?_eq_some_iff.1 hj).1
            rw [hlen] at hjl
            rw [List.getElem?_drop, List.getElem?_take_of_lt (by omega)] at hj
            exact ⟨by omega, hj⟩
          rw [← hlen]
          refine .vec (fun j i => u (l + j) i) (by rw [hlen]; omega) (by omega) (fun h0 => ?_) (fun x hx => hkk x (List.mem_of_mem_take (List.mem_of_mem_drop hx))) (fun j i x e hx he => hr (l + j) i x e (hget j x hx).2 he)
          rw [hlen] at h0 ⊢
          obtain ⟨a, rfl, hF, hcell⟩ := ha (by omega)
          rw [if_neg (by omega)]
          refine ⟨a.add (l * te.k), rfl, by rw [add_block]; exact hF, fun j i hj hi' => ?_⟩
          rw [add_add', hk, ← Nat.add_assoc, ← Nat.add_mul]
          exact hcell (l + j) i (by omega) hi'
      · rw [if_neg hk] at h; cases h
    · rename_i id g off len
      split at h <;> try cases h
      rename_i t0 k xs ho
      by_cases hk : te.k = k ∧ g = xs.length
      · rw [if_pos hk] at h
        split at h <;> try cases h
        rename_i hi h1
        split at h <;> try cases h
        rename_i l h2
        cases hv with
        | @sl _ _ _ _ A cap hs =>
          obtain ⟨t2, k2, xs2, ho2, g1, g2, g3, g4, g5⟩ := hs
          rw [ho] at ho2
          cases ho2
          obtain ⟨r1, r2, r3⟩ := run A len cap l hi g3 h1 h2
          refine ⟨_, r1, .sl ⟨t0, k, xs, ho, by omega, g2, by omega, by omega, fun hg => ?_⟩⟩
          rcases g5 hg with ⟨q1, rfl, q3, q4⟩ | ⟨b, cur, fr, q1, q2, q3, q5, q4⟩
          · refine .inl ⟨q1, ?_, by omega, q4⟩
            split <;> rfl
          · refine .inr ⟨b, cur, fr, q1, q2, Nat.le_trans (Nat.le_of_eq (by congr 1; omega)) q3, by split <;> simp [q5], fun hpos => ?_⟩
            have hA := q4 (by omega)
            subst hA
            by_cases hcl : cap = l
            · rw [if_pos hcl]
              have : l = 0 := by omega
              subst this
              simp
            · rw [if_neg hcl, hk.1]
              simp only [Option.map_some, add_mk, Nat.add_mul]
      · rw [if_neg hk] at h; cases h
    · cases hv
      split at h <;> try cases h
      rename_i hi h1
      split at h <;> try cases h
      rename_i l h2
      obtain ⟨r1, r2, r3⟩ := run none 0 0 l hi (Nat.le_refl _) h1 h2
      obtain rfl : hi = 0 := by omega
      obtain rfl : l = 0 := by omega
      exact ⟨_, r1, .nils⟩
  · rename_i k0 by0 z ht
    obtain ⟨desc, hu, rfl⟩ := (hL _ _ ht).und
    split at h <;> try cases h
    rename_i s
    cases hv
    split at h <;> try cases h
    rename_i hi h1
    split at h <;> try cases h
    rename_i l h2
    obtain ⟨h3, h4, h5⟩ := run_sliceBounds' (P := P) hlo hhi (Nat.le_refl s.size) h1 h2 false
    refine ⟨_, ?_, .str⟩
    simp only [Instr.sliceAt, Sem.run_bind, run_underlying hu, Result.andThen_ok, Instr.slice, h3, Sem.run_pure, Option.isSome_none, Bool.false_eq_true, if_false]
end
end Go.VL
end
section
namespace Go.VL
open Go

theorem mod_get {α : Type} [Inhabited α] (z : Array α) (k n : Nat) (hz : z.size = k) (j i : Nat) (hi : i < k) (hj : j < n) : ((Array.range (n * k)).map (fun q => z[q % z.size]!))[j * k + i]? = z[i]? := by
  have hlt : j * k + i < n * k := by
    have : j * k + k ≤ n * k := by rw [← Nat.succ_mul]; exact Nat.mul_le_mul_right _ hj
    omega
  rw [Array.getElem?_map, Array.getElem?_range]
  rw [if_pos hlt]
  simp only [Option.map_some]
  rw [hz, Nat.mul_comm j k, Nat.mul_add_mod, Nat.mod_eq_of_lt hi]
  rw [Array.getElem?_eq_getElem (by omega)]
  simp [show i < z.size by omega]

def msDV (L : Lay) (ob : List Ob) (t : Nat) (l c : DV) : Option (DV × List Ob) :=
  match L t with
  | some { d := .slice e, .. } => match L e with
    | some te => match l, c with
      | .int _ n, .int _ m => if 0 ≤ n ∧ n ≤ m ∧ (te.bytes : Int) * m ≤ 281474976710656 ∧ m ≤ 9223372036854775807 ∧ te.zero.cells.length = te.k ∧ 0 < te.k then
          some (.sl ob.length n.toNat 0 n.toNat, ob ++ [.arr e te.k (List.replicate n.toNat te.zero)]) else none
      | _, _ => none
    | none => none
  | _ => none
section
variable {P : Program} {w : World} {F : Nat → Nat → Prop} {μ : Nat → Option Nat} {σ : List Ob}
theorem run_makeSlice {L : Lay} (hL : LayOk P L) (hr : HR w F μ σ) {t : Nat} {l c d : DV} {vl vc : Value} {σ' : List Ob} (h : msDV L σ t l c = some (d, σ')) (hl : Rep w F μ σ l vl) (hc : Rep w F μ σ c vc) :
    ∃ v w' μ', (Instr.makeSlice t vl vc).run P w = .ok v w' ∧ HR w' F μ' σ' ∧ Step w F μ σ w' F μ' σ' ∧ Fr w μ w' μ' ∧ Rep w' F μ' σ' d v := by
  unfold msDV at h
  split at h <;> try cases h
  rename_i k0 by0 e z ht
  obtain ⟨desc, hu, rfl⟩ := (hL _ _ ht).und
  split at h <;> try cases h
  rename_i te hte
  split at h <;> try cases h
  rename_i kn n km m
  cases hl; cases hc
  by_cases hcond : 0 ≤ n ∧ n ≤ m ∧ (te.bytes : Int) * m ≤ 281474976710656 ∧ m ≤ 9223372036854775807 ∧ te.zero.cells.length = te.k ∧ 0 < te.k
  · rw [if_pos hcond] at h
    cases h
    obtain ⟨h0, h1, h2, h3, h4, h5⟩ := hcond
    obtain ⟨it, z', i1, i2, i3, i4, i5, i6⟩ := (hL _ _ hte).info
    have hrz : Rep w F μ σ te.zero z' := by rw [← i6]; exact rep_ofVal z'
    obtain ⟨N, rfl⟩ := Int.eq_ofNat_of_zero_le h0
    obtain ⟨M, rfl⟩ := Int.eq_ofNat_of_zero_le (show 0 ≤ m by omega)
    have wn : IntKind.i64.wrap (N : Int) = N := IntWalk.i64_in _ (by omega)
    have wm : IntKind.i64.wrap (M : Int) = M := IntWalk.i64_in _ (by omega)
    have hm0 : M * te.k = 0 → M = 0 := fun h => by
      rcases Nat.mul_eq_zero.1 h with h | h
      · exact h
      · omega
    obtain ⟨p1, p2, p3⟩ := hr.push (t := e) (k := te.k) (xs := List.replicate N te.zero) (cur := (Array.range (M * te.k)).map (fun q => (if M * te.k = 0 then #[] else z'.cells)[q % (if M * te.k = 0 then (#[] : Array Value) else z'.cells).size]!))
      (.zero _) (fun y hy => by rw [(List.mem_replicate.1 hy).2]; exact h4) (fun j i y d hy hd => by
        rw [List.getElem?_replicate] at hy
        by_cases hj : j < N
        · rw [if_pos hj] at hy
          cases hy
          have hi : i < te.k := by rw [← h4]; exact (List.getElem?_eq_some_iff.1 hd).1
          obtain ⟨u, hu1, hu2⟩ := rep_cells' hrz (by rw [i5, h4]) i d hd
          refine ⟨u, ?_, hu2⟩
          rw [if_neg (fun h => by have := hm0 h; omega)]
          rw [mod_get z'.cells te.k M i5 j i hi (by omega)]
          exact hu1
        · rw [if_neg hj] at hy; cases hy)
    simp only [Int.toNat_natCast]
    refine ⟨_, _, _, ?_, p1, p2, p3, .sl (A := some ⟨w.heap.size, 0, none⟩) (cap := M) ⟨e, te.k, List.replicate N te.zero, by simp, by omega, by simp, by omega, by simp only [maxLen]; omega, fun _ => .inr ⟨w.heap.size, _, (0, 0), by simp [grow], by rw [alloc_get]; exact if_pos rfl, by simp, rfl, fun _ => by simp⟩⟩⟩
    have hb : ¬ ((te.bytes : Int) * M > 2 ^ 48) := by omega
    have hzv : ∀ w, (zeroValue e).run P w = .ok z' w := fun w => by simp [zeroValue, typeInfo, i1, i4, program, Sem.run]
    have hti : ∀ w, (typeInfo e).run P w = .ok it w := fun w => by simp [typeInfo, i1, program, Sem.run]
    have hask : ∀ n w, (askRoom n).run P w = .ok () w := fun n w => by unfold askRoom; split <;> rfl
    have hno : ¬ ((((decide ((M : Int) < 0) || decide ((it.bytes : Int) * M > 2 ^ 48)) || decide ((N : Int) < 0)) || decide ((N : Int) > M)) = true) := by
      rw [i3]; simp; omega
    simp only [Instr.makeSlice, Sem.run_bind, run_underlying hu, Result.andThen_ok, asInt, asIntOf, Sem.run_pure, hti, wn, wm, Int.toNat_natCast]
    rw [if_neg hno]
    simp only [Sem.run_bind, hask, Result.andThen_ok, (hL _ _ hte).size]
    by_cases hz : M * te.k = 0
    · rw [if_pos hz]; simp only [hz, if_true]; rfl
    · rw [if_neg hz]
      simp only [if_neg hz, Sem.run_bind, hzv, Result.andThen_ok]
      rfl
  · rw [if_neg hcond] at h; cases h

/-- A slice written out. -/
def bsDV (L : Lay) (ob : List Ob) (t n : Nat) (parts : List (Nat × DV)) : Option (DV × List Ob) :=
  match L t with
  | some { d := .slice e, .. } => match L e with
    | some te => if parts.map (·.1) = List.range n ∧ (parts.all fun p => p.2.full && p.2.cells.length == te.k) = true ∧ n * te.k ≤ 16777216 ∧ n ≤ 16777216 ∧ te.zero.cells.length = te.k then
        some (.sl ob.length n 0 n, ob ++ [.arr e te.k (parts.map (·.2))]) else none
    | none => none
  | _ => none
theorem flat_get {k : Nat} : ∀ (ds : List DV) (_ : ∀ y ∈ ds, y.cells.length = k) (j i : Nat) (y : DV), ds[j]? = some y → i < k → (ds.flatMap DV.cells)[j * k + i]? = y.cells[i]?
  | [], _, j, i, y, h, _ => by simp at h
  | d :: ds, hk, 0, i, y, h, hi => by
    simp only [List.getElem?_cons_zero, Option.some.injEq] at h
    subst h
    simp only [List.flatMap_cons, Nat.zero_mul, Nat.zero_add]
    rw [List.getElem?_append_left (by rw [hk d (by simp)]; exact hi)]
  | d :: ds, hk, j + 1, i, y, h, hi => by
    simp only [List.getElem?_cons_succ] at h
    simp only [List.flatMap_cons]
    rw [List.getElem?_append_right (by rw [hk d (by simp), Nat.add_mul]; omega), hk d (by simp), show (j + 1) * k + i - k = j * k + i by rw [Nat.add_mul]; omega]
    exact flat_get ds (fun y hy => hk y (by simp [hy])) j i y h hi
theorem flat_length {k : Nat} : ∀ (ds : List DV) (_ : ∀ y ∈ ds, y.cells.length = k), (ds.flatMap DV.cells).length = ds.length * k
  | [], _ => by simp
  | d :: ds, hk => by
    simp only [List.flatMap_cons, List.length_append, List.length_cons]
    rw [flat_length ds (fun y hy => hk y (by simp [hy])), hk d (by simp), Nat.add_mul]; omega
theorem fill_flat {k : Nat} : ∀ (rest pre : List DV) (parts : List (Nat × DV)), (∀ y ∈ pre, y.cells.length = k) → (∀ y ∈ rest, y.cells.length = k ∧ y.full = true) → parts.map (·.1) = List.range' pre.length rest.length → parts.map (·.2) = rest →
    fillDV (fun i => some (i * k, k)) (pre.flatMap DV.cells ++ List.replicate (rest.length * k) .undef) parts = some ((pre ++ rest).flatMap DV.cells) := by
  intro rest
  induction rest with
  | nil =>
    intro pre parts _ _ _ h2
    have : parts = [] := by simpa using h2
    subst this
    simp [fillDV]
  | cons d rest ih =>
    intro pre parts hp hr h1 h2
    rcases parts with _ | ⟨⟨i, x⟩, parts⟩
    · simp at h2
    · simp only [List.map_cons, List.cons.injEq] at h2
      obtain ⟨rfl, h2⟩ := h2
      simp only [List.map_cons, List.length_cons, List.range'_succ, List.cons.injEq] at h1
      obtain ⟨rfl, h1⟩ := h1
      obtain ⟨hxk, hxf⟩ := hr x (by simp)
      simp only [fillDV]
      rw [if_pos ⟨hxf, hxk, by rw [List.length_append, flat_length pre hp, List.length_replicate, List.length_cons, Nat.add_mul]; omega⟩]
      have hs : splice (pre.flatMap DV.cells ++ List.replicate ((x :: rest).length * k) .undef) (pre.length * k) x.cells = (pre ++ [x]).flatMap DV.cells ++ List.replicate (rest.length * k) .undef := by
        unfold splice
        rw [← flat_length pre hp, List.take_left, List.drop_append, List.drop_of_length_le (by omega)]
        simp only [List.nil_append, List.drop_replicate, List.flatMap_append, List.flatMap_cons, List.flatMap_nil, List.append_nil, List.append_assoc, List.length_cons, hxk]
        congr 3
        rw [Nat.add_mul]; omega
      rw [hs]
      have hpx : ∀ y ∈ pre ++ [x], y.cells.length = k := fun y hy => (List.mem_append.1 hy).elim (hp y) (fun h => by rw [List.mem_singleton.1 h]; exact hxk)
      have := ih (pre ++ [x]) parts hpx (fun y hy => hr y (by simp [hy])) (by simpa using h1) h2
      rw [this]
      simp
theorem run_buildSlice {L : Lay} (hL : LayOk P L) (hr : HR w F μ σ) {t n : Nat} {parts : List (Nat × DV)} {us : Array (Nat × Value)} {d : DV} {σ' : List Ob} (h : bsDV L σ t n parts = some (d, σ'))
    (hp : All2 (fun p u => p.1 = u.1 ∧ Rep w F μ σ p.2 u.2) parts us.toList) :
    ∃ v w' μ', (Instr.buildSlice t n us).run P w = .ok v w' ∧ HR w' F μ' σ' ∧ Step w F μ σ w' F μ' σ' ∧ Fr w μ w' μ' ∧ Rep w' F μ' σ' d v := by
  unfold bsDV at h
  split at h <;> try cases h
  rename_i k0 by0 e z ht
  obtain ⟨desc, hu, rfl⟩ := (hL _ _ ht).und
  split at h <;> try cases h
  rename_i te hte
  by_cases hcond : parts.map (·.1) = List.range n ∧ (parts.all fun p => p.2.full && p.2.cells.length == te.k) = true ∧ n * te.k ≤ 16777216 ∧ n ≤ 16777216 ∧ te.zero.cells.length = te.k
  · rw [if_pos hcond] at h
    cases h
    obtain ⟨h1, h2, h3, h3', h4⟩ := hcond
    obtain ⟨it, z', i1, i2, i3, i4, i5, i6⟩ := (hL _ _ hte).info
    have hpl : parts.length = n := by have := congrArg List.length h1; simpa using this
    have hel : ∀ y ∈ parts.map (·.2), y.cells.length = te.k ∧ y.full = true := by
      intro y hy
      obtain ⟨p, hp1, rfl⟩ := List.mem_map.1 hy
      have := List.all_eq_true.1 h2 p hp1
      simp at this
      exact ⟨this.2, this.1⟩
    have hfl := fill_flat (k := te.k) (parts.map (·.2)) [] parts (by simp) hel (by simp [hpl, h1, List.range_eq_range']) rfl
    simp only [List.flatMap_nil, List.nil_append, List.length_map, hpl] at hfl
    have hrl : ∀ (vs : Array Value), vs.size = n * te.k → RL w F μ σ (List.replicate (n * te.k) .undef) vs := fun vs hvs => ⟨by simp [hvs], fun i d v hd _ => by
      have := List.mem_of_getElem? hd
      rw [(List.mem_replicate.1 this).2]; exact .undef⟩
    have hzv : ∀ w, (zeroValue e).run P w = .ok z' w := fun w => by simp [zeroValue, typeInfo, i1, i4, program, Sem.run]
    have key : ∀ zz : Array Value, ∃ cells, Instr.fill (fun i => some (i * te.k, te.k)) ((Array.range (n * te.k)).map (fun q => zz[q % zz.size]!)) us.toList = some cells ∧ RL w F μ σ ((parts.map (·.2)).flatMap DV.cells) cells := fun zz =>
      fill_sound parts us.toList _ _ _ (hrl _ (by simp)) hfl hp
    have fin : ∀ cells, RL w F μ σ ((parts.map (·.2)).flatMap DV.cells) cells → (Instr.buildSlice t n us).run P w = .ok (.slice (some ⟨w.heap.size, 0, none⟩) n n) (w.alloc (.cells cells e)) →
        ∃ v w' μ', (Instr.buildSlice t n us).run P w = .ok v w' ∧ HR w' F μ' (σ ++ [.arr e te.k (parts.map (·.2))]) ∧ Step w F μ σ w' F μ' (σ ++ [.arr e te.k (parts.map (·.2))]) ∧ Fr w μ w' μ' ∧ Rep w' F μ' (σ ++ [.arr e te.k (parts.map (·.2))]) (.sl σ.length n 0 n) v := by
      intro cells hc hrun
      have hlen : cells.size = n * te.k := by rw [← hc.1, flat_length _ (fun y hy => (hel y hy).1)]; simp [hpl]
      obtain ⟨p1, p2, p3⟩ := hr.push (t := e) (k := te.k) (xs := parts.map (·.2)) (cur := cells) (.zero _) (fun y hy => (hel y hy).1) (fun j i y d hy hd => by
        have hi : i < te.k := by rw [← (hel y (List.mem_of_getElem? hy)).1]; exact (List.getElem?_eq_some_iff.1 hd).1
        have hg := flat_get (k := te.k) _ (fun y hy => (hel y hy).1) j i y hy hi
        rw [hd] at hg
        have hlt := (List.getElem?_eq_some_iff.1 hg).1
        rw [hc.1] at hlt
        exact ⟨_, Array.getElem?_eq_getElem hlt, hc.2 _ d _ hg (Array.getElem?_eq_getElem hlt)⟩)
      exact ⟨_, _, _, hrun, p1, p2, p3, .sl ⟨e, te.k, parts.map (·.2), by simp, by omega, by simp [hpl], Nat.le_refl _, by
        simp only [maxLen]; omega, fun _ => .inr ⟨w.heap.size, cells, (0, 0), by simp [grow], by rw [alloc_get]; exact if_pos rfl, by simp [hlen], rfl, fun _ => by simp⟩⟩⟩
    by_cases hz : n * te.k = 0
    · obtain ⟨cells, hc1, hc2⟩ := key #[]
      refine fin cells hc2 ?_
      simp only [Instr.buildSlice, Sem.run_bind, run_underlying hu, Result.andThen_ok, (hL _ _ hte).size]
      rw [if_neg (by omega), if_pos hz]
      simp only [Sem.run_bind, Sem.run_pure, Result.andThen_ok, hc1]
      rfl
    · obtain ⟨cells, hc1, hc2⟩ := key z'.cells
      refine fin cells hc2 ?_
      simp only [Instr.buildSlice, Sem.run_bind, run_underlying hu, Result.andThen_ok, (hL _ _ hte).size]
      rw [if_neg (by omega), if_neg hz]
      simp only [Sem.run_bind, Sem.run_pure, Result.andThen_ok, hzv, hc1]
      rfl
  · rw [if_neg hcond] at h; cases h
end
end Go.VL
end
section
namespace Go.VL
open Go

def lenDV (L : Lay) (t : Nat) (d : DV) : Option DV :=
  match L t, d with
  | some { d := .slice _, .. }, .vec _ _ xs => some (.int .i64 xs.length)
  | some { d := .slice _, .. }, .sl _ _ _ len => some (.int .i64 len)
  | some { d := .slice _, .. }, .nils => some (.int .i64 0)
  | some { d := .slice _, .. }, .emp => some (.int .i64 0)
  | some { d := .str, .. }, .str s => some (.int .i64 s.size)
  | _, _ => none
def mn (a b : Int) : Int := if b < a then b else a
def mx (a b : Int) : Int := if b > a then b else a
def minDV : List DV → Option DV
  | [.int k a, .int _ b] => some (.int k (mn a b))
  | [.int k a, .int _ b, .int _ c] => some (.int k (mn (mn a b) c))
  | _ => none
def maxDV : List DV → Option DV
  | [.int k a, .int _ b] => some (.int k (mx a b))
  | [.int k a, .int _ b, .int _ c] => some (.int k (mx (mx a b) c))
  | _ => none
def appDV (L : Lay) (ob : List Ob) (t t' : Nat) (d1 d2 : DV) : Option (DV × List Ob) :=
  match L t, L t' with
  | some { d := .slice e, .. }, some { d := .slice _, .. } => match L e with
    | some te => match srcDV ob te.k d2 with
      | some ys => if 0 < te.bytes ∧ (ys.all fun y => y.cells.all DV.one) = true then match d1 with
          | .sl id g off len => match ob[id]? with
            | some (.arr e0 k xs) => if e0 = e ∧ k = te.k ∧ g = xs.length ∧ off = 0 ∧ len = xs.length ∧ (xs.length + ys.length) * te.bytes ≤ 140737488355328 then
                some (.sl id (xs.length + ys.length) 0 (xs.length + ys.length), ob.set id (.arr e k (xs ++ ys))) else none
            | _ => none
          | .nils => if ys.length * te.bytes ≤ 140737488355328 then some (.sl ob.length ys.length 0 ys.length, ob ++ [.arr e te.k ys]) else none
          | _ => none
        else none
      | none => none
    | none => none
  | _, _ => none
def convDV (L : Lay) (s t : Nat) (d : DV) : Option DV :=
  match L s, L t with
  | some _, some { d := .int k, .. } => match d with
    | .int _ n => some (.int k (k.wrap n))
    | _ => none
  | some _, some { d := .str, .. } => match d with
    | .str x => some (.str x)
    | _ => none
  | _, _ => none
def binDV (L : Lay) (op : BinOp) (t : Nat) (a b : DV) : Option DV :=
  match a, b with
  | .int k x, .int k' y => match op with
    | .shl => shiftInt .shl k x y
    | .shr => shiftInt .shr k x y
    | op => if k = k' then binInt op k x y else none
  | .str x, .str y => binStr op x y
  | .bool x, .bool y => match L t, op with
    | some { d := .bool, .. }, .eql => some (.bool (x == y))
    | some { d := .bool, .. }, .neq => some (.bool (!(x == y)))
    | _, _ => none
  | _, _ => none

section
variable {P : Program} {L : Lay} {w : World} {F : Nat → Nat → Prop} {μ : Nat → Option Nat} {σ : List Ob}
theorem run_binDV (hL : LayOk P L) {op : BinOp} {t : Nat} {a b d : DV} {va vb : Value} (h : binDV L op t a b = some d) (ha : Rep w F μ σ a va) (hb : Rep w F μ σ b vb) (x y : Operand) :
    ∃ v, (do eqGuard op t x y va vb; binOp op t va vb : Sem Value).run P w = .ok v w ∧ Rep w F μ σ d v := by
  have gi : ∀ k k' n n', (eqGuard op t x y (.int k n) (.int k' n')).run P w = .ok () w := by intro k k' n n'; unfold eqGuard; cases op <;> rfl
  have gs : ∀ a b, (eqGuard op t x y (.string a) (.string b)).run P w = .ok () w := by intro a b; unfold eqGuard; cases op <;> rfl
  have gb : ∀ a b, (eqGuard op t x y (.bool a) (.bool b)).run P w = .ok () w := by intro a b; unfold eqGuard; cases op <;> rfl
  unfold binDV at h
  split at h
  · rename_i k x' k' y'
    cases ha; cases hb
    have hg := gi k k' x' y'
    split at h
    · obtain ⟨h1, h2⟩ := run_shiftInt (P := P) (k' := k') h t w
      exact ⟨_, by simp only [Sem.run_bind, hg, Result.andThen_ok, h1], rep_toVal h2⟩
    · obtain ⟨h1, h2⟩ := run_shiftInt (P := P) (k' := k') h t w
      exact ⟨_, by simp only [Sem.run_bind, hg, Result.andThen_ok, h1], rep_toVal h2⟩
    · by_cases hk : k = k'
      · rw [if_pos hk] at h
        subst hk
        obtain ⟨h1, h2⟩ := run_binInt (P := P) h t w
        exact ⟨_, by simp only [Sem.run_bind, hg, Result.andThen_ok, h1], rep_toVal h2⟩
      · rw [if_neg hk] at h; cases h
  · rename_i x' y'
    cases ha; cases hb
    have hg := gs x' y'
    obtain ⟨h1, h2⟩ := run_binStr (P := P) h t w
    exact ⟨_, by simp only [Sem.run_bind, hg, Result.andThen_ok, h1], rep_toVal h2⟩
  · rename_i x' y'
    cases ha; cases hb
    have hg := gb x' y'
    have he : ∀ q k by0 z, L t = some ⟨q, k, by0, .bool, z⟩ → (Op.equal t (.bool x') (.bool y')).run P w = .ok (x' == y') w := by
      intro q k by0 z ht
      obtain ⟨desc, hu, rfl⟩ := (hL _ _ ht).und
      have key : ∀ n, (Op.equalIn (n + 1) t (.bool x') (.bool y')).run P w = .ok (x' == y') w := fun n => by
        simp only [Op.equalIn, Sem.run_bind, run_underlying hu, Result.andThen_ok, Sem.run_pure]
      exact key 9999
    split at h <;> try cases h
    · rename_i ht
      exact ⟨.bool (x' == y'), by simp only [Sem.run_bind, hg, Result.andThen_ok, binOp, he _ _ _ _ ht, Sem.run_pure], .bool⟩
    · rename_i ht
      exact ⟨.bool (!(x' == y')), by simp only [Sem.run_bind, hg, Result.andThen_ok, binOp, he _ _ _ _ ht, Sem.run_pure], .bool⟩
  · cases h
theorem run_lenDV (hL : LayOk P L) {t : Nat} {d d' : DV} {v : Value} (h : lenDV L t d = some d') (hv : Rep w F μ σ d v) (ts : Array TypeId) (ty : TypeId) (hts : ts[0]? = some t) :
    ∃ v', (Builtin.len_ ts ty #[v]).run P w = .ok v' w ∧ Rep w F μ σ d' v' := by
  unfold lenDV at h
  split at h <;> try cases h
  all_goals
    rename_i ht
    obtain ⟨desc, hu, rfl⟩ := (hL _ _ ht).und
    cases hv
    exact ⟨_, by simp [Builtin.len_, hts, run_underlying hu, goInt], .int⟩
theorem run_convDV (hL : LayOk P L) {s t : Nat} {d d' : DV} {v : Value} (h : convDV L s t d = some d') (hv : Rep w F μ σ d v) :
    ∃ v', (convert s t v).run P w = .ok v' w ∧ Rep w F μ σ d' v' := by
  unfold convDV at h
  split at h <;> try cases h
  · rename_i ti k0 by0 k z hs ht
    obtain ⟨ds, hus, _⟩ := (hL _ _ hs).und
    obtain ⟨desc, hu, rfl⟩ := (hL _ _ ht).und
    split at h <;> try cases h
    cases hv
    exact ⟨_, by simp [convert, run_underlying hu, run_underlying hus, Conv.intToInt], .int⟩
  · rename_i ti k0 by0 z hs ht
    obtain ⟨ds, hus, _⟩ := (hL _ _ hs).und
    obtain ⟨desc, hu, rfl⟩ := (hL _ _ ht).und
    split at h <;> try cases h
    cases hv
    exact ⟨_, by simp [convert, run_underlying hu, run_underlying hus], .str⟩
theorem run_minDV {ds : List DV} {vs : List Value} {d : DV} (h : minDV ds = some d) (hr : Reps w F μ σ ds vs) (ts : Array TypeId) (ty : TypeId) :
    ∃ v, (Builtin.min_ ts ty ⟨vs⟩).run P w = .ok v w ∧ Rep w F μ σ d v := by
  obtain ⟨hl, hr⟩ := hr
  unfold minDV at h
  split at h <;> try cases h
  · rcases vs with _ | ⟨v0, _ | ⟨v1, _ | ⟨v2, r⟩⟩⟩ <;> simp at hl
    have h0 := hr 0 _ v0 rfl rfl
    have h1 := hr 1 _ v1 rfl rfl
    cases h0; cases h1
    exact ⟨_, by simp [Builtin.min_, Builtin.min2, mn], .int⟩
  · rcases vs with _ | ⟨v0, _ | ⟨v1, _ | ⟨v2, _ | ⟨v3, r⟩⟩⟩⟩ <;> simp at hl
    have h0 := hr 0 _ v0 rfl rfl
    have h1 := hr 1 _ v1 rfl rfl
    have h2 := hr 2 _ v2 rfl rfl
    cases h0; cases h1; cases h2
    exact ⟨_, by simp [Builtin.min_, Builtin.min2, mn]; rfl, .int⟩
theorem run_maxDV {ds : List DV} {vs : List Value} {d : DV} (h : maxDV ds = some d) (hr : Reps w F μ σ ds vs) (ts : Array TypeId) (ty : TypeId) :
    ∃ v, (Builtin.max_ ts ty ⟨vs⟩).run P w = .ok v w ∧ Rep w F μ σ d v := by
  obtain ⟨hl, hr⟩ := hr
  unfold maxDV at h
  split at h <;> try cases h
  · rcases vs with _ | ⟨v0, _ | ⟨v1, _ | ⟨v2, r⟩⟩⟩ <;> simp at hl
    have h0 := hr 0 _ v0 rfl rfl
    have h1 := hr 1 _ v1 rfl rfl
    cases h0; cases h1
    exact ⟨_, by simp [Builtin.max_, Builtin.max2, mx], .int⟩
  · rcases vs with _ | ⟨v0, _ | ⟨v1, _ | ⟨v2, _ | ⟨v3, r⟩⟩⟩⟩ <;> simp at hl
    have h0 := hr 0 _ v0 rfl rfl
    have h1 := hr 1 _ v1 rfl rfl
    have h2 := hr 2 _ v2 rfl rfl
    cases h0; cases h1; cases h2
    exact ⟨_, by simp [Builtin.max_, Builtin.max2, mx], .int⟩
theorem run_appDV (hL : LayOk P L) (hr : HR w F μ σ) {t t' : Nat} {d1 d2 d : DV} {v1 v2 : Value} {σ' : List Ob} (h : appDV L σ t t' d1 d2 = some (d, σ')) (h1 : Rep w F μ σ d1 v1) (h2 : Rep w F μ σ d2 v2) (ty : TypeId) :
    ∃ v w' μ', (Builtin.append_ #[t, t'] ty #[v1, v2]).run P w = .ok v w' ∧ HR w' F μ' σ' ∧ Step w F μ σ w' F μ' σ' ∧ Fr w μ w' μ' ∧ Rep w' F μ' σ' d v := by
  unfold appDV at h
  split at h <;> try cases h
  rename_i k0 by0 e z q1 k1 by1 e1 z1 ht ht'
  split at h <;> try cases h
  rename_i te hte
  split at h <;> try cases h
  rename_i ys hys
  split at h <;> try cases h
  rename_i hcond
  obtain ⟨hb0, hone⟩ := hcond
  have hone' : ∀ y ∈ ys, ∀ c ∈ y.cells, c.one = true := fun y hy c hc => List.all_eq_true.1 (List.all_eq_true.1 hone y hy) c hc
  split at h <;> try cases h
  · rename_i id g off len
    split at h <;> try cases h
    rename_i e0 k xs ho
    split at h <;> try cases h
    rename_i hc
    obtain ⟨rfl, rfl, rfl, rfl, rfl, hb⟩ := hc
    cases h1 with
    | sl hs =>
      obtain ⟨A', cap', w', μ', r1, r2, r3, r4, r5⟩ := run_append hL hr ht rfl hte ht' rfl hb0 ho hs hys h2 hone' hb ty
      refine ⟨_, w', μ', r1, r2, r3, r4, ?_⟩
      rw [List.length_append] at r5
      exact .sl r5
  · split at h <;> try cases h
    rename_i hb
    cases h1
    obtain ⟨q1, q2⟩ := hr.pushNil e te.k
    have hs : SlOk w μ (σ ++ [.arr e te.k []]) σ.length 0 0 0 none 0 := ⟨e, te.k, [], by simp, by omega, by simp, by omega, by simp [maxLen], fun _ => .inl ⟨rfl, rfl, rfl, hr.out _ (Nat.le_refl _)⟩⟩
    have hsrc : srcDV (σ ++ [.arr e te.k []]) te.k d2 = some ys := by
      unfold srcDV at hys ⊢
      cases d2 <;> first | exact hys | skip
      rename_i id g off len
      dsimp only at hys ⊢
      cases ho : σ[id]? with
      | none => rw [ho] at hys; cases hys
      | some o =>
        rw [ho] at hys
        rw [push_get, if_neg (by have := (List.getElem?_eq_some_iff.1 ho).1; omega), ho]
        exact hys
    obtain ⟨A', cap', w', μ', r1, r2, r3, r4, r5⟩ := run_append hL q1 ht rfl hte ht' rfl hb0 (id := σ.length) (xs := []) (by simp) (by simpa using hs) hsrc (h2.step q2) hone' (by simpa using hb) ty
    simp only [List.length_nil, Nat.zero_add, List.nil_append] at r1 r2 r3 r4 r5
    have hset : (σ ++ [Ob.arr e te.k []]).set σ.length (.arr e te.k ys) = σ ++ [.arr e te.k ys] := by
      rw [List.set_append]
      simp
    rw [hset] at r2 r3 r5
    exact ⟨_, w', μ', r1, r2, q2.trans r3, r4, .sl r5⟩
end

def bi (L : Lay) (ob : List Ob) (b : Builtin) (ts : List Nat) (ds : List DV) : Option (DV × List Ob) :=
  match b with
  | .len => match ts, ds with
    | [t], [d] => (lenDV L t d).map fun x => (x, ob)
    | _, _ => none
  | .min => (minDV ds).map fun x => (x, ob)
  | .max => (maxDV ds).map fun x => (x, ob)
  | .append => match ts, ds with
    | [t, t'], [d1, d2] => appDV L ob t t' d1 d2
    | _, _ => none
  | _ => none
end Go.VL
end
section
namespace Go.VL
open Go

section
variable {P : Program} {L : Lay} {w : World} {F : Nat → Nat → Prop} {μ : Nat → Option Nat} {σ : List Ob}

/-! ### A text's octet; a slice cut with a bound on what may grow -/
def indexDV (L : Lay) (t : Nat) (d i : DV) : Option DV :=
  match i with
  | .int _ n => match L t, d with
    | some { d := .str, .. }, .str s => if 0 ≤ n then (match s.data[n.toNat]? with
        | some b => some (.int .u8 b.toNat)
        | none => none) else none
    | some { d := .array m e, .. }, .agg cs => match L e with
      | some te => if 0 ≤ n ∧ n < (m : Int) then (if te.d.isAgg then none else cs[n.toNat * te.k]?) else none
      | none => none
    | _, _ => none
  | _ => none
theorem run_indexDV (hL : LayOk P L) {t : Nat} {d i d' : DV} {v vi : Value} (h : indexDV L t d i = some d') (hv : Rep w F μ σ d v) (hi : Rep w F μ σ i vi) :
    ∃ v', (Instr.index t v vi).run P w = .ok v' w ∧ Rep w F μ σ d' v' := by
  unfold indexDV at h
  split at h <;> try cases h
  rename_i kk n
  cases hi
  split at h <;> try cases h
  · rename_i k0 by0 z s ht
    obtain ⟨desc, hu, rfl⟩ := (hL _ _ ht).und
    cases hv
    by_cases hn : 0 ≤ n
    · rw [if_pos hn] at h
      split at h <;> try cases h
      rename_i b hb
      refine ⟨.int .u8 b.toNat, ?_, .int⟩
      have hb' : (s[n.toNat]? : Option UInt8) = some b := by
        obtain ⟨h1, h2⟩ := Array.getElem?_eq_some_iff.1 hb
        have h1' : n.toNat < s.size := h1
        rw [getElem?_pos s n.toNat h1']
        exact congrArg some h2
      simp only [Instr.index, Sem.run_bind, asIntOf, Sem.run_pure, Result.andThen_ok, run_underlying hu, if_pos hn, hb']
    · rw [if_neg hn] at h; cases h
  · rename_i k0 by0 m e z cs ht
    obtain ⟨desc, hu, rfl⟩ := (hL _ _ ht).und
    split at h <;> try cases h
    rename_i te hte
    by_cases hn : 0 ≤ n ∧ n < (m : Int)
    · rw [if_pos hn] at h
      by_cases ha : te.d.isAgg = true
      · rw [if_pos ha] at h; cases h
      · rw [if_neg ha] at h
        cases hv with
        | @agg _ vs hl hh =>
          have hlt := (List.getElem?_eq_some_iff.1 h).1
          have hv' : vs[n.toNat * te.k]? = some (vs[n.toNat * te.k]'(by omega)) := List.getElem?_eq_getElem _
          refine ⟨_, ?_, hh _ _ _ h hv'⟩
          have hagg := (hL _ _ hte).isAgg w
          rw [Bool.not_eq_true] at ha
          rw [ha] at hagg
          simp only [Instr.index, Sem.run_bind, asIntOf, Sem.run_pure, Result.andThen_ok, run_underlying hu, if_pos hn, (hL _ _ hte).size, part, hagg, Bool.false_eq_true, if_false, List.getElem?_toArray, hv']
    · rw [if_neg hn] at h; cases h

def slice3DV (L : Lay) (σ : List Ob) (t : Nat) (d : DV) (lo hi : Option DV) (mx : DV) : Option DV :=
  match L t with
  | some { d := .slice e, .. } => match L e with
    | some te => match d with
      | .vec c k xs => if te.k = k then (match bound (some mx) 0 xs.length with
          | some m => match bound hi m m with
            | some h => match bound lo 0 h with
              | some l => some (.vec c k ((xs.take h).drop l))
              | none => none
            | none => none
          | none => none) else none
      | .sl id g off len => match σ[id]? with
        | some (.arr _t0 k xs) => if te.k = k ∧ g = xs.length then (match bound (some mx) 0 len with
          | some m => match bound hi m m with
            | some h => match bound lo 0 h with
              | some l => some (.sl id g (off + l) (h - l))
              | none => none
            | none => none
          | none => none) else none
        | _ => none
      | _ => none
    | none => none
  | _ => none
theorem run_sliceBounds3 {dlo dhi : Option DV} {dmx : DV} {vlo vhi : Option Value} {vmx : Value} (hlo : RepO w F μ σ dlo vlo) (hhi : RepO w F μ σ dhi vhi) (hhs : dhi.isSome = true) (hmx : Rep w F μ σ dmx vmx) {len cap l h m : Nat} (hc : len ≤ cap)
    (h0 : bound (some dmx) 0 len = some m) (h1 : bound dhi m m = some h) (h2 : bound dlo 0 h = some l) :
    (Instr.sliceBounds true len cap vlo vhi (some vmx)).run P w = .ok (l, h, m) w ∧ l ≤ h ∧ h ≤ m ∧ m ≤ len := by
  have hm := run_sliceBound' (P := P) hmx h0 hc .slice3Acap
  rcases hhi with ⟨rfl, rfl⟩ | ⟨d', v', rfl, rfl, hr⟩
  · cases hhs
  · have hh := run_sliceBound' (P := P) hr h1 (Nat.le_refl _) .slice3B
    rcases hlo with ⟨rfl, rfl⟩ | ⟨d2, v2, rfl, rfl, hr2⟩
    · simp only [bound, Option.some.injEq] at h2
      subst h2
      refine ⟨?_, Nat.zero_le _, hh.2, hm.2⟩
      simp [Instr.sliceBounds, hm.1, hh.1]
    · have hl := run_sliceBound' (P := P) hr2 h2 (Nat.le_refl _) .slice3C
      refine ⟨?_, hl.2, hh.2, hm.2⟩
      simp [Instr.sliceBounds, hm.1, hh.1, hl.1]
theorem run_slice3DV (hL : LayOk P L) {t : Nat} {d d' : DV} {v : Value} {lo hi : Option DV} {mx : DV} {vlo vhi : Option Value} {vmx : Value} (h : slice3DV L σ t d lo hi mx = some d') (hv : Rep w F μ σ d v) (hlo : RepO w F μ σ lo vlo) (hhi : RepO w F μ σ hi vhi) (hhs : hi.isSome = true)
    (hmx : Rep w F μ σ mx vmx) : ∃ v', (Instr.sliceAt t v vlo vhi (some vmx)).run P w = .ok v' w ∧ Rep w F μ σ d' v' := by
  unfold slice3DV at h
  split at h <;> try cases h
  rename_i k0 by0 e z ht
  obtain ⟨desc, hu, rfl⟩ := (hL _ _ ht).und
  split at h <;> try cases h
  rename_i te hte
  have hsz := (hL _ _ hte).size w
  split at h <;> try cases h
  · rename_i c k xs
    by_cases hk : te.k = k
    · rw [if_pos hk] at h
      split at h <;> try cases h
      rename_i m h0
      split at h <;> try cases h
      rename_i hi' h1
      split at h <;> try cases h
      rename_i l h2
      cases hv with
      | @vec _ _ _ A cap u hc hm ha hkk hr =>
        obtain ⟨r1, r2, r3, r4⟩ := run_sliceBounds3 (P := P) hlo hhi hhs hmx hc h0 h1 h2
        refine ⟨.slice (if m = l then A else A.map (·.add (l * te.k))) (hi' - l) (m - l), ?_, ?_⟩
        · simp only [Instr.sliceAt, Sem.run_bind, run_underlying hu, Result.andThen_ok, Instr.slice, r1, hsz, Sem.run_pure]
        · have hlen : ((xs.take hi').drop l).length = hi' - l := by simp; omega
          have := Rep.vec (w := w) (F := F) (μ := μ) (σ := σ) (c := c) (k := k) (xs := (xs.take hi').drop l) (A := if m = l then A else A.map (·.add (l * te.k))) (cap := m - l) (fun j i => u (l + j) i) (by rw [hlen]; omega) (by omega) (fun h0' => ?_) (fun x hx => hkk x (List.mem_of_mem_take (List.mem_of_mem_drop hx))) (fun j i x d hx hd => ?_)
          · rw [hlen] at this; exact this
          · rw [hlen] at h0'
            obtain ⟨a, rfl, hF, hcell⟩ := ha (by omega)
            rw [if_neg (by omega)]
            refine ⟨_, rfl, by rw [add_block]; exact hF, fun j i hj hi => ?_⟩
            rw [hlen] at hj
            rw [add_add', hk, ← Nat.add_assoc, ← Nat.add_mul]
            exact hcell (l + j) i (by omega) hi
          · have hj : l + j < hi' := by
              have := (List.getElem?_eq_some_iff.1 hx).1
              rw [hlen] at this; omega
            rw [List.getElem?_drop, List.getElem?_take_of_lt hj] at hx
            exact hr _ _ _ _ hx hd
    · rw [if_neg hk] at h; cases h
  · rename_i id g off len
    split at h <;> try cases h
    rename_i t0 k xs ho
    by_cases hk : te.k = k ∧ g = xs.length
    · rw [if_pos hk] at h
      split at h <;> try cases h
      rename_i m h0
      split at h <;> try cases h
      rename_i hi' h1
      split at h <;> try cases h
      rename_i l h2
      cases hv with
      | @sl _ _ _ _ A cap hs =>
        obtain ⟨t2, k2, xs2, ho2, g1, g2, g3, g4, g5⟩ := hs
        rw [ho] at ho2
        cases ho2
        obtain ⟨r1, r2, r3, r4⟩ := run_sliceBounds3 (P := P) hlo hhi hhs hmx g3 h0 h1 h2
        refine ⟨.slice (if m = l then A else A.map (·.add (l * te.k))) (hi' - l) (m - l), ?_, ?_⟩
        · simp only [Instr.sliceAt, Sem.run_bind, run_underlying hu, Result.andThen_ok, Instr.slice, r1, hsz, Sem.run_pure]
        · refine .sl ⟨t0, k, xs, ho, by omega, g2, by omega, by omega, fun hg => ?_⟩
          rcases g5 hg with ⟨q1, rfl, q3, q4⟩ | ⟨b, cur, fr, q1, q2, q3, q5, q4⟩
          · refine .inl ⟨q1, ?_, by omega, q4⟩
            split <;> rfl
          · refine .inr ⟨b, cur, fr, q1, q2, Nat.le_trans (Nat.mul_le_mul_right _ (by omega)) q3, by split <;> simp [q5], fun hpos => ?_⟩
            by_cases hcl : m = l
            · rw [if_pos hcl]
              have hl0 : off + l = 0 := by omega
              have := q4 (by omega)
              subst this
              simp [show off = 0 by omega, show l = 0 by omega]
            · have hA := q4 (by omega)
              subst hA
              rw [if_neg hcl, hk.1]
              simp only [Option.map_some, add_mk, Nat.add_mul]
    · rw [if_neg hk] at h; cases h
end
end Go.VL
end
section
namespace Go.VL
open Go

section
variable {P : Program} {L : Lay} {w : World} {F : Nat → Nat → Prop} {μ : Nat → Option Nat} {σ : List Ob}

/-! ### Octets as a text -/
def octs : List DV → Option (List UInt8)
  | [] => some []
  | .int .u8 n :: r => (octs r).map (UInt8.ofNat n.toNat :: ·)
  | _ => none
theorem octs_length : ∀ {xs : List DV} {bs : List UInt8}, octs xs = some bs → bs.length = xs.length
  | [], _, h => by cases h; rfl
  | x :: r, bs, h => by
    unfold octs at h
    split at h
    · rename_i e; cases e
    · rename_i n r' e
      cases e
      cases hr : octs r with
      | none => rw [hr] at h; cases h
      | some l => rw [hr] at h; cases h; simp [octs_length hr]
    · cases h
theorem octs_one : ∀ {xs : List DV} {bs : List UInt8}, octs xs = some bs → ∀ x ∈ xs, ∃ n, x = .int .u8 n
  | [], _, _, x, hx => by simp at hx
  | y :: r, bs, h, x, hx => by
    unfold octs at h
    split at h
    · rename_i e; cases e
    · rename_i n r' e
      cases e
      cases hr : octs r with
      | none => rw [hr] at h; cases h
      | some l =>
        rcases List.mem_cons.1 hx with rfl | hx
        · exact ⟨_, rfl⟩
        · exact octs_one hr x hx
    · cases h
def pushAll (s : ByteArray) : List UInt8 → ByteArray
  | [] => s
  | b :: r => pushAll (s.push b) r
theorem run_bytesLoop (f : Value → ByteArray → Sem (ForInStep ByteArray)) (hf : ∀ (n : Int) (s : ByteArray), (f (.int .u8 n) s).run P w = .ok (.yield (s.push (UInt8.ofNat n.toNat))) w) : ∀ (bs : List UInt8) (xs : List DV) (vs : List Value) (s : ByteArray), octs xs = some bs → xs.length = vs.length → (∀ (i : Nat) (d : DV) (v : Value), xs[i]? = some d → vs[i]? = some v → Rep w F μ σ d v) →
    (forIn vs s f).run P w = .ok (pushAll s bs) w := by
  intro bs
  induction bs with
  | nil =>
    intro xs vs s h hl _
    have := octs_length h
    obtain rfl : vs = [] := List.eq_nil_of_length_eq_zero (by simp at this; omega)
    rfl
  | cons b bs ih =>
    intro xs vs s h hl hr
    have hlen := octs_length h
    rcases xs with _ | ⟨x, xs⟩
    · simp at hlen
    rcases vs with _ | ⟨v, vs⟩
    · simp at hl
    unfold octs at h
    split at h
    rotate_left 2
    · cases h
    · rename_i e; cases e
    rename_i n r' e
    cases e
    cases hx : octs xs with
    | none => rw [hx] at h; cases h
    | some l =>
      rw [hx] at h; cases h
      have h0 := hr 0 _ v rfl rfl
      cases h0
      simp only [List.forIn_cons, Sem.run_bind, hf, Result.andThen_ok, pushAll]
      exact ih xs vs _ hx (by simpa using hl) (fun i d v hd hv => hr (i + 1) d v (by simpa using hd) (by simpa using hv))
theorem pushAll_eq (bs : List UInt8) : ∀ s : ByteArray, pushAll s bs = ⟨s.data ++ bs.toArray⟩ := by
  induction bs with
  | nil => intro s; simp [pushAll]
  | cons b bs ih =>
    intro s
    simp only [pushAll, ih]
    congr 1
    apply Array.ext'
    simp [ByteArray.push]
def isOct (L : Lay) (e : Nat) : Bool := match L e with
  | some { d := .int .u8, k := 1, .. } => true
  | _ => false
def strOf (bs : List UInt8) : ByteArray := ⟨bs.toArray⟩
def bstrDV (L : Lay) (σ : List Ob) (s t : Nat) (d : DV) : Option DV :=
  match L s, L t with
  | some { d := .slice e, .. }, some { d := .str, .. } => if isOct L e = true then (match srcDV σ 1 d with
    | some xs => (octs xs).map fun bs => .str (strOf bs)
    | none => none) else none
  | _, _ => none
theorem isOct_und (hL : LayOk P L) {e : Nat} (h : isOct L e = true) : P.underlying e = some (.int .u8) := by
  unfold isOct at h
  split at h <;> try cases h
  rename_i b z he
  obtain ⟨d, hu, hd⟩ := (hL _ _ he).und
  cases hd
  exact hu
theorem run_bstrDV (hL : LayOk P L) (hr : HR w F μ σ) {s t : Nat} {d d' : DV} {v : Value} (h : bstrDV L σ s t d = some d') (hv : Rep w F μ σ d v) :
    ∃ v', (convert s t v).run P w = .ok v' w ∧ Rep w F μ σ d' v' := by
  unfold bstrDV at h
  split at h <;> try cases h
  rename_i k0 b0 e z0 q1 k1 b1 z1 hs ht
  obtain ⟨ds, hus, rfl⟩ := (hL _ _ hs).und
  obtain ⟨dt, hut, rfl⟩ := (hL _ _ ht).und
  by_cases ho : isOct L e = true
  · rw [if_pos ho] at h
    have hue := isOct_und hL ho
    split at h <;> try cases h
    rename_i xs hx
    cases hb : octs xs with
    | none => rw [hb] at h; cases h
    | some bs =>
      rw [hb] at h; cases h
      have hone := octs_one hb
      obtain ⟨A, cap, news, rfl, hn, hf⟩ := src_sound (P := P) hr hx hv (fun y hy c hc => by
        obtain ⟨n, rfl⟩ := hone y hy
        simp [DV.cells] at hc
        subst hc
        rfl)
      have hf := hf w rfl
      refine ⟨.string (strOf bs), ?_, .str⟩
      have hconv : (convert s t (.slice A xs.length cap)).run P w = (Conv.bytesToString (.slice A xs.length cap)).run P w := by
        simp only [convert, Sem.run_bind, run_underlying hus, run_underlying hut, Result.andThen_ok]
        simp [run_underlying hue]
      rw [hconv]
      cases A with
      | none =>
        have h0 : news.size = 0 := by
          simp only [Builtin.firstCells, Sem.run_pure] at hf
          cases hf; rfl
        have : xs.length = 0 := by have := hn.size; omega
        have : bs = [] := List.eq_nil_of_length_eq_zero (by rw [octs_length hb]; exact this)
        subst this
        rfl
      | some a =>
        simp only [Builtin.firstCells, Nat.mul_one] at hf
        simp only [Conv.bytesToString, Sem.run_bind, hf, Result.andThen_ok]
        rw [← Array.forIn_toList]
        rw [run_bytesLoop _ (fun n s => rfl) bs xs news.toList .empty hb (by simp [hn.size]) (fun i d v hd hv => by
          have := hn.rep i 0 d d hd (by obtain ⟨n, rfl⟩ := hone d (List.mem_of_getElem? hd); rfl)
          obtain ⟨v', h1, h2⟩ := this
          simp only [Nat.mul_one, Nat.add_zero] at h1
          have : news[i]? = some v := by simpa using hv
          rw [h1] at this
          cases this
          exact h2)]
        simp only [Result.andThen_ok, Sem.run_pure, pushAll_eq, strOf]
        congr 2
        simp
  · rw [if_neg ho] at h; cases h

/-! ### Equality -/
/-- Scalars and flat structs of them. -/
def eqCell (k : TD) : DV → DV → Option Bool
  | .int a x, .int b y => match k with
    | .int _ => if a = b then some (x == y) else none
    | _ => none
  | .bool x, .bool y => match k with
    | .bool => some (x == y)
    | _ => none
  | .str x, .str y => match k with
    | .str => some (x.toList == y.toList)
    | _ => none
  | _, _ => none
def eqCells (L : Lay) : List (Nat × Nat) → List DV → List DV → Option Bool
  | [], _, _ => some true
  | (off, ft) :: r, xs, ys => match L ft, xs[off]?, ys[off]? with
    | some ti, some x, some y => match eqCell ti.d x y with
      | some true => eqCells L r xs ys
      | some false => some false
      | none => none
    | _, _, _ => none
def eqM (L : Lay) (σ : List Ob) (t : Nat) (a b : DV) : Option Bool :=
  match L t with
  | some { d := .struct fs, eq := true, .. } => match a, b with
    | .agg xs, .agg ys => eqCells L fs xs ys
    | _, _ => none
  | some { d := .slice _, .. } => match a, b with
    | .nils, .nils => some true
    | .emp, .nils => some false
    | .sl id g _ _, .nils => match σ[id]? with
      | some (.arr _ _ xs) => if g = xs.length ∧ 0 < g then some false else none
      | _ => none
    | .vec _ _ (_ :: _), .nils => some false
    | _, _ => none
  | some { d := .pointer _, .. } => match a, b with
    | .nilp, .nilp => some true
    | .ptr .., .nilp => some false
    | .vptr .., .nilp => some false
    | _, _ => none
  | _ => none
theorem run_eqCell (hL : LayOk P L) {ft : Nat} {ti : TI} (ht : L ft = some ti) {x y : DV} {vx vy : Value} {b : Bool} (h : eqCell ti.d x y = some b) (hx : Rep w F μ σ x vx) (hy : Rep w F μ σ y vy) (d : Nat) :
    (Op.equalIn (d + 1) ft vx vy).run P w = .ok b w ∧ ti.d.isAgg = false := by
  obtain ⟨desc, hu, hd⟩ := (hL _ _ ht).und
  unfold eqCell at h
  split at h <;> try cases h
  · split at h <;> try cases h
    rename_i a x b' y _ k hk
    rw [hk] at hd ⊢
    cases hd
    by_cases hab : a = b'
    · rw [if_pos hab] at h
      cases h
      cases hx; cases hy
      subst hab
      exact ⟨run_equalIn_int w d ft a k x y hu, rfl⟩
    · rw [if_neg hab] at h; cases h
  · split at h <;> try cases h
    rename_i hk
    rw [hk] at hd ⊢
    cases hd
    cases hx; cases hy
    exact ⟨run_equalIn_bool' w d ft _ _ hu, rfl⟩
  · split at h <;> try cases h
    rename_i hk
    rw [hk] at hd ⊢
    cases hd
    cases hx; cases hy
    exact ⟨run_equalIn_string w d ft _ _ hu, rfl⟩
theorem run_eqCells (hL : LayOk P L) {xs ys : List DV} {vx vy : List Value} (hlx : xs.length = vx.length) (hx : ∀ (i : Nat) (d : DV) (v : Value), xs[i]? = some d → vx[i]? = some v → Rep w F μ σ d v)
    (hly : ys.length = vy.length) (hy : ∀ (i : Nat) (d : DV) (v : Value), ys[i]? = some d → vy[i]? = some v → Rep w F μ σ d v) (d : Nat) :
    ∀ (fs : List Field) (b : Bool), (∀ f ∈ fs, f.name ≠ "_") → eqCells L (fs.map fun f => (f.offset, f.type)) xs ys = some b → (Op.eqFields (d + 1) ⟨vx⟩ ⟨vy⟩ fs).run P w = .ok b w := by
  intro fs
  induction fs with
  | nil => intro b _ h; cases h; rfl
  | cons f fs ih =>
    intro b hn h
    simp only [List.map_cons, eqCells] at h
    split at h <;> try cases h
    rename_i ti x y h1 h2 h3
    have l2 := (List.getElem?_eq_some_iff.1 h2).1
    have l3 := (List.getElem?_eq_some_iff.1 h3).1
    have e2 : vx[f.offset]? = some (vx[f.offset]'(by omega)) := List.getElem?_eq_getElem _
    have e3 : vy[f.offset]? = some (vy[f.offset]'(by omega)) := List.getElem?_eq_getElem _
    have rx := hx _ _ _ h2 e2
    have ry := hy _ _ _ h3 e3
    cases hc : eqCell ti.d x y with
    | none => rw [hc] at h; cases h
    | some c =>
      rw [hc] at h
      obtain ⟨r1, r2⟩ := run_eqCell hL h1 hc rx ry d
      have hagg := (hL _ _ h1).isAgg w
      rw [r2] at hagg
      have p2 : (part f.type ⟨vx⟩ f.offset).run P w = .ok (vx[f.offset]'(by omega)) w := by
        simp only [part, Sem.run_bind, hagg, Result.andThen_ok, Bool.false_eq_true, if_false, List.getElem?_toArray, e2, Sem.run_pure]
      have p3 : (part f.type ⟨vy⟩ f.offset).run P w = .ok (vy[f.offset]'(by omega)) w := by
        simp only [part, Sem.run_bind, hagg, Result.andThen_ok, Bool.false_eq_true, if_false, List.getElem?_toArray, e3, Sem.run_pure]
      simp only [Op.eqFields, if_pos (hn f (by simp)), Sem.run_bind, p2, p3, r1, Result.andThen_ok]
      cases c with
      | true => simp only [Bool.not_true, Bool.false_eq_true, if_false]; exact ih b (fun g hg => hn g (by simp [hg])) h
      | false => cases h; simp only [Bool.not_false, if_true, Sem.run_pure]
theorem run_eqM (hL : LayOk P L) {t : Nat} {a b : DV} {va vb : Value} {q : Bool} (h : eqM L σ t a b = some q) (ha : Rep w F μ σ a va) (hb : Rep w F μ σ b vb) (op : BinOp) (hop : op = .eql ∨ op = .neq) (x y : Operand) :
    (do eqGuard op t x y va vb; binOp op t va vb : Sem Value).run P w = .ok (.bool (if op = .eql then q else !q)) w := by
  have fin : ∀ va vb, (eqGuard op t x y va vb).run P w = .ok () w → (Op.equal t va vb).run P w = .ok q w → (∀ k n, va ≠ .int k n) → (∀ k n, va ≠ .float k n) → (∀ k n m, va ≠ .complex k n m) → (∀ s, va ≠ .string s) →
      (do eqGuard op t x y va vb; binOp op t va vb : Sem Value).run P w = .ok (.bool (if op = .eql then q else !q)) w := by
    intro va vb h1 h2 n1 n2 n3 n4
    rw [Sem.run_bind, h1, Result.andThen_ok]
    rcases hop with rfl | rfl
    · cases va <;> first | exact absurd rfl (n1 _ _) | exact absurd rfl (n2 _ _) | exact absurd rfl (n3 _ _ _) | exact absurd rfl (n4 _) | simp [binOp, h2]
    · cases va <;> first | exact absurd rfl (n1 _ _) | exact absurd rfl (n2 _ _) | exact absurd rfl (n3 _ _ _) | exact absurd rfl (n4 _) | simp [binOp, h2]
  have g0 : ∀ va vb, (va ≠ .nilIface) → (∀ c, va ≠ .agg c) → (eqGuard op t x y va vb).run P w = .ok () w := by
    intro va vb n1 n2
    unfold eqGuard
    rcases hop with rfl | rfl <;> cases va <;> first | exact absurd rfl n1 | exact absurd rfl (n2 _) | rfl
  unfold eqM at h
  split at h <;> try cases h
  · rename_i k0 b0 fs z ht
    split at h <;> try cases h
    rename_i xs ys
    cases ha with
    | @agg _ vx hlx hx =>
    cases hb with
    | @agg _ vy hly hy =>
    obtain ⟨desc, hu, fields, rfl, hfs⟩ := (hL _ _ ht).und
    obtain ⟨e1, e2, e3⟩ := (hL _ _ ht).eqs rfl
    have hfo : P.fieldsOf t = fields := by simp [Program.fieldsOf, hu]
    have hcells : eqCells L (fields.toList.map fun f => (f.offset, f.type)) xs ys = some q := by rw [hfs]; exact h
    refine fin _ _ (run_eqGuard_agg w op t x y _ _ e2) ?_ (by simp) (by simp) (by simp) (by simp)
    have := run_equalIn_struct (P := P) w 9999 t ⟨vx⟩ ⟨vy⟩ (by rw [hfo]; exact hu) e1
    simp only [Op.equal, Op.maxDepth]
    rw [this, hfo]
    exact run_eqCells hL hlx hx hly hy 9998 _ _ (e3 _ hu) hcells
  · rename_i q0 k0 b0 e z ht
    obtain ⟨desc, hu, rfl⟩ := (hL _ _ ht).und
    have he : ∀ A l c, (Op.equal t (.slice A l c) (.slice none 0 0)).run P w = .ok A.isNone w := by
      intro A l c
      have key : ∀ n, (Op.equalIn (n + 1) t (.slice A l c) (.slice none 0 0)).run P w = .ok A.isNone w := fun n => by
        simp only [Op.equalIn, Sem.run_bind, run_underlying hu, Result.andThen_ok]
        cases A <;> rfl
      exact key 9999
    have key : ∀ A l c, A.isNone = q → (do eqGuard op t x y (.slice A l c) (.slice none 0 0); binOp op t (.slice A l c) (.slice none 0 0) : Sem Value).run P w = .ok (.bool (if op = .eql then q else !q)) w := fun A l c hq =>
      fin _ _ (g0 _ _ (by simp) (by simp)) (by rw [he, hq]) (by simp) (by simp) (by simp) (by simp)
    split at h <;> try cases h
    · cases ha; cases hb; exact key _ _ _ rfl
    · cases ha; cases hb; exact key _ _ _ rfl
    · rename_i id g off len
      split at h <;> try cases h
      rename_i t0 k xs ho
      by_cases hg : g = xs.length ∧ 0 < g
      · rw [if_pos hg] at h
        cases h
        cases hb
        cases ha with
        | @sl _ _ _ _ A cap hs =>
          obtain ⟨t2, k2, xs2, ho2, g1, g2, g3, g4, g5⟩ := hs
          rw [ho] at ho2
          cases ho2
          rcases g5 hg.1 with ⟨q1, _⟩ | ⟨b, cur, fr, _, _, _, q5, _⟩
          · omega
          · refine key _ _ _ ?_
            cases A with
            | none => cases q5
            | some a => rfl
      · rw [if_neg hg] at h; cases h
    · cases hb
      cases ha with
      | vec u hc hm ha hk hr =>
        obtain ⟨a, rfl, _⟩ := ha (by simp)
        exact key _ _ _ rfl
  · rename_i q0 k0 b0 e z ht
    obtain ⟨desc, hu, rfl⟩ := (hL _ _ ht).und
    have he : ∀ A, (Op.equal t (.pointer A) (.pointer none)).run P w = .ok A.isNone w := by
      intro A
      have key : ∀ n, (Op.equalIn (n + 1) t (.pointer A) (.pointer none)).run P w = .ok A.isNone w := fun n => by
        simp only [Op.equalIn, Sem.run_bind, run_underlying hu, Result.andThen_ok]
        cases A <;> rfl
      exact key 9999
    have key : ∀ A, A.isNone = q → (do eqGuard op t x y (.pointer A) (.pointer none); binOp op t (.pointer A) (.pointer none) : Sem Value).run P w = .ok (.bool (if op = .eql then q else !q)) w := fun A hq =>
      fin _ _ (g0 _ _ (by simp) (by simp)) (by rw [he, hq]) (by simp) (by simp) (by simp) (by simp)
    split at h <;> try cases h
    · cases ha; cases hb; exact key _ rfl
    · cases ha; cases hb; exact key _ rfl
    · cases ha; cases hb; exact key _ rfl
end
end Go.VL
end
