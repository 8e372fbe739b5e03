/- Proved: MetaLoads: whatever items and data come in (together of bulk at most 1048576), the call returns true and they read as they did; no other condition. This text is part 3 of 15. -/
import Derived.Test.YthobgocbfoigfaaGreatW02
import Derived.OrdersIn
import Derived.Laws.Bits64
import Derived.Laws.BitsAllLaws
section
namespace Go.VL
open Go

mutual
/-- A value, once object id is none any more: what was a slice of it becomes r; other ways to it are forgotten. -/
def fz (id N : Nat) (r : Nat → Nat → DV) : DV → DV
  | .vec c k xs => .vec c k (fzL id N r xs)
  | .agg cs => .agg (fzL id N r cs)
  | .tup xs => .tup (fzL id N r xs)
  | .fn f caps => .fn f (fzL id N r caps)
  | .iface t x => .iface t (fz id N r x)
  | .vptr c cs => .vptr c (fzL id N r cs)
  | .ptr i g j o => if i = id then .undef else .ptr i g j o
  | .sl i g off len => if i = id then (if g = N then r off len else .undef) else .sl i g off len
  | .mp i => if i = id then .undef else .mp i
  | .it i => if i = id then .undef else .it i
  | .yld i => if i = id then .undef else .yld i
  | .emp => .emp
  | .int k n => .int k n
  | .bool b => .bool b
  | .str s => .str s
  | .nils => .nils
  | .nilp => .nilp
  | .nilf => .nilf
  | .nili => .nili
  | .undef => .undef
  | .skip => .skip
def fzL (id N : Nat) (r : Nat → Nat → DV) : List DV → List DV
  | [] => []
  | x :: xs => fz id N r x :: fzL id N r xs
end
theorem fzL_map (id N : Nat) (r : Nat → Nat → DV) (xs : List DV) : fzL id N r xs = xs.map (fz id N r) := by
  induction xs with
  | nil => simp [fzL]
  | cons x xs ih => simp [fzL, ih]
theorem fz_cells {id N : Nat} {r : Nat → Nat → DV} (hr : ∀ off len, (r off len).cells = [r off len]) (d : DV) : (fz id N r d).cells = d.cells.map (fz id N r) := by
  cases d with
  | ptr i g j o => by_cases h : i = id <;> simp [fz, DV.cells, h]
  | mp i => by_cases h : i = id <;> simp [fz, DV.cells, h]
  | it i => by_cases h : i = id <;> simp [fz, DV.cells, h]
  | yld i => by_cases h : i = id <;> simp [fz, DV.cells, h]
  | sl i g off len =>
    by_cases h : i = id
    · by_cases hg : g = N
      · simp only [fz, DV.cells, h, hg, if_true, List.map_cons, List.map_nil]; exact hr off len
      · simp [fz, DV.cells, h, hg]
    · simp [fz, DV.cells, h]
  | _ => simp only [fz, DV.cells, List.map_cons, List.map_nil, fzL_map]

def fzOb (id N : Nat) (r : Nat → Nat → DV) : Ob → Ob
  | .arr t k xs => .arr t k (xs.map (fz id N r))
  | .oth t ds => .oth t (ds.map (fz id N r))
  | .dead => .dead

def Ob.like : Ob → Ob → Prop
  | .arr t k xs, o => ∃ ys, o = .arr t k ys ∧ ys.length = xs.length
  | .oth t _, o => ∃ ds, o = .oth t ds
  | .dead, o => o = .dead
theorem Ob.like_fz (id N : Nat) (r : Nat → Nat → DV) (o : Ob) : o.like (fzOb id N r o) := by
  cases o with
  | arr t k xs => exact ⟨_, rfl, by simp⟩
  | oth t ds => exact ⟨_, rfl⟩
  | dead => rfl

theorem Rep.fz {w : World} {F F' : Nat → Nat → Prop} {μ μ' : Nat → Option Nat} {σ σ' : List Ob} {id N : Nat} {r : Nat → Nat → DV} (hr : ∀ off len, (r off len).cells = [r off len]) (hF : ∀ c b, F c b → F' c b) (hμ : ∀ i, i ≠ id → μ' i = μ i)
    (hσ : ∀ (i : Nat) (o : Ob), i ≠ id → σ[i]? = some o → ∃ o', σ'[i]? = some o' ∧ o.like o')
    (hB : ∀ off len A cap, SlOk w μ σ id N off len A cap → Rep w F' μ' σ' (r off len) (.slice A len cap)) {d : DV} {v : Value} (h : Rep w F μ σ d v) : Rep w F' μ' σ' (VL.fz id N r d) v := by
  have lists : ∀ {cs : List DV} {vs : List Value}, cs.length = vs.length → (∀ (i : Nat) (d : DV) (v : Value), cs[i]? = some d → vs[i]? = some v → Rep w F' μ' σ' (VL.fz id N r d) v) →
      (fzL id N r cs).length = vs.length ∧ ∀ (i : Nat) (d : DV) (v : Value), (fzL id N r cs)[i]? = some d → vs[i]? = some v → Rep w F' μ' σ' d v := by
    intro cs vs hl hh
    rw [fzL_map]
    refine ⟨by simpa using hl, fun i d v hd hv => ?_⟩
    rw [List.getElem?_map] at hd
    cases hc : cs[i]? with
    | none => simp [hc] at hd
    | some e => simp [hc] at hd; subst hd; exact hh i e v hc hv
  induction h with
  | int => exact .int
  | bool => exact .bool
  | str => exact .str
  | @vec c k xs A cap u hc hm ha hk hrr ih =>
    simp only [VL.fz, fzL_map]
    have := Rep.vec (w := w) (F := F') (μ := μ') (σ := σ') (c := c) (k := k) (xs := xs.map (VL.fz id N r)) (A := A) (cap := cap) u (by simpa using hc) hm (fun h0 => by
      obtain ⟨a, h1, h2, h3⟩ := ha (by simpa using h0)
      exact ⟨a, h1, hF _ _ h2, fun j i hj hi => h3 j i (by simpa using hj) hi⟩) (fun x hx => by
      obtain ⟨y, hy, rfl⟩ := List.mem_map.1 hx
      rw [fz_cells hr]; simpa using hk y hy) (fun j i x d hx hd => by
      rw [List.getElem?_map] at hx
      cases hc : xs[j]? with
      | none => simp [hc] at hx
      | some y =>
        simp [hc] at hx
        subst hx
        rw [fz_cells hr, List.getElem?_map] at hd
        cases he : y.cells[i]? with
        | none => simp [he] at hd
        | some e => simp [he] at hd; subst hd; exact ih j i y e hc he)
    simpa using this
  | agg hl h ih => simp only [VL.fz]; exact .agg (lists hl ih).1 (lists hl ih).2
  | tup hl h ih => simp only [VL.fz]; exact .tup (lists hl ih).1 (lists hl ih).2
  | fn hl h ih => simp only [VL.fz]; exact .fn (lists hl ih).1 (lists hl ih).2
  | @ptr i g j o a hp =>
    simp only [VL.fz]
    by_cases hi : i = id
    · rw [if_pos hi]; exact .undef
    · rw [if_neg hi]
      obtain ⟨t, k, xs, h1, h2, h3⟩ := hp
      obtain ⟨o', h4, ys, rfl, h5⟩ := hσ i _ hi h1
      exact .ptr ⟨t, k, ys, h4, by omega, fun e => by rw [hμ i hi]; exact h3 (by omega)⟩
  | @vptr c cs a u hF' hu hrr ih =>
    simp only [VL.fz, fzL_map]
    refine .vptr u (hF _ _ hF') (fun i hi => hu i (by simpa using hi)) (fun i d hd => ?_)
    rw [List.getElem?_map] at hd
    cases hc : cs[i]? with
    | none => simp [hc] at hd
    | some e => simp [hc] at hd; subst hd; exact ih i e hc
  | @sl i g off len A cap hs =>
    simp only [VL.fz]
    by_cases hi : i = id
    · rw [if_pos hi]
      subst hi
      by_cases hg : g = N
      · rw [if_pos hg]; subst hg; exact hB _ _ _ _ hs
      · rw [if_neg hg]; exact .undef
    · rw [if_neg hi]
      obtain ⟨t, k, xs, h1, h2, h3, h4, h5, h6⟩ := hs
      obtain ⟨o', h7, ys, rfl, h8⟩ := hσ i _ hi h1
      exact .sl ⟨t, k, ys, h7, h2, by omega, h4, h5, fun e => by rw [hμ i hi]; exact h6 (by omega)⟩
  | nils => exact .nils
  | nilp => exact .nilp
  | nilf => exact .nilf
  | iface h ih => simp only [VL.fz]; exact .iface ih
  | nili => exact .nili
  | @mp i q h ho =>
    simp only [VL.fz]
    by_cases hi : i = id
    · rw [if_pos hi]; exact .undef
    · rw [if_neg hi]
      obtain ⟨t, ds, ho, hk⟩ := ho
      obtain ⟨o', h1, ds', rfl⟩ := hσ i _ hi ho
      exact .mp (by rw [hμ i hi]; exact h) ⟨t, ds', h1, hk⟩
  | @it i q h ho =>
    simp only [VL.fz]
    by_cases hi : i = id
    · rw [if_pos hi]; exact .undef
    · rw [if_neg hi]
      obtain ⟨t, ds, ho, hk⟩ := ho
      obtain ⟨o', h1, ds', rfl⟩ := hσ i _ hi ho
      exact .it (by rw [hμ i hi]; exact h) ⟨t, ds', h1, hk⟩
  | @yld i q h ho =>
    simp only [VL.fz]
    by_cases hi : i = id
    · rw [if_pos hi]; exact .undef
    · rw [if_neg hi]
      obtain ⟨t, ds, ho, hk⟩ := ho
      obtain ⟨o', h1, ds', rfl⟩ := hσ i _ hi ho
      exact .yld (by rw [hμ i hi]; exact h) ⟨t, ds', h1, hk⟩
  | emp => exact .emp
  | undef => exact .undef
  | skip => exact .skip

/-- Nothing in it leads to object id. -/
def NoId (id : Nat) (d : DV) : Prop := ∀ N r, fz id N r d = d

def without (μ : Nat → Option Nat) (id : Nat) : Nat → Option Nat := fun i => if i = id then none else μ i
def frozenIn (F : Nat → Nat → Prop) (c : Nat) (q : Option Nat) : Nat → Nat → Prop := fun c' b => F c' b ∨ (c' = c ∧ q = some b)
def asVec (c k : Nat) (xs : List DV) (off len : Nat) : DV := .vec c k ((xs.drop off).take len)

/-- Object id is none any more: its slices are of colour c. -/
theorem HR.kill {w : World} {F : Nat → Nat → Prop} {μ : Nat → Option Nat} {σ : List Ob} (hr : HR w F μ σ) {id t k : Nat} {xs : List DV} (c : Nat) (ho : σ[id]? = some (.arr t k xs)) (hx : ∀ x ∈ xs, NoId id x) :
    let r := asVec c k xs
    let F' := frozenIn F c (μ id)
    let μ' := without μ id
    let σ' := (σ.map (fzOb id xs.length r)).set id .dead
    HR w F' μ' σ' ∧ (∀ d v, Rep w F μ σ d v → Rep w F' μ' σ' (fz id xs.length r d) v) ∧
      ∀ (i : Nat) (o : Ob), i ≠ id → σ[i]? = some o → σ'[i]? = some (fzOb id xs.length r o) := by
  intro r F' μ' σ'
  have hidl := (List.getElem?_eq_some_iff.1 ho).1
  have hF : ∀ c b, F c b → F' c b := fun _ _ h => .inl h
  have hμ : ∀ i, i ≠ id → μ' i = μ i := fun i hi => if_neg hi
  have hget : ∀ (i : Nat) (o : Ob), i ≠ id → σ[i]? = some o → σ'[i]? = some (fzOb id xs.length r o) := by
    intro i o hi h
    rw [set_get (by simpa using hidl), if_neg (fun e => hi e.symm), List.getElem?_map, h]
    rfl
  have hσ : ∀ (i : Nat) (o : Ob), i ≠ id → σ[i]? = some o → ∃ o', σ'[i]? = some o' ∧ o.like o' := fun i o hi h => ⟨_, hget i o hi h, Ob.like_fz _ _ _ _⟩
  have hdead : σ'[id]? = some .dead := by rw [set_get (by simpa using hidl), if_pos rfl]
  -- what doesn't lead to id stands
  have hno : ∀ d v, NoId id d → Rep w F μ σ d v → Rep w F' μ' σ' d v := by
    intro d v hn h
    have := Rep.fz (F' := F') (μ' := μ') (σ' := σ') (id := id) (N := xs.length) (r := fun _ _ => .undef) (fun _ _ => rfl) hF hμ hσ (fun _ _ _ _ _ => .undef) h
    rwa [hn] at this
  obtain ⟨hxk, hor⟩ := hr.obj _ _ ho
  have hnc : ∀ x ∈ xs, ∀ (i : Nat) (e : DV), x.cells[i]? = some e → NoId id e := by
    intro x hx' i e he N r'
    have h1 := hx x hx' N r'
    cases x
    case agg cs =>
      simp only [fz, fzL_map, DV.agg.injEq] at h1
      simp only [DV.cells] at he
      have h2 : (cs.map (fz id N r'))[i]? = cs[i]? := by rw [h1]
      rw [List.getElem?_map, he] at h2
      simpa using h2
    all_goals
      simp only [DV.cells] at he
      cases i with
      | zero => simp at he; subst he; exact h1
      | succ i => simp at he
  have hB : ∀ off len A cap, SlOk w μ σ id xs.length off len A cap → Rep w F' μ' σ' (r off len) (.slice A len cap) := by
    intro off len A cap hs
    obtain ⟨t2, k2, xs2, ho2, h1, h2, h3, h4, h5⟩ := hs
    rw [ho] at ho2
    cases ho2
    have hlen : ((xs.drop off).take len).length = len := by simp; omega
    have hgetx : ∀ j x, ((xs.drop off).take len)[j]? = some x → j < len ∧ xs[off + j]? = some x := by
      intro j x hj
      have hjl := (List.getElem?_eq_some_iff.1 hj).1
      rw [hlen] at hjl
      rw [List.getElem?_take_of_lt hjl, List.getElem?_drop] at hj
      exact ⟨hjl, hj⟩
    have mk := fun (u : Nat → Nat → Value) (ha : 0 < ((xs.drop off).take len).length → ∃ a, A = some a ∧ F' c a.block ∧ ∀ j i, j < ((xs.drop off).take len).length → i < k → w.cell? (a.add (j * k + i)) = some (u j i)) (hrr : ∀ (j i : Nat) (x d : DV), ((xs.drop off).take len)[j]? = some x → x.cells[i]? = some d → Rep w F' μ' σ' d (u j i)) =>
      Rep.vec (w := w) (F := F') (μ := μ') (σ := σ') (c := c) (k := k) (xs := (xs.drop off).take len) (A := A) (cap := cap) u (by rw [hlen]; exact h3) h4 ha (fun x hx' => hxk x (List.mem_of_mem_drop (List.mem_of_mem_take hx'))) hrr
    rw [hlen] at mk
    show Rep w F' μ' σ' (.vec c k ((xs.drop off).take len)) _
    rcases Nat.eq_zero_or_pos len with h0 | h0
    · exact mk (fun _ _ => undef) (fun h => by omega) (fun j i x d hx' _ => by have := (hgetx j x hx').1; omega)
    · rcases h5 rfl with ⟨q1, _⟩ | ⟨b, cur, fr, q1, q2, q3, _, q4⟩
      · omega
      · have hA := q4 (.inl h0)
        subst hA
        rcases hor with ⟨e1, _⟩ | ⟨b', cur', fr', hb', hh', hfr', hcells⟩
        · subst e1; simp at h1 h2; omega
        · rw [q1] at hb'
          cases hb'
          rw [q2] at hh'
          cases hh'
          refine mk (fun j i => (cur[(off + j) * k + i]?).getD undef) (fun _ => ⟨_, rfl, .inr ⟨rfl, q1⟩, fun j i hj hi => ?_⟩) (fun j i x e hx' he => ?_)
          · have hxx : xs[off + j]? = some (xs[off + j]'(by omega)) := List.getElem?_eq_getElem (by omega)
            have hxl := hxk _ (List.getElem_mem (show off + j < xs.length by omega))
            obtain ⟨vv, hvv, _⟩ := hcells (off + j) i _ _ hxx (List.getElem?_eq_getElem (show i < xs[off + j].cells.length by omega))
            rw [add_mk, show off * k + (j * k + i) = (off + j) * k + i by rw [Nat.add_mul]; omega]
            simp only [World.cell?, q2]
            simp [hvv]
          · obtain ⟨hj, hx''⟩ := hgetx j x hx'
            obtain ⟨vv, hvv, hrep⟩ := hcells (off + j) i x e hx'' he
            show Rep w F' μ' σ' e ((cur[(off + j) * k + i]?).getD undef)
            rw [hvv]
            exact hno e _ (hnc x (List.mem_of_getElem? hx'') i e he) hrep
  have hrc : ∀ off len, (r off len).cells = [r off len] := fun _ _ => rfl
  have all : ∀ d v, Rep w F μ σ d v → Rep w F' μ' σ' (fz id xs.length r d) v := fun d v h => Rep.fz hrc hF hμ hσ hB h
  refine ⟨⟨fun i o h => ?_, fun i hi => ?_, fun i j b h1 h2 => ?_, fun i b h => ?_, fun c' b h => ?_⟩, all, hget⟩
  · by_cases hi : i = id
    · subst hi
      rw [hdead] at h; cases h
      exact if_pos rfl
    · have hilt : i < σ.length := by have := (List.getElem?_eq_some_iff.1 h).1; simpa [σ'] using this
      have hs := hget i _ hi (List.getElem?_eq_getElem hilt)
      rw [h] at hs
      cases hs
      have hob := hr.obj i _ (List.getElem?_eq_getElem hilt)
      generalize σ[i] = o at hob
      cases o with
      | arr t' k' zs =>
        obtain ⟨z1, z2⟩ := hob
        refine ⟨fun y hy => ?_, ?_⟩
        · obtain ⟨q, hq, rfl⟩ := List.mem_map.1 hy
          rw [fz_cells hrc]; simpa using z1 q hq
        · rcases z2 with ⟨e1, e2⟩ | ⟨b', cu, fr', hb', hh', hfr', hcc⟩
          · exact .inl ⟨by rw [e1]; rfl, by rw [hμ i hi]; exact e2⟩
          · refine .inr ⟨b', cu, fr', by rw [hμ i hi]; exact hb', hh', hfr', fun j q y e hy he => ?_⟩
            rw [List.getElem?_map] at hy
            cases hz : zs[j]? with
            | none => simp [hz] at hy
            | some y0 =>
              simp [hz] at hy
              subst hy
              rw [fz_cells hrc, List.getElem?_map] at he
              cases he0 : y0.cells[q]? with
              | none => simp [he0] at he
              | some e0 =>
                simp [he0] at he
                subst he
                obtain ⟨vv, g1, g2⟩ := hcc j q y0 e0 hz he0
                exact ⟨vv, g1, all _ _ g2⟩
      | oth t' ds =>
        obtain ⟨g0, vs, g1, g2, g3⟩ := hob
        have hne : ∀ i ∈ t'.refs, i ≠ id := fun q hq e => by
          obtain ⟨_, _, e'⟩ := g0 q hq
          rw [e, ho] at e'
          cases e'
        refine ⟨fun q hq => ?_, vs, g1.keep (fun b _ => rfl) (hμ i hi) (fun q hq => hμ q (hne q hq)), by simpa using g2, fun j e v he hv => ?_⟩
        · obtain ⟨t2, es, e'⟩ := g0 q hq
          exact ⟨t2, _, hget q _ (hne q hq) e'⟩
        · rw [List.getElem?_map] at he
          cases he0 : ds[j]? with
          | none => simp [he0] at he
          | some e0 =>
            simp [he0] at he
            subst he
            exact all _ _ (g3 j e0 v he0 hv)
      | dead => exact (hμ i hi).trans hob
  · by_cases h : i = id
    · subst h; exact if_pos rfl
    · rw [hμ i h]
      exact hr.out i (by simpa [σ'] using hi)
  · have a1 : i ≠ id := by rintro rfl; simp [μ', without] at h1
    have a2 : j ≠ id := by rintro rfl; simp [μ', without] at h2
    rw [hμ i a1] at h1
    rw [hμ j a2] at h2
    exact hr.inj _ _ _ h1 h2
  · have a1 : i ≠ id := by rintro rfl; simp [μ', without] at h
    rw [hμ i a1] at h
    exact hr.lt _ _ h
  · rcases h with h | ⟨_, h⟩
    · refine ⟨(hr.col _ _ h).1, fun i e => ?_⟩
      have a1 : i ≠ id := by rintro rfl; simp [μ', without] at e
      rw [hμ i a1] at e
      exact (hr.col _ _ h).2 i e
    · refine ⟨hr.lt _ _ h, fun i e => ?_⟩
      have a1 : i ≠ id := by rintro rfl; simp [μ', without] at e
      rw [hμ i a1] at e
      exact a1 (hr.inj _ _ _ e h)

/-- A dead object at the end goes. -/
theorem HR.popDead {w : World} {F : Nat → Nat → Prop} {μ : Nat → Option Nat} {σ : List Ob} (hr : HR w F μ (σ ++ [.dead])) : HR w F μ σ ∧ ∀ d v, Rep w F μ (σ ++ [.dead]) d v → Rep w F μ σ d v := by
  have hd : ∀ i, (σ ++ [Ob.dead])[i]? = if i = σ.length then some .dead else σ[i]? := push_get σ .dead
  have hrep : ∀ d v, Rep w F μ (σ ++ [.dead]) d v → Rep w F μ σ d v := by
    intro d v h
    induction h with
    | int => exact .int
    | bool => exact .bool
    | str => exact .str
    | vec u hc hm ha hk hrr ih => exact .vec u hc hm ha hk ih
    | agg hl h ih => exact .agg hl ih
    | tup hl h ih => exact .tup hl ih
    | fn hl h ih => exact .fn hl ih
    | ptr hp =>
      obtain ⟨t, k, xs, h1, h2⟩ := hp
      rw [hd] at h1
      split at h1
      · cases h1
      · exact .ptr ⟨t, k, xs, h1, h2⟩
    | vptr u hF hu hrr ih => exact .vptr u hF hu ih
    | sl hs =>
      obtain ⟨t, k, xs, h1, h2⟩ := hs
      rw [hd] at h1
      split at h1
      · cases h1
      · exact .sl ⟨t, k, xs, h1, h2⟩
    | nils => exact .nils
    | nilp => exact .nilp
    | nilf => exact .nilf
    | iface h ih => exact .iface ih
    | nili => exact .nili
    | mp h ho =>
      obtain ⟨t, ds, h1, hk⟩ := ho
      rw [hd] at h1
      split at h1
      · cases h1
      · exact .mp h ⟨t, ds, h1, hk⟩
    | it h ho =>
      obtain ⟨t, ds, h1, hk⟩ := ho
      rw [hd] at h1
      split at h1
      · cases h1
      · exact .it h ⟨t, ds, h1, hk⟩
    | yld h ho =>
      obtain ⟨t, ds, h1, hk⟩ := ho
      rw [hd] at h1
      split at h1
      · cases h1
      · exact .yld h ⟨t, ds, h1, hk⟩
    | emp => exact .emp
    | undef => exact .undef
    | skip => exact .skip
  refine ⟨⟨fun i o h => ?_, fun i hi => ?_, hr.inj, hr.lt, hr.col⟩, hrep⟩
  · have hi := (List.getElem?_eq_some_iff.1 h).1
    have := hr.obj i o (by rw [hd, if_neg (by omega)]; exact h)
    cases o with
    | arr t k xs =>
      refine ⟨this.1, this.2.imp (fun e => e) ?_⟩
      rintro ⟨b, cur, fr', h1, h2, hfr', h3⟩
      exact ⟨b, cur, fr', h1, h2, hfr', fun j q x d hx he => by obtain ⟨v, g1, g2⟩ := h3 j q x d hx he; exact ⟨v, g1, hrep _ _ g2⟩⟩
    | oth t ds =>
      obtain ⟨g0, vs, g1, g2, g3⟩ := this
      refine ⟨fun q hq => ?_, vs, g1, g2, fun j e v he hv => hrep _ _ (g3 j e v he hv)⟩
      obtain ⟨t2, es, e'⟩ := g0 q hq
      rw [hd] at e'
      split at e'
      · cases e'
      · exact ⟨t2, es, e'⟩
    | dead => exact this
  · rcases Nat.lt_or_ge σ.length i with h | h
    · exact hr.out i (by simp; omega)
    · have : i = σ.length := by omega
      subst this
      exact hr.obj σ.length .dead (by simp)
end Go.VL
end
section
namespace Go.VL
open Go

/-! ### What the machine doesn't see -/
def Ghost (C : Ctx) (st st' : St) : Prop := ∀ a w, Rel C st a w → Rel C st' a w
theorem Ghost.refl (C : Ctx) (st : St) : Ghost C st st := fun _ _ h => h
theorem Ghost.trans {C : Ctx} {a b c : St} (h : Ghost C a b) (k : Ghost C b c) : Ghost C a c := fun x w r => k x w (h x w r)
theorem Ghost.weak {C : Ctx} {st st' : St} (h : Weak st st') : Ghost C st st' := fun _ _ r => r.weak h
theorem SW.ghost {C : Ctx} {c : Code} {st st' : St} {K : XE → St → Prop} (g : Ghost C st st') (h : SW C c st' K) : SW C c st K := fun a w r => h a w (g a w r)
theorem SWops.ghost {C : Ctx} {ops : Array Oper} {rest : List Oper} {st st' : St} {K : XE → St → Prop} (g : Ghost C st st') (h : SWops C ops rest st' K) : SWops C ops rest st K := fun a w r => h a w (g a w r)

def fzE (id N : Nat) (r : Nat → Nat → DV) (e : List (Nat × DV)) : List (Nat × DV) := e.map fun p => (p.1, fz id N r p.2)
theorem lk_fzE (id N : Nat) (r : Nat → Nat → DV) (e : List (Nat × DV)) (t : Nat) : lk (fzE id N r e) t = fz id N r (lk e t) := by
  induction e with
  | nil => simp [fzE, lk, fz]
  | cons p e ih =>
    obtain ⟨s, d⟩ := p
    simp only [fzE, List.map_cons, lk] at ih ⊢
    by_cases h : s = t
    · rw [if_pos h, if_pos h]
    · rw [if_neg h, if_neg h]; exact ih

theorem Ob.ext_fz {o o' : Ob} (id N : Nat) (r : Nat → Nat → DV) (h : o.ext o') : o.ext (fzOb id N r o') := by
  cases o with
  | arr t k xs => obtain ⟨ys, rfl, hl⟩ := h; exact ⟨_, rfl, by simpa using hl⟩
  | oth t ds => obtain ⟨t', ds', rfl, hk⟩ := h; exact ⟨_, _, rfl, hk⟩
  | dead => cases h; rfl

/-- Nothing that waits for the function's end leads to object id. -/
def ddNoId (id : Nat) : List DD → Prop
  | [] => True
  | .col i :: r => i ≠ id ∧ ddNoId id r
  | .fn _ caps :: r => (∀ d ∈ caps, NoId id d) ∧ ddNoId id r
/-- Object id is none any more. -/
theorem Ghost.kill {C : Ctx} {st : St} {id t k : Nat} {xs : List DV} (c : Nat) (ho : st.ob[id]? = some (.arr t k xs)) (hid : C.σ0.length ≤ id) (hx : ∀ x ∈ xs, NoId id x) (hdd : ddNoId id C.dd) :
    Ghost C st ⟨fzE id xs.length (asVec c k xs) st.env, (st.ob.map (fzOb id xs.length (asVec c k xs))).set id .dead⟩ := by
  rintro a w ⟨F, μ, h⟩
  obtain ⟨h1, h2, h3⟩ := h.hr.kill c ho hx
  have hlt : ∀ (i : Nat) (o : Ob), C.σ0[i]? = some o → i ≠ id := by
    rintro i o hi rfl
    have := (List.getElem?_eq_some_iff.1 hi).1
    omega
  refine ⟨_, _, h1, fun q => ?_, ⟨h.step.imm, fun c' b hb => .inl (h.step.col c' b hb), fun i o hi => ?_, fun i t' k' zs ys hz hy he => ?_, fun i tt es hi => ?_⟩, ?_, fun c' b hb => ?_, h.size, ?_⟩
  · rw [lk_fzE]; exact h2 _ _ (h.env q)
  · obtain ⟨o', g1, g2⟩ := h.step.ext i o hi
    exact ⟨_, h3 i o' (hlt i o hi) g1, Ob.ext_fz _ _ _ g2⟩
  · obtain ⟨o', g1, us, rfl, g3⟩ := h.step.ext i _ hz
    have := h3 i _ (hlt i _ hz) g1
    rw [hy] at this
    simp only [fzOb, Option.some.injEq, Ob.arr.injEq, true_and] at this
    subst this
    simp only [List.length_map] at he
    have hs := h.step.same i t' k' zs us hz g1 he
    simp only [without]
    rw [if_neg (hlt i _ hz)]
    exact hs
  · simp only [without]
    rw [if_neg (hlt i _ hi)]
    exact h.step.othsame i tt es hi
  · refine ⟨h.fr.os, h.fr.tape, h.fr.output, h.fr.size, h.fr.keep, fun i b hb => ?_, h.fr.drawn⟩
    simp only [without] at hb
    split at hb
    · cases hb
    · exact h.fr.new i b hb
  · rcases hb with hb | ⟨_, hb⟩
    · exact h.col c' b hb
    · rcases h.fr.new id b hb with e | e
      · rw [C.out id hid] at e; cases e
      · exact .inr e
  · have key : ∀ (dd : List DD) (l : List Deferred), ddNoId id dd → DefRep w F μ st.ob dd l → DefRep w (frozenIn F c (μ id)) (without μ id) ((st.ob.map (fzOb id xs.length (asVec c k xs))).set id .dead) dd l := by
      intro dd
      induction dd with
      | nil => intro l _ hl; exact hl
      | cons x dd ih =>
        rintro l hn ⟨d, l', e1, e2, e3⟩
        cases x with
        | col i =>
          obtain ⟨D, ds, g1, g2, g3⟩ := e2
          exact ⟨d, l', e1, ⟨D, _, by simp only [without]; rw [if_neg hn.1]; exact g1, h3 i _ hn.1 g2, g3⟩, ih _ hn.2 e3⟩
        | fn f caps =>
          obtain ⟨vs, g1, g2⟩ := e2
          refine ⟨d, l', e1, ⟨vs, ⟨g1.1, fun i e v he hv => ?_⟩, g2⟩, ih _ hn.2 e3⟩
          have := h2 _ _ (g1.2 i e v he hv)
          rwa [hn.1 e (List.mem_of_getElem? he)] at this
    exact key _ _ hdd h.defers

theorem Ghost.popDead {C : Ctx} {env : List (Nat × DV)} {ob : List Ob} (hid : C.σ0.length ≤ ob.length) : Ghost C ⟨env, ob ++ [.dead]⟩ ⟨env, ob⟩ := by
  rintro a w ⟨F, μ, h⟩
  obtain ⟨h1, h2⟩ := h.hr.popDead
  have hd : ∀ (i : Nat) (o : Ob), (ob ++ [Ob.dead])[i]? = some o → i < C.σ0.length → ob[i]? = some o := by
    intro i o hi hl
    rw [push_get, if_neg (by omega)] at hi
    exact hi
  refine ⟨F, μ, h1, fun t => h2 _ _ (h.env t), ⟨h.step.imm, h.step.col, fun i o hi => ?_, fun i t' k' zs ys hz hy he => ?_, h.step.othsame⟩, h.fr, h.col, h.size, ?_⟩
  · obtain ⟨o', g1, g2⟩ := h.step.ext i o hi
    exact ⟨o', hd i o' g1 (List.getElem?_eq_some_iff.1 hi).1, g2⟩
  · refine h.step.same i t' k' zs ys hz ?_ he
    have hlt : i < ob.length := (List.getElem?_eq_some_iff.1 hy).1
    rw [push_get, if_neg (by omega)]
    exact hy
  · have key : ∀ (dd : List DD) (l : List Deferred), DefRep w F μ (ob ++ [.dead]) dd l → DefRep w F μ ob dd l := by
      intro dd
      induction dd with
      | nil => intro l hl; exact hl
      | cons x dd ih =>
        rintro l ⟨d, l', e1, e2, e3⟩
        refine ⟨d, l', e1, ?_, ih _ e3⟩
        cases x with
        | col i =>
          obtain ⟨D, ds, g1, g2, g3⟩ := e2
          rw [push_get] at g2
          split at g2
          · cases g2
          · exact ⟨D, ds, g1, g2, g3⟩
        | fn f caps =>
          obtain ⟨vs, g1, g2⟩ := e2
          exact ⟨vs, ⟨g1.1, fun i e v he hv => h2 _ _ (g1.2 i e v he hv)⟩, g2⟩
    exact key _ _ h.defers

/-- The last object goes. -/
theorem Ghost.pop {C : Ctx} {env : List (Nat × DV)} {ob : List Ob} {t k : Nat} {xs : List DV} (c : Nat) (hid : C.σ0.length ≤ ob.length) (hx : ∀ x ∈ xs, NoId ob.length x) (hdd : ddNoId ob.length C.dd) :
    Ghost C ⟨env, ob ++ [.arr t k xs]⟩ ⟨fzE ob.length xs.length (asVec c k xs) env, ob.map (fzOb ob.length xs.length (asVec c k xs))⟩ := by
  refine Ghost.trans (Ghost.kill (id := ob.length) (t := t) (k := k) (xs := xs) c (by simp) hid hx hdd) ?_
  have : ((ob ++ [Ob.arr t k xs]).map (fzOb ob.length xs.length (asVec c k xs))).set ob.length .dead = ob.map (fzOb ob.length xs.length (asVec c k xs)) ++ [.dead] := by
    rw [List.map_append, List.set_append]
    simp
  rw [this]
  exact Ghost.popDead (by simpa using hid)

/-- A nil slice becomes an object of one's own. -/
theorem Ghost.newNil {C : Ctx} {env : List (Nat × DV)} {ob : List Ob} (t e k : Nat) (ht : lk env t = .nils) : Ghost C ⟨env, ob⟩ ⟨up env t (.sl ob.length 0 0 0), ob ++ [.arr e k []]⟩ := by
  rintro a w ⟨F, μ, h⟩
  obtain ⟨h1, h2⟩ := h.hr.pushNil e k
  refine ⟨F, μ, h1, fun q => ?_, h.step.trans h2, h.fr, h.col, h.size, h.defers.step h2⟩
  rw [lk_up]
  by_cases hq : t = q
  · subst hq
    rw [if_pos rfl]
    have := h.env t
    dsimp only at this
    rw [ht] at this
    generalize a.tmps.getD t undef = v at this
    cases this
    exact .sl ⟨e, k, [], by simp, by omega, by simp, by omega, by simp [maxLen], fun _ => .inl ⟨rfl, rfl, rfl, h.hr.out _ (Nat.le_refl _)⟩⟩
  · rw [if_neg hq]
    exact (h.env q).step h2

/-! ### Regions run -/
def Op.plain : Op → Bool
  | .call { callee := .value _, .. } | .call { callee := .invoke _ _, .. } | .defer _ | .panic _ => false
  | .call { callee := .builtin .recover, .. } => false
  | _ => true
def runTo (L : Lay) (ops : Array Oper) : List Oper → St → Option (List Oper × St)
  | [], st => some ([], st)
  | o :: rest, st => match gd ops st.env o with
    | some false => runTo L ops rest ⟨upo st.env o.dst .skip, st.ob⟩
    | some true => if Op.plain o.op = true then match sop L st o.op with
        | some (d, ob') => runTo L ops rest ⟨upo st.env o.dst d, ob'⟩
        | none => some (o :: rest, st)
      else some (o :: rest, st)
    | none => none
def dstOk (n : Nat) (l : List Oper) : Bool := l.all fun o => match o.dst with
  | some t => decide (t < n)
  | none => true
theorem SWops.run {C : Ctx} {L : Lay} (hL : LayOk C.P L) {ops : Array Oper} {K : XE → St → Prop} : ∀ (l : List Oper) (st : St) {rest : List Oper} {st' : St}, dstOk C.n l = true → runTo L ops l st = some (rest, st') → SWops C ops rest st' K → SWops C ops l st K := by
  intro l
  induction l with
  | nil => intro st rest st' _ h hk; cases h; exact hk
  | cons o l ih =>
    intro st rest st' hd h hk
    simp only [dstOk, List.all_cons, Bool.and_eq_true] at hd
    have hd0 : ∀ t, o.dst = some t → t < C.n := by
      intro t ht
      have := hd.1
      rw [ht] at this
      simpa using this
    simp only [runTo] at h
    cases hg : gd ops st.env o with
    | none => rw [hg] at h; cases h
    | some b =>
      rw [hg] at h
      cases b with
      | false => exact SWops.pass hg hd0 (ih _ hd.2 h hk)
      | true =>
        simp only at h
        by_cases hp : Op.plain o.op = true
        · rw [if_pos hp] at h
          cases hs : sop L st o.op with
          | none => rw [hs] at h; cases h; exact hk
          | some q =>
            obtain ⟨d, ob'⟩ := q
            rw [hs] at h
            exact SWops.op hg hd0 (OpRun.of_sop hL hs) (ih _ hd.2 h hk)
        · rw [if_neg hp] at h
          cases h
          exact hk
theorem SWops.go {C : Ctx} {L : Lay} (hL : LayOk C.P L) {ops : Array Oper} {K : XE → St → Prop} {l : List Oper} {st : St} (hd : dstOk C.n l = true)
    (h : match runTo L ops l st with | some (rest, st') => SWops C ops rest st' K | none => False) : SWops C ops l st K := by
  cases hr : runTo L ops l st with
  | none => rw [hr] at h; exact h.elim
  | some q => rw [hr] at h; exact SWops.run hL l st hd hr h
theorem SWops.panic {C : Ctx} {ops : Array Oper} {rest : List Oper} {o : Oper} {st : St} {K : XE → St → Prop} {x : Operand} {t : Nat} {d : DV}
    (hg : gd ops st.env o = some true) (ho : o.op = .panic x) (hx : ev st.env x = .iface t d) (h : K (.panic (.iface t d)) st) : SWops C ops (o :: rest) st K := by
  rintro a w ⟨F, μ, hr⟩
  refine wpListIn_step fun K' hK => ?_
  rw [if_pos (gd_wanted hr hg)]
  have hv := rep_ev hr x
  rw [hx] at hv
  have hv' : ∃ v, a.eval x = .iface t v ∧ Rep w F μ st.ob d v := by
    generalize a.eval x = v at hv
    cases hv with
    | iface h => exact ⟨_, rfl, h⟩
  obtain ⟨v, hv1, hv2⟩ := hv'
  have hrun : (execOp a.eval o).run C.P w = .halt (.panic (.iface t v)) w := by
    simp [execOp, ho, hv1, Instr.panic, goPanic]
  refine wpIn_of_wp (.inr fun c hc => by rw [ho] at hc; cases hc) ?_
  unfold Oper.wp
  rw [hrun, Oper.upon_panic]
  exact ⟨st, _, _, F, μ, h, rfl, hr, .iface hv2⟩

/-! ### Results -/
def resDV1 (L : Lay) (st : St) : ResultVar → Option DV
  | .tmp t => some (lk st.env t)
  | .cell a t => loadDV L st.ob t (lk st.env a)
def resL (L : Lay) (st : St) : List ResultVar → Option (List DV)
  | [] => some []
  | r :: rs => match resDV1 L st r, resL L st rs with
    | some d, some ds => some (d :: ds)
    | _, _ => none
def resDV (L : Lay) (st : St) (rs : List ResultVar) : Option DV :=
  match resL L st rs with
  | some [d] => some d
  | some ds => some (.tup ds)
  | none => none
theorem run_results {C : Ctx} {L : Lay} (hL : LayOk C.P L) {F : Nat → Nat → Prop} {μ : Nat → Option Nat} {st : St} {a : Act} {w : World} (h : Rel0 C F μ st a w) {fn : Func} {d : DV} (hd : resDV L st fn.results.toList = some d) :
    ∃ v, (results fn a.tmps).run C.P w = .ok v w ∧ Rep w F μ st.ob d v := by
  have key : ∀ (g : ResultVar → Sem Value), (∀ t, g (.tmp t) = pure (a.tmps.getD t undef)) → (∀ q t, g (.cell q t) = do loadVar t (← asAddr (a.tmps.getD q undef))) → ∀ (rs : List ResultVar) (ds : List DV), resL L st rs = some ds → ∃ vs : List Value, (rs.mapM g).run C.P w = .ok vs w ∧ Reps w F μ st.ob ds vs := by
    intro g hg1 hg2 rs
    induction rs with
    | nil => intro ds h; cases h; exact ⟨[], rfl, rfl, fun i d v h => by simp at h⟩
    | cons r rs ih =>
      intro ds hds
      simp only [resL] at hds
      cases h1 : resDV1 L st r with
      | none => rw [h1] at hds; cases hds
      | some d1 =>
        cases h2 : resL L st rs with
        | none => rw [h1, h2] at hds; cases hds
        | some ds2 =>
          rw [h1, h2] at hds
          cases hds
          obtain ⟨vs, g1, g2⟩ := ih ds2 h2
          have hone : ∃ v, (g r).run C.P w = .ok v w ∧ Rep w F μ st.ob d1 v := by
            cases r with
            | tmp t =>
              cases h1
              exact ⟨_, by rw [hg1]; rfl, h.env t⟩
            | cell q t =>
              obtain ⟨v, r1, r2⟩ := run_load hL h.hr h1 (h.env q)
              refine ⟨v, ?_, r2⟩
              have hq : ∃ ad, a.tmps.getD q undef = .pointer (some ad) := by
                have := h.env q
                simp only [resDV1, loadDV] at h1
                split at h1 <;> try cases h1
                split at h1 <;> try cases h1
                rename_i cs hcs
                obtain ⟨ad, u, e1, _⟩ := rep_cellsAt h.hr hcs this
                exact ⟨ad, e1⟩
              obtain ⟨ad, hq⟩ := hq
              rw [hg2]
              rw [hq] at r1 ⊢
              simpa [Instr.loadAt, Instr.sureAddr, asAddr] using r1
          obtain ⟨v, r1, r2⟩ := hone
          refine ⟨v :: vs, by simp only [List.mapM_cons, Sem.run_bind, r1, g1, Result.andThen_ok, Sem.run_pure], by simp [g2.1], fun i e u he hu => ?_⟩
          cases i with
          | zero => simp at he hu; subst he; subst hu; exact r2
          | succ i => exact g2.2 i e u (by simpa using he) (by simpa using hu)
  unfold resDV at hd
  cases hl : resL L st fn.results.toList with
  | none => rw [hl] at hd; cases hd
  | some ds =>
    rw [hl] at hd
    obtain ⟨vs, g1, g2, g3⟩ := key (fun | .tmp t => pure (a.tmps.getD t undef) | .cell q t => do loadVar t (← asAddr (a.tmps.getD q undef))) (fun _ => rfl) (fun _ _ => rfl) _ ds hl
    have hrun : (results fn a.tmps).run C.P w = .ok (if h : vs.toArray.size = 1 then vs.toArray[0] else .tuple vs.toArray) w := by
      unfold results
      rw [Array.mapM_eq_mapM_toList]
      simp only [Sem.run_bind, map_eq_pure_bind]
      refine (congrArg (fun x => (x.andThen fun (a : List Value) w' => Sem.run C.P (pure a.toArray) w').andThen fun (a : Array Value) w' => Sem.run C.P (pure (if h : a.size = 1 then a[0] else Value.tuple a)) w') g1).trans ?_
      rfl
    rcases ds with _ | ⟨d0, _ | ⟨d1, r⟩⟩
    · rcases vs with _ | ⟨v0, r⟩
      · cases hd; exact ⟨_, hrun, .tup rfl (fun i d v h => by simp at h)⟩
      · simp at g2
    · rcases vs with _ | ⟨v0, _ | ⟨v1, r⟩⟩
      · simp at g2
      · cases hd; exact ⟨_, hrun, g3 0 _ _ rfl rfl⟩
      · simp at g2
    · rcases vs with _ | ⟨v0, _ | ⟨v1, r'⟩⟩
      · simp at g2
      · simp at g2
      · cases hd; exact ⟨_, hrun, .tup g2 g3⟩

/-! ### A function entered and left -/
def slots : Nat → List DV → List (Nat × DV)
  | _, [] => []
  | n, d :: ds => (n, d) :: slots (n + 1) ds
theorem lk_slots : ∀ (ds : List DV) (n t : Nat), lk (slots n ds) t = if n ≤ t then (ds[t - n]?).getD .undef else .undef
  | [], n, t => by simp [slots, lk]
  | d :: ds, n, t => by
    simp only [slots, lk]
    by_cases h : n = t
    · subst h; simp
    · rw [if_neg h, lk_slots ds (n + 1) t]
      by_cases h1 : n + 1 ≤ t
      · rw [if_pos h1, if_pos (by omega), show t - n = (t - (n + 1)) + 1 by omega]
        simp
      · rw [if_neg h1, if_neg (by omega)]

theorem noId_of_cells {id : Nat} {x : DV} (h : ∀ (i : Nat) (e : DV), x.cells[i]? = some e → NoId id e) : NoId id x := by
  intro N r
  cases x
  case agg cs =>
    simp only [fz, fzL_map, DV.agg.injEq]
    apply List.ext_getElem?
    intro i
    rw [List.getElem?_map]
    cases hc : cs[i]? with
    | none => rfl
    | some e => simp [h i e hc N r]
  all_goals exact h 0 _ rfl N r
theorem noId_list {id : Nat} {cs : List DV} (h : ∀ (i : Nat) (e : DV), cs[i]? = some e → NoId id e) (N : Nat) (r : Nat → Nat → DV) : fzL id N r cs = cs := by
  rw [fzL_map]
  apply List.ext_getElem?
  intro i
  rw [List.getElem?_map]
  cases hc : cs[i]? with
  | none => rfl
  | some e => simp [h i e hc N r]
theorem Rep.noId {w : World} {F : Nat → Nat → Prop} {μ : Nat → Option Nat} {σ : List Ob} {d : DV} {v : Value} (h : Rep w F μ σ d v) (id : Nat) (hid : σ.length ≤ id) : NoId id d := by
  have hne : ∀ (i : Nat) (o : Ob), σ[i]? = some o → i ≠ id := by
    rintro i o hi rfl
    have := (List.getElem?_eq_some_iff.1 hi).1
    omega
  induction h with
  | vec u hc hm ha hk hrr ih =>
    intro N r
    simp only [VL.fz]
    congr 1
    refine noId_list (fun j x hx => noId_of_cells fun i e he => ih j i x e hx he) N r
  | @agg cs vs hl h ih => intro N r; simp only [VL.fz]; congr 1; exact noId_list (fun i e he => ih i e _ he (List.getElem?_eq_getElem (by rw [← hl]; exact (List.getElem?_eq_some_iff.1 he).1))) N r
  | @tup cs vs hl h ih => intro N r; simp only [VL.fz]; congr 1; exact noId_list (fun i e he => ih i e _ he (List.getElem?_eq_getElem (by rw [← hl]; exact (List.getElem?_eq_some_iff.1 he).1))) N r
  | @fn f cs vs hl h ih => intro N r; simp only [VL.fz]; congr 1; exact noId_list (fun i e he => ih i e _ he (List.getElem?_eq_getElem (by rw [← hl]; exact (List.getElem?_eq_some_iff.1 he).1))) N r
  | vptr u hF hu hrr ih => intro N r; simp only [VL.fz]; congr 1; exact noId_list ih N r
  | ptr hp => intro N r; obtain ⟨t, k, xs, h1, _⟩ := hp; simp only [VL.fz]; rw [if_neg (hne _ _ h1)]
  | sl hs => intro N r; obtain ⟨t, k, xs, h1, _⟩ := hs; simp only [VL.fz]; rw [if_neg (hne _ _ h1)]
  | mp h ho => intro N r; obtain ⟨_, _, h1, _⟩ := ho; simp only [VL.fz]; rw [if_neg (hne _ _ h1)]
  | it h ho => intro N r; obtain ⟨_, _, h1, _⟩ := ho; simp only [VL.fz]; rw [if_neg (hne _ _ h1)]
  | yld h ho => intro N r; obtain ⟨_, _, h1, _⟩ := ho; simp only [VL.fz]; rw [if_neg (hne _ _ h1)]
  | iface h ih => intro N r; simp only [VL.fz]; rw [ih N r]
  | _ => intro N r; simp only [VL.fz]

/-- Nothing that was there leads to what is new. -/
def Fixed (σ : List Ob) : Prop := ∀ id, σ.length ≤ id → ∀ N r, σ.map (fzOb id N r) = σ
theorem HR.fixed {w : World} {F : Nat → Nat → Prop} {μ : Nat → Option Nat} {σ : List Ob} (hr : HR w F μ σ) : Fixed σ := by
  intro id hid N r
  apply List.ext_getElem?
  intro i
  rw [List.getElem?_map]
  cases ho : σ[i]? with
  | none => rfl
  | some o =>
    simp only [Option.map_some, Option.some.injEq]
    have hob := hr.obj i o ho
    cases o with
    | arr t k xs =>
      obtain ⟨h1, h2⟩ := hob
      simp only [fzOb, Ob.arr.injEq, true_and]
      rcases h2 with ⟨rfl, _⟩ | ⟨b, cur, _, _, _, _, h3⟩
      · rfl
      · apply List.ext_getElem?
        intro j
        rw [List.getElem?_map]
        cases hx : xs[j]? with
        | none => rfl
        | some x =>
          simp only [Option.map_some, Option.some.injEq]
          exact noId_of_cells (fun q e he => by obtain ⟨v, _, g⟩ := h3 j q x e hx he; exact g.noId id hid) N r
    | oth t ds =>
      obtain ⟨_, vs, _, h3, h4⟩ := hob
      simp only [fzOb, Ob.oth.injEq, true_and]
      apply List.ext_getElem?
      intro j
      rw [List.getElem?_map]
      cases hx : ds[j]? with
      | none => rfl
      | some p =>
        have hj := (List.getElem?_eq_some_iff.1 hx).1
        have g1 := h4 j p _ hx (List.getElem?_eq_getElem (show j < vs.length by omega))
        simp only [Option.map_some, Option.some.injEq]
        exact g1.noId id hid N r
    | dead => rfl

/-- A value in hand while objects are dropped. -/
def GhostV (C : Ctx) (d : DV) (ob : List Ob) (d' : DV) (ob' : List Ob) : Prop :=
  ∀ (a : Act) (w : World) (v : Value) (F : Nat → Nat → Prop) (μ : Nat → Option Nat), Rel0 C F μ ⟨[], ob⟩ a w → Rep w F μ ob d v → ∃ F' μ', Rel0 C F' μ' ⟨[], ob'⟩ a w ∧ Rep w F' μ' ob' d' v
theorem GhostV.refl (C : Ctx) (d : DV) (ob : List Ob) : GhostV C d ob d ob := fun _ _ _ F μ h r => ⟨F, μ, h, r⟩
theorem GhostV.trans {C : Ctx} {d d' d'' : DV} {ob ob' ob'' : List Ob} (h : GhostV C d ob d' ob') (k : GhostV C d' ob' d'' ob'') : GhostV C d ob d'' ob'' := fun a w v F μ hr r => by
  obtain ⟨F', μ', h1, h2⟩ := h a w v F μ hr r
  exact k a w v F' μ' h1 h2
theorem GhostV.of {C : Ctx} {d d' : DV} {ob ob' : List Ob} (hn : 0 < C.n) (h : Ghost C ⟨[(0, d)], ob⟩ ⟨[(0, d')], ob'⟩) : GhostV C d ob d' ob' := by
  intro a w v F μ hr r
  have hs : ({ a with tmps := a.tmps.setIfInBounds 0 v } : Act).tmps.getD 0 undef = v := by
    rw [Array.getD_eq_getD_getElem?, Array.getElem?_setIfInBounds]
    simp [hr.size, hn]
  obtain ⟨F', μ', h'⟩ := h { a with tmps := a.tmps.setIfInBounds 0 v } w ⟨F, μ, hr.hr, fun t => by
    simp only [lk]
    by_cases ht : 0 = t
    · subst ht
      rw [if_pos rfl, hs]
      exact r
    · rw [if_neg ht]
      exact .undef, hr.step, hr.fr, hr.col, by simpa using hr.size, hr.defers⟩
  refine ⟨F', μ', ⟨h'.hr, fun _ => .undef, h'.step, h'.fr, h'.col, hr.size, h'.defers⟩, ?_⟩
  have := h'.env 0
  rw [hs] at this
  simpa [lk] using this
def finK (C : Ctx) (L : Lay) (rs : List ResultVar) (out : Out) (σ' : List Ob) : XE → St → Prop
  | .normal, st | .ret, st => ∃ st' d d', Ghost C st st' ∧ resDV L st' rs = some d ∧ GhostV C d st'.ob d' σ' ∧ out = .ret d'
  | .panic d, st => ∃ d', GhostV C d st.ob d' σ' ∧ out = .pan d'
  | _, _ => False

theorem Ok.of_body {P : Program} {L : Lay} (hL : LayOk P L) {f : FuncId} {fn : Func} {c : Code} {args : List DV} {σ : List Ob} {out : Out} {σ' : List Ob} (hf : P.funcs[f]? = some fn) (hb : fn.body = some c)
    (hname : (fn.name == "runtime.NumGoroutine") = false) (hlen : args.length ≤ fn.ntmps)
    (h : ∀ C : Ctx, C.P = P → C.n = fn.ntmps → C.σ0 = σ → Fixed σ → C.dd = [] → SW C c ⟨slots 0 args, σ⟩ (finK C L fn.results.toList out σ')) : Ok P f args σ out σ' := by
  refine ⟨fun vs w => ?_, fun w F μ vs hr hv => ?_⟩
  · have hn : ¬ fn.name = "runtime.NumGoroutine" := by simpa using hname
    simp [callFunc, program, Sem.run, hf, hn, hb]
  · let C : Ctx := ⟨P, fn.ntmps, none, [], w, F, μ, σ, hr.out⟩
    refine calls_of_wp hf hb (wp_mono ((wpIn_wide (n := 0)).1 (h C rfl rfl rfl hr.fixed rfl _ w ⟨F, μ, hr, fun t => ?_, Step.refl .., Fr.refl .., fun _ _ h => .inl h, ?_, rfl⟩)) fun e a w' hq => ?_)
    · show Rep w F μ σ (lk (slots 0 args) t) _
      rw [lk_slots, if_pos (Nat.zero_le t), Nat.sub_zero]
      rcases Nat.lt_or_ge t args.length with ht | ht
      · rw [List.getElem?_eq_getElem ht, Option.getD_some]
        have ht' : t < vs.length := by rw [← hv.1]; exact ht
        have : ((⟨vs⟩ : Array Value) ++ Array.replicate (fn.ntmps - (⟨vs⟩ : Array Value).size) undef).getD t undef = vs[t] := by
          rw [Array.getD_eq_getD_getElem?, Array.getElem?_append_left (by simpa using ht')]
          simp [ht']
        rw [this]
        exact hv.2 t _ _ (List.getElem?_eq_getElem ht) (List.getElem?_eq_getElem ht')
      · rw [List.getElem?_eq_none ht]
        exact .undef
    · show ((⟨vs⟩ : Array Value) ++ Array.replicate (fn.ntmps - (⟨vs⟩ : Array Value).size) undef).size = fn.ntmps
      have := hv.1
      simp; omega
    · have wk : ∀ {F' μ' st}, Rel0 C F' μ' st a w' → Rel0 C F' μ' ⟨[], st.ob⟩ a w' := fun h => ⟨h.hr, fun _ => .undef, h.step, h.fr, h.col, h.size, h.defers⟩
      have fin : ∀ st, (∃ st' d d', Ghost C st st' ∧ resDV L st' fn.results.toList = some d ∧ GhostV C d st'.ob d' σ' ∧ out = .ret d') → Rel C st a w' →
          a.defers = [] ∧ ∃ v, (results fn a.tmps).run P w' = .ok v w' ∧ OutPost out σ' w F μ σ (.returned v) w' := by
        rintro st ⟨st', d, d', g1, g3, g4, rfl⟩ hrel
        obtain ⟨F', μ', h'⟩ := g1 a w' hrel
        obtain ⟨v, r1, r2⟩ := run_results (C := C) hL h' g3
        obtain ⟨F'', μ'', h'', r3⟩ := g4 a w' v F' μ' (wk h') r2
        exact ⟨h'.defers, v, r1, F'', μ'', v, ⟨h''.hr, h''.step, h''.fr, h''.col⟩, rfl, r3⟩
      cases e with
      | normal => obtain ⟨st, hk, hrel⟩ := hq; exact fin st hk hrel
      | ret => obtain ⟨st, hk, hrel⟩ := hq; exact fin st hk hrel
      | exit i => obtain ⟨st, hk, _⟩ := hq; exact hk.elim
      | goto l => exact hq.elim
      | panic ch =>
        obtain ⟨st, d, v, F', μ', ⟨d', g4, rfl⟩, rfl, h', r2⟩ := hq
        obtain ⟨F'', μ'', h'', r3⟩ := g4 a w' v F' μ' (wk h') r2
        exact ⟨h'.defers, F'', μ'', v, ⟨h''.hr, h''.step, h''.fr, h''.col⟩, rfl, r3⟩
      | outgrown => exact hq.elim
end Go.VL
end
section
namespace Go.VL
open Go

section
variable {C : Ctx} {L : Lay} {K : XE → St → Prop} {st : St}
theorem SW.rs (hL : LayOk C.P L) {id : Nat} {ops : Array Oper} {y : Code} (hd : dstOk C.n ops.toList = true)
    (h : match runTo L ops ops.toList st with | some ([], st') => SW C y st' K | some (o :: r, st') => SWops C ops (o :: r) st' (thenK C y K) | none => False) : SW C (.seq (.region id ops false) y) st K := by
  refine SW.seq (SW.region ?_)
  cases hr : runTo L ops ops.toList st with
  | none => rw [hr] at h; exact h.elim
  | some q =>
    obtain ⟨l, st'⟩ := q
    rw [hr] at h
    cases l with
    | nil => exact SWops.run hL _ _ hd hr (SWops.nil h)
    | cons o r => exact SWops.run hL _ _ hd hr h
theorem SW.re (hL : LayOk C.P L) {id : Nat} {ops : Array Oper} (hd : dstOk C.n ops.toList = true)
    (h : match runTo L ops ops.toList st with | some ([], st') => K .normal st' | some (o :: r, st') => SWops C ops (o :: r) st' K | none => False) : SW C (.region id ops false) st K := by
  refine SW.region ?_
  cases hr : runTo L ops ops.toList st with
  | none => rw [hr] at h; exact h.elim
  | some q =>
    obtain ⟨l, st'⟩ := q
    rw [hr] at h
    cases l with
    | nil => exact SWops.run hL _ _ hd hr (SWops.nil h)
    | cons o r => exact SWops.run hL _ _ hd hr h
theorem SW.ct {c : Operand} {x y : Code} (hc : ev st.env c = .bool true) (h : SW C x st K) : SW C (.cond c x y) st K := SW.cond true hc (fun _ => h) (fun e => by cases e)
theorem SW.cf {c : Operand} {x y : Code} (hc : ev st.env c = .bool false) (h : SW C y st K) : SW C (.cond c x y) st K := SW.cond false hc (fun e => by cases e) (fun _ => h)

/-- What a state says of some slots. -/
def agree (env : List (Nat × DV)) : List (Nat × DV) → Prop
  | [] => True
  | p :: r => lk env p.1 = p.2 ∧ agree env r
theorem agree_lk {env : List (Nat × DV)} : ∀ {l : List (Nat × DV)}, agree env l → ∀ t, lk l t = .undef ∨ lk l t = lk env t
  | [], _, t => .inl rfl
  | (s, d) :: r, h, t => by
    simp only [lk]
    by_cases hs : s = t
    · subst hs
      rw [if_pos rfl]
      exact .inr h.1.symm
    · rw [if_neg hs]
      exact agree_lk h.2 t
theorem Weak.of_agree {env l : List (Nat × DV)} {ob ob' : List Ob} (ho : ob' = ob) (h : agree env l) : Weak ⟨env, ob⟩ ⟨l, ob'⟩ := ⟨ho, agree_lk h⟩
theorem SW.lp {c : Code} (I : Nat → St → Prop) (n : Nat) {st0 : St} (hw : Weak st st0) (h0 : I n st0)
    (h : ∀ n st, I n st → SW C c st (loopK n I K)) : SW C (.loop c) st K := SW.weak hw (SW.loop I n h0 h)
/-- Only some slots are kept. -/
theorem SW.keep {c : Code} {env : List (Nat × DV)} {ob : List Ob} (l : List (Nat × DV)) (h : agree env l) (k : SW C c ⟨l, ob⟩ K) : SW C c ⟨env, ob⟩ K := SW.weak (Weak.of_agree rfl h) k

/-- A slice that is read is no longer than may be. -/
theorem SW.vlen {c : Code} (t : Nat) {q k : Nat} {xs : List DV} (ht : lk st.env t = .vec q k xs) (h : xs.length ≤ 9223372036854775807 → SW C c st K) : SW C c st K := by
  rintro a w ⟨F, μ, hr⟩
  have := hr.env t
  rw [ht] at this
  generalize a.tmps.getD t undef = v at this
  cases this with
  | vec u hc hm ha hk hrr => exact h (by simp only [maxLen] at hm; omega) a w ⟨F, μ, hr⟩
end
end Go.VL
end
section
namespace Go.VL
open Go

def Lp {X : Type} (S : X → St) (m : X → Nat) (P : X → Prop) : Nat → St → Prop := fun n st => ∃ x, P x ∧ m x = n ∧ st = S x
section
variable {C : Ctx} {K : XE → St → Prop} {st : St}
/-- A loop whose states are `S x` with `P x`; `m x` falls in each round. -/
theorem SW.lpx {c : Code} {X : Type} (S : X → St) (m : X → Nat) (P : X → Prop) (x : X) (h0 : P x) (hw : Weak st (S x))
    (h : ∀ x, P x → SW C c (S x) (loopK (m x) (Lp S m P) K)) : SW C (.loop c) st K := by
  refine SW.lp (Lp S m P) (m x) hw ⟨x, h0, rfl, rfl⟩ ?_
  rintro n st' ⟨y, hy, rfl, rfl⟩
  exact h y hy
theorem Lp.next {X : Type} {S : X → St} {m : X → Nat} {P : X → Prop} {n : Nat} {st : St} (x : X) (hp : P x) (hm : m x < n) (hw : Weak st (S x)) :
    ∃ k st', k < n ∧ Weak st st' ∧ Lp S m P k st' := ⟨_, _, hm, hw, x, hp, rfl, rfl⟩
theorem Lp.nexta {X : Type} {S : X → St} {m : X → Nat} {P : X → Prop} {n : Nat} {env : List (Nat × DV)} {ob : List Ob} (x : X) (hp : P x) (hm : m x < n) (ho : (S x).ob = ob) (hw : agree env (S x).env) :
    ∃ k st', k < n ∧ Weak ⟨env, ob⟩ st' ∧ Lp S m P k st' := Lp.next x hp hm (Weak.of_agree ho hw)
theorem SW.lpa {c : Code} {X : Type} {env : List (Nat × DV)} {ob : List Ob} (S : X → St) (m : X → Nat) (P : X → Prop) (x : X) (h0 : P x) (ho : (S x).ob = ob) (hw : agree env (S x).env)
    (h : ∀ x, P x → SW C c (S x) (loopK (m x) (Lp S m P) K)) : SW C (.loop c) ⟨env, ob⟩ K := SW.lpx S m P x h0 (Weak.of_agree ho hw) h
end
theorem bound_i {n dflt hi : Nat} {k : IntKind} (h : n ≤ hi) : bound (some (.int k (n : Int))) dflt hi = some n := by
  simp only [bound]
  rw [if_pos (by omega)]
  exact congrArg some (Int.toNat_natCast _)
end Go.VL
end
section
namespace Go.VL
open Go

theorem Rel.drew {C : Ctx} {st : St} {a : Act} {w : World} (h : Rel C st a w) (n : Nat) (hn : w.drawn ≤ n) : Rel C st a { w with drawn := n } := by
  obtain ⟨F, μ, h⟩ := h
  exact ⟨F, μ, h.hr.drew n, fun t => (h.env t).step (step_drew w n F μ st.ob), h.step.trans (step_drew w n F μ st.ob),
    h.fr.trans ⟨rfl, rfl, rfl, Nat.le_refl _, fun _ _ _ => rfl, fun _ _ h => .inl h, hn⟩, h.col, h.size, h.defers.step (step_drew w n F μ st.ob)⟩

/-- An operation, or the call that it makes, comes to this. -/
def OpDo (P : Program) (o : Oper) (st : St) (out : Out) (ob' : List Ob) : Prop :=
  ∀ (ro : Option Nat) (a : Act) (w : World) (F : Nat → Nat → Prop) (μ : Nat → Option Nat) (K' : Act → World → Prop) (Q : Exit → Act → World → Prop), HR w F μ st.ob → (∀ x, Rep w F μ st.ob (ev st.env x) (a.eval x)) →
    (∀ v w' F' μ', After w F μ st.ob w' F' μ' ob' → match out with
      | .ret d => Rep w' F' μ' ob' d v → K' (a.put o.dst v) w'
      | .pan d => Rep w' F' μ' ob' d v → Q (.panic [{ v, recovered := false }]) a w') → o.wpIn { Fence.wide with round := ro } 0 P a w K' Q
/-- What an operation of a region comes to, its guard seen. -/
theorem OpDo.op {P : Program} {L : Lay} (hL : LayOk P L) {o : Oper} {st : St} {d : DV} {ob' : List Ob} (h : sop L st o.op = some (d, ob')) : OpDo P o st (.ret d) ob' := by
  intro ro a w F μ K' Q hh he hk
  obtain ⟨r, w', μ', v, hrun, hv, hh', hst, hfr, hrep⟩ := OpRun.of_sop (o := o) hL h a w F μ hh he
  have := hk v w' F μ' ⟨hh', hst, hfr, fun c b h => .inl h⟩ hrep
  refine wpIn_of_wp (.inr fun c hc => ?_) ?_
  · obtain ⟨d', rfl⟩ := execOp_defer hc hrun
    rcases hv with e | ⟨e, _⟩ <;> cases e
  unfold Oper.wp
  rw [hrun]
  rcases hv with rfl | ⟨rfl, rfl⟩
  · exact this
  · exact this
theorem OpDo.call {P : Program} {o : Oper} {st : St} {g : Operand} {xs : Array Operand} {ts : Array TypeId} {f : FuncId} {caps : List DV} {out : Out} {σ' : List Ob}
    (ho : o.op = .call { callee := .value g, args := xs, argTypes := ts }) (hf : ev st.env g = .fn f caps)
    (hok : Ok P f (xs.toList.map (ev st.env) ++ caps) st.ob out σ') : OpDo P o st out σ' := by
  intro ro a w F μ K' Q hh he hk
  have hv := he g
  rw [hf] at hv
  have hcap : ∃ vs : List Value, a.eval g = .func (.func f) #[] ⟨vs⟩ ∧ Reps w F μ st.ob caps vs := by
    generalize a.eval g = v at hv
    cases hv with
    | fn hl hh => exact ⟨_, rfl, hl, hh⟩
  obtain ⟨cvs, hge, hcr⟩ := hcap
  have hrun : (execOp a.eval o).run P w = .ok (.enter f ⟨xs.toList.map a.eval ++ cvs⟩) w := by
    unfold execOp
    rw [ho]
    dsimp only [resolve]
    rw [hge]
    have harr : (xs.map a.eval ++ (⟨cvs⟩ : Array Value)) = ⟨xs.toList.map a.eval ++ cvs⟩ := by
      apply Array.ext'
      simp
    simp only [Deferred.ofValue, Sem.run_bind, Sem.run_pure, Result.andThen_ok, invoke, Array.empty_append, harr]
    exact hok.enters _ w
  have hrm : Reps w F μ st.ob (xs.toList.map (ev st.env)) (xs.toList.map a.eval) := by
    refine ⟨by simp, fun i d v hd hv => ?_⟩
    rw [List.getElem?_map] at hd hv
    cases hx : xs.toList[i]? with
    | none => simp [hx] at hd
    | some x =>
      simp only [hx, Option.map_some, Option.some.injEq] at hd hv
      subst hd; subst hv
      exact he x
  refine wpIn_of_wp (.inr fun c hc => by rw [ho] at hc; cases hc) ?_
  unfold Oper.wp
  rw [hrun, Oper.upon_enter]
  refine (hok.calls w F μ _ hh (hrm.append hcr)).mono fun e w' he => ?_
  obtain ⟨F', μ', v, haf, hout⟩ := he
  have := hk v w' F' μ' haf
  cases out with
  | ret d =>
    obtain ⟨rfl, hrep⟩ := hout
    exact this hrep
  | pan d =>
    obtain ⟨rfl, hrep⟩ := hout
    exact this hrep

/-! ### The orders of a region -/
/-- What is known of an operation: the slots that it reads, which operations are listed ahead of it in every order, whether it has an effect, and at which counts of effects it may come up. -/
structure DI where
  rd : List Nat
  pre : List Nat
  eff : Bool
  ph : List Nat
  dst : Option Nat
  dir : List Nat

def DI.none : DI := ⟨[], [], false, [], Option.none, []⟩
def dstAt (ops : Array Oper) (i : Nat) : Option Nat := (ops[i]?).bind (·.dst)
def nEff (I : List DI) (f : Nat → Bool) : Nat → Nat
  | 0 => 0
  | n + 1 => nEff I f n + if (I.getD n .none).eff && f n then 1 else 0
def dirsO (o : Oper) : List Nat := (o.after.toList.filter fun e => Region.binds .any e).map fun e => e.on
def dirs (ops : Array Oper) (i : Nat) : List Nat := match ops[i]? with
  | some o => dirsO o
  | none => []
/-- The check of what is known. -/
def preB (dir : Nat → List Nat) (I : List DI) (i : Nat) : Bool :=
  ((dir i).all fun j => decide (j < i)) && (I.getD i .none).pre.all fun j => decide (j < i) && ((dir i).contains j || (dir i).any fun k => (I.getD k .none).pre.contains j)
def sameDst (a b : Option Nat) : Bool := match a, b with | some x, some y => x == y | _, _ => false
def rdDst (a : Option Nat) (l : List Nat) : Bool := match a with | some x => l.contains x | _ => false
def pairB (dst : Nat → Option Nat) (I : List DI) (j i : Nat) : Bool :=
  !(rdDst (dst j) (I.getD i .none).rd || rdDst (dst i) (I.getD j .none).rd || sameDst (dst j) (dst i) || ((I.getD i .none).eff && (I.getD j .none).eff)) || (I.getD i .none).pre.contains j
def phB (I : List DI) (n i : Nat) : Bool :=
  (I.getD i .none).eff || (let lo := nEff I (fun j => (I.getD i .none).pre.contains j) n; let hi := nEff I (fun k => !(I.getD k .none).pre.contains i) n;
    (List.range (n + 1)).all fun q => decide (q < lo) || decide (hi < q) || (I.getD i .none).ph.contains q)
def dstB (dst : Nat → Option Nat) (m i : Nat) : Bool := match dst i with | some t => decide (t < m) | none => true
def drawG (dst : Nat → Option Nat) (dir : Nat → List Nat) (I : List DI) (m n : Nat) : Bool :=
  (List.range n).all fun i => preB dir I i && phB I n i && dstB dst m i && (List.range i).all fun j => pairB dst I j i
def drawB (ops : Array Oper) (I : List DI) (m n : Nat) : Bool := decide (ops.size = n) && drawG (dstAt ops) (dirs ops) I m n
def drawF (I : List DI) (m : Nat) : Bool := drawG (fun i => (I.getD i .none).dst) (fun i => (I.getD i .none).dir) I m I.length
theorem drawB_of {l : List Oper} {I : List DI} {m : Nat} (h : l.map (fun o => (o.dst, dirsO o)) = I.map fun D : DI => (D.dst, D.dir)) (hF : drawF I m = true) : drawB l.toArray I m l.length = true := by
  have hl : l.length = I.length := by simpa using congrArg List.length h
  have hi : ∀ i : Nat, (l[i]?.map fun o => (o.dst, dirsO o)) = I[i]?.map fun D : DI => (D.dst, D.dir) := fun (i : Nat) => by
    have := congrArg (fun (q : List (Option Tmp × List Nat)) => q[i]?) h
    simpa only [List.getElem?_map] using this
  have h1 : dstAt l.toArray = fun i => (I.getD i .none).dst := by
    funext i
    have := hi i
    simp only [dstAt, List.getElem?_toArray, List.getD_eq_getElem?_getD]
    cases hx : l[i]? <;> cases hy : I[i]? <;> simp [hx, hy] at this ⊢
    · rfl
    · exact this.1
  have h2 : dirs l.toArray = fun i => (I.getD i .none).dir := by
    funext i
    have := hi i
    simp only [dirs, List.getElem?_toArray, List.getD_eq_getElem?_getD]
    cases hx : l[i]? <;> cases hy : I[i]? <;> simp [hx, hy] at this ⊢
    · rfl
    · exact this.2
  unfold drawB
  rw [h1, h2]
  unfold drawF at hF
  rw [← hl] at hF
  rw [hF]
  simp

def rst (env : List (Nat × DV)) (l : List Nat) : List (Nat × DV) := l.map fun t => (t, lk env t)
theorem rst_agree (env : List (Nat × DV)) : ∀ l, agree env (rst env l)
  | [] => trivial
  | _ :: r => ⟨rfl, rst_agree env r⟩

/-- One operation in the order of the text; p: how many effects came ahead. -/
def dop (C : Ctx) (ops : Array Oper) (φ : List (List Ob)) (D : DI) (p : Nat) (o : Oper) (env : List (Nat × DV)) (last : Bool) (K : XE → St → Prop) (next : DV → Prop) : Prop :=
  match gd ops (rst env D.rd) o with
  | some false => (D.eff = true → φ.getD (p + 1) [] = φ.getD p []) ∧ next .skip
  | some true =>
    if D.eff = true then ∃ out, OpDo C.P o ⟨rst env D.rd, φ.getD p []⟩ out (φ.getD (p + 1) []) ∧ match out with
      | .ret d => next d
      | .pan d => last = true ∧ K (.panic d) ⟨[], φ.getD (p + 1) []⟩
    else ∃ d, (∀ q ∈ D.ph, OpDo C.P o ⟨rst env D.rd, φ.getD q []⟩ (.ret d) (φ.getD q [])) ∧ next d
  | none => False
def dwalk (C : Ctx) (ops : Array Oper) (φ : List (List Ob)) (K : XE → St → Prop) : List DI → Nat → List Oper → List (Nat × DV) → Prop
  | _, p, [], env => K .normal ⟨env, φ.getD p []⟩
  | [], _, _ :: _, _ => False
  | D :: I, p, o :: rest, env => dop C ops φ D p o env rest.isEmpty K fun d => dwalk C ops φ K I (if D.eff then p + 1 else p) rest (upo env o.dst d)

section
variable {I : List DI} {f g : Nat → Bool}
theorem nEff_mono : ∀ n, (∀ j, j < n → (I.getD j .none).eff = true → f j = true → g j = true) → nEff I f n ≤ nEff I g n
  | 0, _ => Nat.le_refl _
  | n + 1, h => by
    have := nEff_mono n fun j hj => h j (by omega)
    simp only [nEff]
    have hn := h n (by omega)
    cases he : (I.getD n .none).eff <;> cases hf : f n <;> cases hg : g n <;> simp_all <;> omega
theorem nEff_le : ∀ n, nEff I f n ≤ n
  | 0 => Nat.le_refl _
  | n + 1 => by
    have := nEff_le n
    simp only [nEff]
    split <;> omega
theorem nEff_congr (n : Nat) (h : ∀ j, j < n → (I.getD j .none).eff = true → f j = g j) : nEff I f n = nEff I g n :=
  Nat.le_antisymm (nEff_mono n fun j hj he hf => (h j hj he) ▸ hf) (nEff_mono n fun j hj he hf => (h j hj he).symm ▸ hf)
theorem nEff_at {i : Nat} : ∀ n, i ≤ n → (∀ j, j < i → (I.getD j .none).eff = true → f j = true) → (∀ j, i ≤ j → j < n → (I.getD j .none).eff = true → f j = false) → nEff I f n = nEff I (fun _ => true) i
  | 0, hi, h1, _ => by
    obtain rfl : i = 0 := by omega
    rfl
  | n + 1, hi, h1, h2 => by
    rcases Nat.lt_or_ge n i with hn | hn
    · obtain rfl : i = n + 1 := by omega
      exact nEff_congr _ fun j hj he => h1 j hj he
    · have := nEff_at n hn h1 fun j a b => h2 j a (by omega)
      simp only [nEff]
      have hq := h2 n hn (by omega)
      cases he : (I.getD n .none).eff <;> simp_all
theorem nEff_set {i : Nat} (hf : f i = false) : ∀ n, nEff I (fun j => decide (j = i) || f j) n = nEff I f n + if (I.getD i .none).eff = true ∧ i < n then 1 else 0
  | 0 => by simp [nEff]
  | n + 1 => by
    have := nEff_set hf n
    simp only [nEff, this]
    by_cases hn : n = i
    · subst hn
      simp [hf]
    · have h1 : (i < n + 1) = (i < n) := propext (by omega)
      simp only [hn, decide_false, Bool.false_or, h1]
      omega
end

/-- The value of a slot where some operations are listed. -/
def vAt (ops : Array Oper) (env0 : List (Nat × DV)) (ds : Nat → DV) (f : Nat → Bool) : Nat → Nat → DV
  | 0, t => lk env0 t
  | n + 1, t => if f n = true ∧ dstAt ops n = some t then ds n else vAt ops env0 ds f n t
section
variable {ops : Array Oper} {env0 : List (Nat × DV)} {ds : Nat → DV} {f g : Nat → Bool}
theorem vAt_congr {t : Nat} : ∀ n, (∀ j, j < n → dstAt ops j = some t → f j = g j) → vAt ops env0 ds f n t = vAt ops env0 ds g n t
  | 0, _ => rfl
  | n + 1, h => by
    simp only [vAt]
    rw [vAt_congr n fun j hj => h j (by omega)]
    by_cases hd : dstAt ops n = some t
    · rw [h n (by omega) hd]
    · simp [hd]
theorem vAt_cut {t i : Nat} : ∀ n, i ≤ n → (∀ j, i ≤ j → j < n → dstAt ops j = some t → f j = false) → vAt ops env0 ds f n t = vAt ops env0 ds f i t
  | 0, hi, _ => by
    obtain rfl : i = 0 := by omega
    rfl
  | n + 1, hi, h => by
    rcases Nat.lt_or_ge n i with hn | hn
    · obtain rfl : i = n + 1 := by omega
      rfl
    · simp only [vAt]
      rw [vAt_cut n hn fun j a b => h j a (by omega), if_neg (fun ⟨a, b⟩ => by rw [h n hn (by omega) b] at a; cases a)]
theorem vAt_set {t i : Nat} : ∀ n, i < n → (∀ j, i < j → j < n → dstAt ops i = some t → dstAt ops j = some t → f j = false) → vAt ops env0 ds (fun j => decide (j = i) || f j) n t = if dstAt ops i = some t then ds i else vAt ops env0 ds f n t
  | 0, hi, _ => by omega
  | n + 1, hi, h => by
    by_cases hd : dstAt ops i = some t
    · rw [if_pos hd, vAt_cut (i := i + 1) (n + 1) (by omega) (fun j a b c => by
        rw [h j (by omega) b hd c]
        simp only [Bool.or_false, decide_eq_false_iff_not]
        omega)]
      simp [vAt, hd]
    · rw [if_neg hd]
      refine vAt_congr _ fun j _ hj => ?_
      have : j ≠ i := fun e => hd (e ▸ hj)
      simp [this]
theorem lk_upo (e : List (Nat × DV)) (o : Option Nat) (d : DV) (t : Nat) : lk (upo e o d) t = if o = some t then d else lk e t := by
  cases o with
  | none => simp [upo]
  | some q => simp only [upo, lk_up, Option.some.injEq]
theorem vAt_all {E : Nat → List (Nat × DV)} (h0 : E 0 = env0) : ∀ n, (∀ k, k < n → E (k + 1) = upo (E k) (dstAt ops k) (ds k)) → ∀ t, vAt ops env0 ds (fun _ => true) n t = lk (E n) t
  | 0, _, t => by rw [h0]; rfl
  | n + 1, h, t => by
    rw [h n (by omega), lk_upo]
    simp only [vAt, true_and]
    rw [vAt_all h0 n (fun k hk => h k (by omega)) t]
end

def isPan (C : Ctx) (ops : Array Oper) (φ : List (List Ob)) (I : List DI) (K : XE → St → Prop) (E : Nat → List (Nat × DV)) (k : Nat) : Prop :=
  ∃ o d, ops[k]? = some o ∧ gd ops (rst (E k) (I.getD k .none).rd) o = some true ∧ (I.getD k .none).eff = true ∧
    OpDo C.P o ⟨rst (E k) (I.getD k .none).rd, φ.getD (nEff I (fun _ => true) k) []⟩ (.pan d) (φ.getD (nEff I (fun _ => true) k + 1) []) ∧ K (.panic d) ⟨[], φ.getD (nEff I (fun _ => true) k + 1) []⟩
def isRet (C : Ctx) (ops : Array Oper) (φ : List (List Ob)) (I : List DI) (E : Nat → List (Nat × DV)) (ds : Nat → DV) (k : Nat) : Prop :=
  ∃ o, ops[k]? = some o ∧
    ((gd ops (rst (E k) (I.getD k .none).rd) o = some false ∧ ds k = .skip ∧ ((I.getD k .none).eff = true → φ.getD (nEff I (fun _ => true) k + 1) [] = φ.getD (nEff I (fun _ => true) k) [])) ∨
    (gd ops (rst (E k) (I.getD k .none).rd) o = some true ∧ (I.getD k .none).eff = true ∧ OpDo C.P o ⟨rst (E k) (I.getD k .none).rd, φ.getD (nEff I (fun _ => true) k) []⟩ (.ret (ds k)) (φ.getD (nEff I (fun _ => true) k + 1) [])) ∨
    (gd ops (rst (E k) (I.getD k .none).rd) o = some true ∧ (I.getD k .none).eff = false ∧ ∀ q ∈ (I.getD k .none).ph, OpDo C.P o ⟨rst (E k) (I.getD k .none).rd, φ.getD q []⟩ (.ret (ds k)) (φ.getD q [])))

theorem dwalk_out {C : Ctx} {ops : Array Oper} {φ : List (List Ob)} {I : List DI} {K : XE → St → Prop} : ∀ (l : List Oper) (i : Nat) (env : List (Nat × DV)) (I' : List DI) (p : Nat),
    i ≤ ops.size → ops.toList.drop i = l → I.drop i = I' → p = nEff I (fun _ => true) i → dwalk C ops φ K I' p l env →
    ∃ (E : Nat → List (Nat × DV)) (ds : Nat → DV), E i = env ∧ (∀ k, i ≤ k → k < ops.size → E (k + 1) = upo (E k) (dstAt ops k) (ds k) ∧ (isRet C ops φ I E ds k ∨ isPan C ops φ I K E k)) ∧
      (K .normal ⟨E ops.size, φ.getD (nEff I (fun _ => true) ops.size) []⟩ ∨ ∃ k, i ≤ k ∧ k < ops.size ∧ isPan C ops φ I K E k) := by
  intro l
  induction l with
  | nil =>
    intro i env I' p hi hl _ hp h
    have : ops.size ≤ i := by
      have := congrArg List.length hl
      simp at this
      omega
    obtain rfl : i = ops.size := by omega
    refine ⟨fun _ => env, fun _ => .undef, rfl, fun k a b => by omega, .inl ?_⟩
    have : dwalk C ops φ K I' p [] env = K .normal ⟨env, φ.getD p []⟩ := by cases I' <;> rfl
    rw [this, hp] at h
    exact h
  | cons o rest ih =>
    intro i env I' p hi hl hI hp h
    cases hI' : I' with
    | nil => rw [hI'] at h; exact h.elim
    | cons D J =>
      rw [hI'] at h hI
      have hlt : i < ops.size := by
        have := congrArg List.length hl
        simp at this
        omega
      have ho : ops[i]? = some o := by
        have := congrArg List.head? hl
        rw [List.head?_drop] at this
        simpa using this
      have hr : ops.toList.drop (i + 1) = rest := by
        have := congrArg List.tail hl
        rwa [List.tail_drop] at this
      have hD : I.getD i .none = D := by
        have := congrArg List.head? hI
        rw [List.head?_drop] at this
        simp only [List.head?_cons] at this
        rw [List.getD_eq_getElem?_getD, this]
        rfl
      have hJ : I.drop (i + 1) = J := by
        have := congrArg List.tail hI
        rwa [List.tail_drop] at this
      have hda : dstAt ops i = o.dst := by simp [dstAt, ho]
      simp only [dwalk, dop] at h
      have go : ∀ d, dwalk C ops φ K J (if D.eff = true then p + 1 else p) rest (upo env o.dst d) → (∀ (E : Nat → List (Nat × DV)) (ds : Nat → DV), E i = env → ds i = d → isRet C ops φ I E ds i) →
          ∃ (E : Nat → List (Nat × DV)) (ds : Nat → DV), E i = env ∧ (∀ k, i ≤ k → k < ops.size → E (k + 1) = upo (E k) (dstAt ops k) (ds k) ∧ (isRet C ops φ I E ds k ∨ isPan C ops φ I K E k)) ∧
            (K .normal ⟨E ops.size, φ.getD (nEff I (fun _ => true) ops.size) []⟩ ∨ ∃ k, i ≤ k ∧ k < ops.size ∧ isPan C ops φ I K E k) := by
        intro d hw hret
        obtain ⟨E, ds, h0, h1, h2⟩ := ih (i + 1) _ J _ (by omega) hr hJ (by
          simp only [nEff, hD, Bool.and_true, ← hp]
          split <;> rfl) hw
        have e1 : ∀ k, i < k → (fun k => if k = i then env else E k) k = E k := fun k hk => if_neg (by omega)
        have e2 : ∀ k, i < k → (fun k => if k = i then d else ds k) k = ds k := fun k hk => if_neg (by omega)
        have pan : ∀ k, i < k → isPan C ops φ I K E k → isPan C ops φ I K (fun k => if k = i then env else E k) k := by
          intro k hk hp
          unfold isPan
          rw [e1 k hk]
          exact hp
        refine ⟨fun k => if k = i then env else E k, fun k => if k = i then d else ds k, if_pos rfl, fun k hk hk' => ?_, ?_⟩
        · rcases Nat.eq_or_lt_of_le hk with rfl | hlt'
          · refine ⟨?_, .inl (hret _ _ (if_pos rfl) (if_pos rfl))⟩
            rw [e1 _ (by omega), h0]
            simp [hda]
          · obtain ⟨a, b⟩ := h1 k hlt' hk'
            refine ⟨?_, b.imp (fun q => ?_) (pan k hlt')⟩
            · rw [e1 _ (by omega), e1 _ hlt', e2 _ hlt', a]
            · unfold isRet
              rw [e1 k hlt', e2 k hlt']
              exact q
        · refine h2.imp (fun q => ?_) (fun ⟨k, a, b, c⟩ => ⟨k, by omega, b, pan k a c⟩)
          rw [e1 _ hlt]
          exact q
      split at h
      · rename_i hg
        refine go _ h.2 fun E ds he hd => ⟨o, ho, .inl ?_⟩
        rw [he, hd, hD, ← hp]
        exact ⟨hg, rfl, h.1⟩
      · rename_i hg
        split at h
        · rename_i hE
          obtain ⟨out, hdo, hm⟩ := h
          cases out with
          | ret d =>
            refine go d (by rw [if_pos hE]; exact hm) fun E ds he hd => ⟨o, ho, .inr (.inl ?_)⟩
            rw [he, hd, hD, ← hp]
            exact ⟨hg, hE, hdo⟩
          | pan d =>
            replace hm : rest.isEmpty = true ∧ K (.panic d) ⟨[], φ.getD (p + 1) []⟩ := hm
            have hrest : rest = [] := by simpa using hm.1
            rw [hrest] at hr
            have hsz : ops.size ≤ i + 1 := by
              have := congrArg List.length hr
              simp at this
              omega
            have hpan : isPan C ops φ I K (fun k => if k ≤ i then env else upo env o.dst .undef) i := by
              refine ⟨o, d, ho, ?_⟩
              simp only [Nat.le_refl, if_true, hD, ← hp]
              exact ⟨hg, hE, hdo, hm.2⟩
            refine ⟨fun k => if k ≤ i then env else upo env o.dst .undef, fun _ => .undef, if_pos (Nat.le_refl _), fun k a b => ?_, .inr ⟨i, Nat.le_refl _, hlt, hpan⟩⟩
            obtain rfl : k = i := by omega
            refine ⟨?_, .inr hpan⟩
            dsimp only
            rw [if_neg (by omega), if_pos (Nat.le_refl _), hda]
        · rename_i hE
          obtain ⟨d, hdo, hm⟩ := h
          refine go d (by rw [if_neg hE]; exact hm) fun E ds he hd => ⟨o, ho, .inr (.inr ?_)⟩
          rw [he, hd, hD]
          exact ⟨hg, by simpa using hE, hdo⟩
      · exact h.elim

theorem mem_ready {md : Region.Mode} {ops : Array Oper} {listed : Array Bool} {i : Nat} : i ∈ Region.ready md ops listed ↔ i < ops.size ∧ listed.getD i true = false ∧ ∃ o, ops[i]? = some o ∧ ∀ e ∈ o.after.toList, Region.binds md e = true → listed.getD e.on false = true := by
  unfold Region.ready
  rw [List.mem_filter, List.mem_range]
  refine and_congr_right fun hi => ?_
  rw [Array.getElem?_eq_getElem hi]
  simp only [Option.map_some, Option.getD_some, Bool.and_eq_true, Bool.not_eq_true', Option.some.injEq, exists_eq_left']
  refine and_congr_right fun _ => ?_
  rw [Array.all_eq_true']
  simp only [Array.mem_toList_iff, Bool.or_eq_true, Bool.not_eq_true']
  refine forall_congr' fun e => forall_congr' fun _ => ?_
  cases Region.binds md e <;> simp

def cnt (f : Nat → Bool) : Nat → Nat
  | 0 => 0
  | n + 1 => cnt f n + if f n = true then 0 else 1
theorem cnt_zero {f : Nat → Bool} : ∀ n, cnt f n = 0 → ∀ i, i < n → f i = true
  | 0, _, i, hi => by omega
  | n + 1, h, i, hi => by
    simp only [cnt] at h
    rcases Nat.lt_or_ge i n with hn | hn
    · exact cnt_zero n (by omega) i hn
    · obtain rfl : i = n := by omega
      by_cases hf : f i = true
      · exact hf
      · rw [if_neg hf] at h
        omega
theorem cnt_set {f : Nat → Bool} {i : Nat} (hf : f i = false) : ∀ n, cnt (fun j => decide (j = i) || f j) n + (if i < n then 1 else 0) = cnt f n
  | 0 => by simp [cnt]
  | n + 1 => by
    have := cnt_set hf n
    simp only [cnt]
    by_cases hn : n = i
    · subst hn
      simp [hf] at this ⊢
      exact this
    · have h1 : (i < n + 1) = (i < n) := propext (by omega)
      simp only [hn, decide_false, Bool.false_or, h1]
      omega
theorem cnt_le {f : Nat → Bool} : ∀ n, cnt f n ≤ n
  | 0 => Nat.le_refl _
  | n + 1 => by
    have := @cnt_le f n
    simp only [cnt]
    split <;> omega
theorem agree_of {env e : List (Nat × DV)} : ∀ {l : List Nat}, (∀ t ∈ l, lk env t = lk e t) → agree env (rst e l)
  | [], _ => trivial
  | _ :: r, h => ⟨h _ (by simp), agree_of fun t ht => h t (by simp [ht])⟩
theorem getD_any {l : Array Bool} {i : Nat} (h : i < l.size) (a b : Bool) : l.getD i a = l.getD i b := by
  simp [Array.getD_eq_getD_getElem?, Array.getElem?_eq_getElem h]

theorem draw_any {C : Ctx} {ops : Array Oper} {φ : List (List Ob)} {I : List DI} {K : XE → St → Prop} {E : Nat → List (Nat × DV)} {ds : Nat → DV}
    (hB : drawB ops I C.n ops.size = true)
    (hE : ∀ k, k < ops.size → E (k + 1) = upo (E k) (dstAt ops k) (ds k) ∧ (isRet C ops φ I E ds k ∨ isPan C ops φ I K E k))
    (hK : K .normal ⟨E ops.size, φ.getD (nEff I (fun _ => true) ops.size) []⟩ ∨ ∃ k, k < ops.size ∧ isPan C ops φ I K E k) :
    ∀ (fuel : Nat) (listed : Array Bool) (a : Act) (w : World), listed.size = ops.size →
      (∀ i, i < ops.size → listed.getD i false = true → (∀ j ∈ (I.getD i .none).pre, listed.getD j false = true) ∧ ¬ isPan C ops φ I K E i) →
      cnt (fun i => listed.getD i false) ops.size ≤ fuel →
      (∃ env, Rel C ⟨env, φ.getD (nEff I (fun i => listed.getD i false) ops.size) []⟩ a w ∧ ∀ t, lk env t = vAt ops (E 0) ds (fun i => listed.getD i false) ops.size t) →
      wpAnyIn C.fe 0 C.P .any ops (Post C K) fuel listed a w := by
  simp only [drawB, drawG, decide_true, Bool.true_and, List.all_eq_true, List.mem_range, Bool.and_eq_true] at hB
  have hdirs : ∀ i, i < ops.size → ∀ j ∈ dirs ops i, j < i := fun i hi j hj => by
    have := (hB i hi).1.1.1
    simp only [preB, Bool.and_eq_true, List.all_eq_true, decide_eq_true_eq] at this
    exact this.1 j hj
  have hpre : ∀ i, i < ops.size → ∀ j ∈ (I.getD i .none).pre, j ∈ dirs ops i ∨ ∃ k ∈ dirs ops i, j ∈ (I.getD k .none).pre := fun i hi j hj => by
    have := (hB i hi).1.1.1
    simp only [preB, Bool.and_eq_true, List.all_eq_true, decide_eq_true_eq, Bool.or_eq_true, List.any_eq_true, List.contains_iff_mem] at this
    exact (this.2 j hj).2
  have hpair : ∀ i j, j < i → i < ops.size → (rdDst (dstAt ops j) (I.getD i .none).rd = true ∨ rdDst (dstAt ops i) (I.getD j .none).rd = true ∨ sameDst (dstAt ops j) (dstAt ops i) = true ∨ ((I.getD i .none).eff = true ∧ (I.getD j .none).eff = true)) → j ∈ (I.getD i .none).pre := fun i j hj hi h => by
    have := (hB i hi).2 j hj
    simp only [pairB, Bool.or_eq_true, Bool.not_eq_true', Bool.or_eq_false_iff, Bool.and_eq_false_iff, List.contains_iff_mem] at this
    rcases this with ⟨⟨⟨h1, h2⟩, h3⟩, h4⟩ | h
    · rcases h with h | h | h | ⟨h, h'⟩
      · rw [h1] at h; cases h
      · rw [h2] at h; cases h
      · rw [h3] at h; cases h
      · rcases h4 with h4 | h4
        · rw [h4] at h; cases h
        · rw [h4] at h'; cases h'
    · exact h
  have hdst : ∀ i, i < ops.size → ∀ t, dstAt ops i = some t → t < C.n := fun i hi t ht => by
    have := (hB i hi).1.2
    simp only [dstB, ht, decide_eq_true_eq] at this
    exact this
  have post : ∀ (listed : Array Bool) (a : Act) (w : World),
      (∀ i, i < ops.size → listed.getD i false = true → (∀ j ∈ (I.getD i .none).pre, listed.getD j false = true) ∧ ¬ isPan C ops φ I K E i) →
      (∃ env, Rel C ⟨env, φ.getD (nEff I (fun i => listed.getD i false) ops.size) []⟩ a w ∧ ∀ t, lk env t = vAt ops (E 0) ds (fun i => listed.getD i false) ops.size t) →
      (∀ i, i < ops.size → listed.getD i false = true) → Post C K .normal a w := by
    intro listed a w hinv ⟨env, hrel, henv⟩ hall
    rcases hK with hK | ⟨k, hk, hp⟩
    · refine ⟨_, hK, hrel.weak ⟨?_, fun t => .inr ?_⟩⟩
      · dsimp only
        rw [nEff_congr (f := fun i => listed.getD i false) (g := fun _ => true) _ fun j hj _ => hall j hj]
      · dsimp only
        rw [henv t, vAt_congr (g := fun _ => true) _ fun j hj _ => hall j hj]
        exact (vAt_all rfl _ (fun k hk => (hE k hk).1) t).symm
    · exact absurd hp (hinv k hk (hall k hk)).2
  intro fuel
  induction fuel with
  | zero =>
    intro listed a w hs hinv hc hrel
    have hall := cnt_zero ops.size (by omega : cnt (fun i => listed.getD i false) ops.size = 0)
    refine ⟨List.eq_nil_iff_forall_not_mem.2 fun i hi => ?_, post listed a w hinv hrel hall⟩
    obtain ⟨h1, h2, _⟩ := mem_ready.1 hi
    have := hall i h1
    rw [getD_any (by omega) true false] at h2
    rw [h2] at this
    cases this
  | succ fuel ih =>
    intro listed a w hs hinv hc hrel
    refine ⟨fun hr => post listed a w hinv hrel ?_, fun i hi => ?_⟩
    · intro i
      induction i using Nat.strongRecOn with
      | _ i ihi =>
        intro hlt
        cases hf : listed.getD i false with
        | true => rfl
        | false =>
          have hmem : i ∈ Region.ready .any ops listed := by
            refine mem_ready.2 ⟨hlt, by rw [getD_any (by omega) true false]; exact hf, ops[i], Array.getElem?_eq_getElem hlt, fun e he hb => ?_⟩
            have hd : e.on ∈ dirs ops i := by
              simp only [dirs, dirsO, Array.getElem?_eq_getElem hlt]
              exact List.mem_map.2 ⟨e, List.mem_filter.2 ⟨he, hb⟩, rfl⟩
            exact ihi e.on (hdirs i hlt _ hd) (Nat.lt_trans (hdirs i hlt _ hd) hlt)
          rw [hr] at hmem
          cases hmem
    · obtain ⟨hlt, hl, o, ho, haft⟩ := mem_ready.1 hi
      rw [getD_any (by omega) true false] at hl
      obtain ⟨env, ⟨F, μ, hr⟩, henv⟩ := hrel
      have hdl : ∀ j ∈ dirs ops i, listed.getD j false = true := by
        intro j hj
        simp only [dirs, dirsO, ho] at hj
        obtain ⟨e, he, rfl⟩ := List.mem_map.1 hj
        obtain ⟨he, hb⟩ := List.mem_filter.1 he
        exact haft e he hb
      have hpl : ∀ j ∈ (I.getD i .none).pre, listed.getD j false = true := by
        intro j hj
        rcases hpre i hlt j hj with h | ⟨k, hk, h⟩
        · exact hdl j h
        · exact (hinv k (Nat.lt_trans (hdirs i hlt k hk) hlt) (hdl k hk)).1 j h
      have hlate : ∀ j, j < ops.size → i ∈ (I.getD j .none).pre → listed.getD j false = false := by
        intro j hj hm
        cases hf : listed.getD j false with
        | false => rfl
        | true =>
          have := (hinv j hj hf).1 i hm
          rw [hl] at this
          cases this
      have hda : dstAt ops i = o.dst := by simp [dstAt, ho]
      have hrd : ∀ t ∈ (I.getD i .none).rd, lk env t = lk (E i) t := by
        intro t ht
        rw [henv t, vAt_cut (i := i) _ (by omega), vAt_congr (g := fun _ => true), vAt_all rfl _ fun k hk => (hE k (by omega)).1]
        · intro j hj hd
          exact hpl j (hpair i j hj hlt (.inl (by simp only [rdDst, hd]; exact List.contains_iff_mem.2 ht)))
        · intro j hj hj' hd
          rcases Nat.eq_or_lt_of_le hj with rfl | hj
          · exact hl
          · exact hlate j hj' (hpair j i hj hj' (.inr (.inl (by simp only [rdDst, hd]; exact List.contains_iff_mem.2 ht))))
      have hw : Weak ⟨env, φ.getD (nEff I (fun i => listed.getD i false) ops.size) []⟩ ⟨rst (E i) (I.getD i .none).rd, φ.getD (nEff I (fun i => listed.getD i false) ops.size) []⟩ :=
        Weak.of_agree rfl (agree_of hrd)
      have hr2 := hr.weak hw
      have heff : (I.getD i .none).eff = true → nEff I (fun i => listed.getD i false) ops.size = nEff I (fun _ => true) i := by
        intro he
        refine nEff_at _ (by omega) (fun j hj hej => hpl j (hpair i j hj hlt (.inr (.inr (.inr ⟨he, hej⟩))))) fun j hj hj' hej => ?_
        rcases Nat.eq_or_lt_of_le hj with rfl | hj
        · exact hl
        · exact hlate j hj' (hpair j i hj hj' (.inr (.inr (.inr ⟨hej, he⟩))))
      have hd0 : ∀ t, o.dst = some t → t < C.n := fun t ht => hdst i hlt t (hda.trans ht)
      have hget : (fun k => (listed.setIfInBounds i true).getD k false) = fun k => decide (k = i) || listed.getD k false := by
        funext k
        simp only [Array.getD_eq_getD_getElem?, Array.getElem?_setIfInBounds]
        by_cases hk : i = k
        · subst hk
          simp [hs, hlt]
        · simp [hk, show ¬ k = i from fun e => hk e.symm]
      have next : ∀ (v : Value) (w' : World), ¬ isPan C ops φ I K E i →
          Rel C ⟨upo env o.dst (ds i), φ.getD (nEff I (fun k => decide (k = i) || listed.getD k false) ops.size) []⟩ (a.put o.dst v) w' → wpAnyIn C.fe 0 C.P .any ops (Post C K) fuel (listed.setIfInBounds i true) (a.put o.dst v) w' := by
        intro v w' hnp hrel'
        refine ih _ _ _ (by simp [hs]) ?_ ?_ ⟨upo env o.dst (ds i), by rw [hget]; exact hrel', fun t => ?_⟩
        · intro k hk hf
          have e : ∀ k, (listed.setIfInBounds i true).getD k false = (decide (k = i) || listed.getD k false) := fun k => congrFun hget k
          rw [e] at hf
          have hor : k = i ∨ listed.getD k false = true := by simpa using hf
          rcases hor with rfl | hf
          · exact ⟨fun j hj => by rw [e, hpl j hj]; simp, hnp⟩
          · exact ⟨fun j hj => by rw [e, (hinv k hk hf).1 j hj]; simp, (hinv k hk hf).2⟩
        · rw [hget]
          have := cnt_set (f := fun k => listed.getD k false) hl ops.size
          rw [if_pos hlt] at this
          omega
        · rw [hget, vAt_set _ hlt (fun j hj hj' hd hd' => hlate j hj' (hpair j i hj hj' (.inr (.inr (.inl (by simp only [sameDst, hd', hd]; exact beq_self_eq_true _)))))), lk_upo, hda, henv t]
      simp only [wpOpIn, ho]
      by_cases hpan : isPan C ops φ I K E i
      · obtain ⟨o', d, ho', hg, he, hdo, hk⟩ := hpan
        obtain rfl : o = o' := Option.some.inj (ho.symm.trans ho')
        rw [if_pos (gd_wanted hr2 hg)]
        rw [heff he] at hr2
        refine (hdo C.rd a w F μ _ _ hr2.hr (rep_ev hr2) fun v w' F' μ' haf hrep => ?_)
        exact ⟨⟨[], _⟩, d, v, F', μ', hk, rfl, ⟨haf.hr, fun _ => .undef, hr2.step.trans haf.step, hr2.fr.trans haf.fr,
          fun c b hb => (haf.col c b hb).elim (hr2.col c b) (fun q => .inr (Nat.le_trans hr2.fr.size q)), hr2.size, hr2.defers.step haf.step⟩, hrep⟩
      · have hret := (hE i hlt).2.resolve_right hpan
        obtain ⟨o', ho', hret⟩ := hret
        obtain rfl : o = o' := Option.some.inj (ho.symm.trans ho')
        rcases hret with ⟨hg, hd, he⟩ | ⟨hg, he, hdo⟩ | ⟨hg, he, hdo⟩
        · rw [if_neg (by rw [gd_wanted hr2 hg]; simp)]
          refine ⟨fun _ _ => trivial, ?_⟩
          refine next _ _ hpan ?_
          have ho : φ.getD (nEff I (fun k => decide (k = i) || listed.getD k false) ops.size) [] = φ.getD (nEff I (fun i => listed.getD i false) ops.size) [] := by
            rw [nEff_set hl]
            cases hq : (I.getD i .none).eff with
            | false => simp
            | true => rw [if_pos ⟨rfl, hlt⟩, heff hq]; exact he hq
          rw [ho, hd]
          exact ⟨F, μ, hr.hr, env_put (C := C) (st := ⟨env, _⟩) hr.size hr.env o.dst hd0 .skip, hr.step, hr.fr, hr.col, by rw [put_size]; exact hr.size, by rw [put_defers]; exact hr.defers⟩
        · rw [if_pos (gd_wanted hr2 hg)]
          rw [heff he] at hr2 hr
          refine (hdo C.rd a w F μ _ _ hr2.hr (rep_ev hr2) fun v w' F' μ' haf hrep => next _ _ hpan ?_)
          rw [nEff_set hl, if_pos ⟨he, hlt⟩, heff he]
          exact ⟨F', μ', haf.hr, env_put (C := C) (st := ⟨env, φ.getD (nEff I (fun _ => true) i) []⟩) hr.size (fun t => (hr.env t).step haf.step) o.dst hd0 hrep, hr.step.trans haf.step, hr.fr.trans haf.fr,
            fun c b hb => (haf.col c b hb).elim (hr.col c b) (fun q => .inr (Nat.le_trans hr.fr.size q)), by rw [put_size]; exact hr.size, by rw [put_defers]; exact hr.defers.step haf.step⟩
        · rw [if_pos (gd_wanted hr2 hg)]
          have hph : nEff I (fun i => listed.getD i false) ops.size ∈ (I.getD i .none).ph := by
            have := (hB i hlt).1.1.2
            simp only [phB, he, Bool.false_or, List.all_eq_true, List.mem_range, Bool.or_eq_true, decide_eq_true_eq, List.contains_iff_mem] at this
            rcases this (nEff I (fun i => listed.getD i false) ops.size) (by have := nEff_le (I := I) (f := fun i => listed.getD i false) ops.size; omega) with (h | h) | h
            · refine absurd h (Nat.not_lt.2 (nEff_mono _ fun j hj _ hc => hpl j (List.contains_iff_mem.1 hc)))
            · refine absurd h (Nat.not_lt.2 (nEff_mono _ fun j hj _ hc => ?_))
              cases hq : (I.getD j .none).pre.contains i with
              | false => rfl
              | true =>
                rw [hlate j hj (List.contains_iff_mem.1 hq)] at hc
                cases hc
            · exact h
          refine (hdo _ hph C.rd a w F μ _ _ hr2.hr (rep_ev hr2) fun v w' F' μ' haf hrep => next _ _ hpan ?_)
          rw [nEff_set hl, if_neg (fun h => by rw [he] at h; cases h.1), Nat.add_zero]
          exact ⟨F', μ', haf.hr, env_put (C := C) (st := ⟨env, _⟩) hr.size (fun t => (hr.env t).step haf.step) o.dst hd0 hrep, hr.step.trans haf.step, hr.fr.trans haf.fr,
            fun c b hb => (haf.col c b hb).elim (hr.col c b) (fun q => .inr (Nat.le_trans hr.fr.size q)), by rw [put_size]; exact hr.size, by rw [put_defers]; exact hr.defers.step haf.step⟩
end Go.VL
end
section
namespace Go.VL
open Go

/-! ### Calls -/
theorem SWops.callx {C : Ctx} {P : Program} {ops : Array Oper} {rest : List Oper} {o : Oper} {st : St} {K : XE → St → Prop} {g : Operand} {xs : Array Operand} {ts : Array TypeId} {f : FuncId} {args caps : List DV} {d : DV} {σ' : List Ob}
    (hP : C.P = P) (hd : dstOk C.n [o] = true) (hok : Ok P f args st.ob (.ret d) σ') (hg : gd ops st.env o = some true) (ho : o.op = .call { callee := .value g, args := xs, argTypes := ts }) (hf : ev st.env g = .fn f caps)
    (ha : xs.toList.map (ev st.env) ++ caps = args) (h : SWops C ops rest ⟨upo st.env o.dst d, σ'⟩ K) : SWops C ops (o :: rest) st K := by
  subst hP; subst ha
  refine SWops.call hg (fun t ht => ?_) ho hf hok h
  simp only [dstOk, List.all_cons, ht, List.all_nil, Bool.and_true, decide_eq_true_eq] at hd
  exact hd
theorem SWops.callp {C : Ctx} {P : Program} {ops : Array Oper} {rest : List Oper} {o : Oper} {st : St} {K : XE → St → Prop} {g : Operand} {xs : Array Operand} {ts : Array TypeId} {f : FuncId} {args caps : List DV} {d : DV} {σ' : List Ob}
    (hP : C.P = P) (hd : dstOk C.n [o] = true) (hok : Ok P f args st.ob (.pan d) σ') (hg : gd ops st.env o = some true) (ho : o.op = .call { callee := .value g, args := xs, argTypes := ts }) (hf : ev st.env g = .fn f caps)
    (ha : xs.toList.map (ev st.env) ++ caps = args) (h : K (.panic d) ⟨st.env, σ'⟩) : SWops C ops (o :: rest) st K := by
  subst hP; subst ha
  refine SWops.call hg (fun t ht => ?_) ho hf hok h
  simp only [dstOk, List.all_cons, ht, List.all_nil, Bool.and_true, decide_eq_true_eq] at hd
  exact hd

/-! ### Drawn regions -/
def pureDo (L : Lay) (φ : List (List Ob)) (env : List (Nat × DV)) (op : Op) (next : DV → Prop) (other : Prop) : List Nat → Prop
  | [] => False
  | q :: qs => match sop L ⟨env, φ.getD q []⟩ op with
    | some (d, ob') => ob' = φ.getD q [] ∧ (∀ r ∈ qs, sop L ⟨env, φ.getD r []⟩ op = some (d, φ.getD r [])) ∧ next d
    | none => other
def DCall (C : Ctx) (φ : List (List Ob)) (D : DI) (p : Nat) (o : Oper) (env : List (Nat × DV)) (last : Bool) (K : XE → St → Prop) (next : DV → Prop) : Prop :=
  if D.eff = true then ∃ out, OpDo C.P o ⟨env, φ.getD p []⟩ out (φ.getD (p + 1) []) ∧ match out with
      | .ret d => next d
      | .pan d => last = true ∧ K (.panic d) ⟨[], φ.getD (p + 1) []⟩
    else ∃ d, (∀ q ∈ D.ph, OpDo C.P o ⟨env, φ.getD q []⟩ (.ret d) (φ.getD q [])) ∧ next d
def dgo (C : Ctx) (L : Lay) (ops : Array Oper) (φ : List (List Ob)) (K : XE → St → Prop) : List DI → Nat → List Oper → List (Nat × DV) → Prop
  | _, p, [], env => K .normal ⟨env, φ.getD p []⟩
  | [], _, _ :: _, _ => False
  | D :: I, p, o :: rest, env => match gd ops (rst env D.rd) o with
    | some false => (D.eff = true → φ.getD (p + 1) [] = φ.getD p []) ∧ dgo C L ops φ K I (if D.eff then p + 1 else p) rest (upo env o.dst .skip)
    | some true => if Op.plain o.op = true then
        if D.eff = true then match sop L ⟨rst env D.rd, φ.getD p []⟩ o.op with
          | some (d, ob') => ob' = φ.getD (p + 1) [] ∧ dgo C L ops φ K I (p + 1) rest (upo env o.dst d)
          | none => DCall C φ D p o (rst env D.rd) rest.isEmpty K fun d => dgo C L ops φ K I (if D.eff then p + 1 else p) rest (upo env o.dst d)
        else pureDo L φ (rst env D.rd) o.op (fun d => dgo C L ops φ K I p rest (upo env o.dst d)) (DCall C φ D p o (rst env D.rd) rest.isEmpty K fun d => dgo C L ops φ K I (if D.eff then p + 1 else p) rest (upo env o.dst d)) D.ph
      else DCall C φ D p o (rst env D.rd) rest.isEmpty K fun d => dgo C L ops φ K I (if D.eff then p + 1 else p) rest (upo env o.dst d)
    | none => False
/-- What follows in a drawn region. -/
def DX (C : Ctx) (L : Lay) (ops : Array Oper) (φ : List (List Ob)) (K : XE → St → Prop) (I : List DI) (p : Nat) (rest : List Oper) (env : List (Nat × DV)) (dst : Option Tmp) (d : DV) : Prop := dgo C L ops φ K I p rest (upo env dst d)
theorem dgo_nil {C : Ctx} {L : Lay} {ops : Array Oper} {φ : List (List Ob)} {K : XE → St → Prop} {p : Nat} {env : List (Nat × DV)} : dgo C L ops φ K [] p [] env = K .normal ⟨env, φ.getD p []⟩ := propext Iff.rfl
theorem dgo_cons {C : Ctx} {L : Lay} {ops : Array Oper} {φ : List (List Ob)} {K : XE → St → Prop} {D : DI} {I : List DI} {p : Nat} {o : Oper} {rest : List Oper} {env : List (Nat × DV)} :
    dgo C L ops φ K (D :: I) p (o :: rest) env = match gd ops (rst env D.rd) o with
    | some false => (D.eff = true → φ.getD (p + 1) [] = φ.getD p []) ∧ DX C L ops φ K I (if D.eff then p + 1 else p) rest env o.dst .skip
    | some true => if Op.plain o.op = true then
        if D.eff = true then match sop L ⟨rst env D.rd, φ.getD p []⟩ o.op with
          | some (d, ob') => ob' = φ.getD (p + 1) [] ∧ DX C L ops φ K I (p + 1) rest env o.dst d
          | none => DCall C φ D p o (rst env D.rd) rest.isEmpty K (DX C L ops φ K I (if D.eff then p + 1 else p) rest env o.dst)
        else pureDo L φ (rst env D.rd) o.op (DX C L ops φ K I p rest env o.dst) (DCall C φ D p o (rst env D.rd) rest.isEmpty K (DX C L ops φ K I (if D.eff then p + 1 else p) rest env o.dst)) D.ph
      else DCall C φ D p o (rst env D.rd) rest.isEmpty K (DX C L ops φ K I (if D.eff then p + 1 else p) rest env o.dst)
    | none => False := propext Iff.rfl
theorem DX_eq {C : Ctx} {L : Lay} {ops : Array Oper} {φ : List (List Ob)} {K : XE → St → Prop} {I : List DI} {p : Nat} {rest : List Oper} {env : List (Nat × DV)} {dst : Option Tmp} {d : DV} :
    DX C L ops φ K I p rest env dst d = dgo C L ops φ K I p rest (upo env dst d) := propext Iff.rfl
theorem pureDo_cons {L : Lay} {φ : List (List Ob)} {env : List (Nat × DV)} {op : Op} {next : DV → Prop} {other : Prop} {q : Nat} {qs : List Nat} :
    pureDo L φ env op next other (q :: qs) = match sop L ⟨env, φ.getD q []⟩ op with
    | some (d, ob') => ob' = φ.getD q [] ∧ (∀ r ∈ qs, sop L ⟨env, φ.getD r []⟩ op = some (d, φ.getD r [])) ∧ next d
    | none => other := propext Iff.rfl
theorem DCall.effx {C : Ctx} {P : Program} {φ : List (List Ob)} {D : DI} {p : Nat} {o : Oper} {env : List (Nat × DV)} {last : Bool} {K : XE → St → Prop} {next : DV → Prop} {g : Operand} {xs : Array Operand} {ts : Array TypeId} {f : FuncId} {args caps : List DV} {d : DV}
    (hP : C.P = P) (hok : Ok P f args (φ.getD p []) (.ret d) (φ.getD (p + 1) [])) (he : D.eff = true) (ho : o.op = .call { callee := .value g, args := xs, argTypes := ts }) (hf : ev env g = .fn f caps)
    (ha : xs.toList.map (ev env) ++ caps = args) (h : next d) : DCall C φ D p o env last K next := by
  unfold DCall
  rw [if_pos he]
  subst hP; subst ha
  exact ⟨.ret d, OpDo.call ho hf hok, h⟩
theorem DCall.panx {C : Ctx} {P : Program} {φ : List (List Ob)} {D : DI} {p : Nat} {o : Oper} {env : List (Nat × DV)} {last : Bool} {K : XE → St → Prop} {next : DV → Prop} {g : Operand} {xs : Array Operand} {ts : Array TypeId} {f : FuncId} {args caps : List DV} {d : DV}
    (hP : C.P = P) (hok : Ok P f args (φ.getD p []) (.pan d) (φ.getD (p + 1) [])) (he : D.eff = true) (ho : o.op = .call { callee := .value g, args := xs, argTypes := ts }) (hf : ev env g = .fn f caps)
    (ha : xs.toList.map (ev env) ++ caps = args) (hl : last = true) (h : K (.panic d) ⟨[], φ.getD (p + 1) []⟩) : DCall C φ D p o env last K next := by
  unfold DCall
  rw [if_pos he]
  subst hP; subst ha
  exact ⟨.pan d, OpDo.call ho hf hok, hl, h⟩
theorem DCall.pure {C : Ctx} {P : Program} {φ : List (List Ob)} {D : DI} {p : Nat} {o : Oper} {env : List (Nat × DV)} {last : Bool} {K : XE → St → Prop} {next : DV → Prop} {g : Operand} {xs : Array Operand} {ts : Array TypeId} {f : FuncId} {args caps : List DV} {d : DV}
    (hP : C.P = P) (hok : ∀ q ∈ D.ph, Ok P f args (φ.getD q []) (.ret d) (φ.getD q [])) (he : D.eff = false) (ho : o.op = .call { callee := .value g, args := xs, argTypes := ts }) (hf : ev env g = .fn f caps)
    (ha : xs.toList.map (ev env) ++ caps = args) (h : next d) : DCall C φ D p o env last K next := by
  unfold DCall
  rw [if_neg (by rw [he]; simp)]
  subst hP; subst ha
  exact ⟨d, fun q hq => OpDo.call ho hf (hok q hq), h⟩
theorem dgo_walk {C : Ctx} {L : Lay} (hL : LayOk C.P L) {ops : Array Oper} {φ : List (List Ob)} {K : XE → St → Prop} : ∀ (I : List DI) (p : Nat) (l : List Oper) (env : List (Nat × DV)), dgo C L ops φ K I p l env → dwalk C ops φ K I p l env := by
  intro I
  induction I with
  | nil => intro p l env h; cases l <;> exact h
  | cons D I ih =>
    intro p l env h
    cases l with
    | nil => exact h
    | cons o rest =>
      simp only [dgo] at h
      simp only [dwalk, dop]
      cases hg : gd ops (rst env D.rd) o with
      | none => rw [hg] at h; exact h.elim
      | some b =>
      rw [hg] at h
      cases b with
      | false => exact ⟨h.1, ih _ _ _ h.2⟩
      | true =>
        dsimp only at h ⊢
        have call : ∀ p', p' = (if D.eff = true then p + 1 else p) → DCall C φ D p o (rst env D.rd) rest.isEmpty K (fun d => dgo C L ops φ K I p' rest (upo env o.dst d)) →
            if D.eff = true then ∃ out, OpDo C.P o ⟨rst env D.rd, φ.getD p []⟩ out (φ.getD (p + 1) []) ∧ match out with
              | .ret d => dwalk C ops φ K I (if D.eff = true then p + 1 else p) rest (upo env o.dst d)
              | .pan d => rest.isEmpty = true ∧ K (.panic d) ⟨[], φ.getD (p + 1) []⟩
            else ∃ d, (∀ q ∈ D.ph, OpDo C.P o ⟨rst env D.rd, φ.getD q []⟩ (.ret d) (φ.getD q [])) ∧ dwalk C ops φ K I (if D.eff = true then p + 1 else p) rest (upo env o.dst d) := by
          rintro p' rfl h
          unfold DCall at h
          by_cases he : D.eff = true
          · rw [if_pos he] at h
            rw [if_pos he]
            obtain ⟨out, h1, h2⟩ := h
            refine ⟨out, h1, ?_⟩
            cases out with
            | ret d => exact ih _ _ _ h2
            | pan d => exact h2
          · rw [if_neg he] at h
            rw [if_neg he]
            obtain ⟨d, h1, h2⟩ := h
            exact ⟨d, h1, ih _ _ _ h2⟩
        split at h
        · split at h
          · rename_i he
            split at h
            · rename_i hs
              obtain ⟨rfl, h⟩ := h
              rw [if_pos he]
              exact ⟨.ret _, OpDo.op hL hs, ih _ _ _ (by rw [if_pos he]; exact h)⟩
            · exact call _ (by rw [if_pos he]) h
          · rename_i he
            unfold pureDo at h
            split at h
            · exact h.elim
            · rename_i q qs hq
              split at h
              · rename_i d ob' hs
                obtain ⟨rfl, h2, h3⟩ := h
                rw [if_neg he]
                refine ⟨d, fun r hr => ?_, ih _ _ _ (by rw [if_neg he]; exact h3)⟩
                rw [hq] at hr
                rcases List.mem_cons.1 hr with rfl | hr
                · exact OpDo.op hL hs
                · exact OpDo.op hL (h2 r hr)
              · exact call _ (by rw [if_neg he]) h
        · exact call _ rfl h
theorem SW.draw {C : Ctx} {L : Lay} (hL : LayOk C.P L) (hm : C.P.follows .mixedOrders = true) {id : Nat} {l : List Oper} {st : St} {K : XE → St → Prop} (I : List DI) (φ : List (List Ob)) (hφ : φ.getD 0 [] = st.ob)
    (hA : l.map (fun o => (o.dst, dirsO o)) = I.map fun D : DI => (D.dst, D.dir)) (hF : drawF I C.n = true) (h : dgo C L l.toArray φ K I 0 l st.env) : SW C (.region id l.toArray true) st K := by
  intro a w hr
  have hB := drawB_of hA hF
  refine wpIn_region_any hm ?_
  obtain ⟨E, ds, h0, h1, h2⟩ := dwalk_out (I := I) l 0 st.env I 0 (Nat.zero_le _) rfl rfl rfl (dgo_walk hL _ _ _ _ h)
  have hf : (fun i => (Array.replicate l.toArray.size false).getD i false) = fun _ => false := by
    funext i
    rw [Array.getD_eq_getD_getElem?]
    rw [Array.getElem?_replicate]
    split <;> rfl
  have hn : ∀ n, nEff I (fun _ => false) n = 0 := by
    intro n
    induction n with
    | zero => rfl
    | succ n ih => simp [nEff, ih]
  have hv : ∀ n t, vAt l.toArray (E 0) ds (fun _ => false) n t = lk (E 0) t := by
    intro n t
    induction n with
    | zero => rfl
    | succ n ih => simp [vAt, ih]
  refine draw_any (I := I) (φ := φ) (E := E) (ds := ds) hB (fun k hk => h1 k (Nat.zero_le _) hk) (h2.imp (fun h => h) fun ⟨k, _, a, b⟩ => ⟨k, a, b⟩) _ _ a _ (by simp) ?_ ?_ ⟨st.env, ?_, fun t => ?_⟩
  · intro i hi hl
    rw [show (Array.replicate l.toArray.size false).getD i false = false from congrFun hf i] at hl
    cases hl
  · rw [hf]
    exact cnt_le _
  · rw [hf, hn, hφ]
    exact Rel.drew hr _ (Nat.le_succ _)
  · rw [hf, hv, h0]
theorem SW.dr {C : Ctx} {L : Lay} (hL : LayOk C.P L) (hm : C.P.follows .mixedOrders = true) {id : Nat} {l : List Oper} {st : St} {K : XE → St → Prop} {y : Code} (I : List DI) (φ : List (List Ob)) (hφ : φ.getD 0 [] = st.ob)
    (hA : l.map (fun o => (o.dst, dirsO o)) = I.map fun D : DI => (D.dst, D.dir)) (hF : drawF I C.n = true) (h : dgo C L l.toArray φ (thenK C y K) I 0 l st.env) : SW C (.seq (.region id l.toArray true) y) st K := SW.seq (SW.draw hL hm I φ hφ hA hF h)

theorem wi {x y : Int} (h : -9223372036854775808 ≤ x ∧ x ≤ 9223372036854775807) (e : x = y) : IntKind.i64.wrap x = y := e ▸ IntWalk.i64_in x h
theorem wu {x y : Int} (h : 0 ≤ x ∧ x ≤ 18446744073709551615) (e : x = y) : IntKind.u64.wrap x = y := e ▸ IntWalk.u64_in x h
end Go.VL
end
section
namespace Go.VL
open Go

section
variable {id : Nat}
theorem fzL_same (l : List DV) : (∀ N r, fzL id N r l = l) ↔ ∀ x ∈ l, NoId id x := by
  induction l with
  | nil => simp [fzL]
  | cons a l ih =>
    simp only [fzL, List.cons.injEq, List.mem_cons, forall_eq_or_imp]
    rw [← ih]
    exact ⟨fun h => ⟨fun N r => (h N r).1, fun N r => (h N r).2⟩, fun h N r => ⟨h.1 N r, h.2 N r⟩⟩
theorem noId_int (k : IntKind) (n : Int) : NoId id (.int k n) ↔ True := ⟨fun _ => trivial, fun _ _ _ => by simp [fz]⟩
theorem noId_bool (b : Bool) : NoId id (.bool b) ↔ True := ⟨fun _ => trivial, fun _ _ _ => by simp [fz]⟩
theorem noId_str (b : ByteArray) : NoId id (.str b) ↔ True := ⟨fun _ => trivial, fun _ _ _ => by simp [fz]⟩
theorem noId_nils : NoId id .nils ↔ True := ⟨fun _ => trivial, fun _ _ _ => by simp [fz]⟩
theorem noId_nilp : NoId id .nilp ↔ True := ⟨fun _ => trivial, fun _ _ _ => by simp [fz]⟩
theorem noId_nilf : NoId id .nilf ↔ True := ⟨fun _ => trivial, fun _ _ _ => by simp [fz]⟩
theorem noId_nili : NoId id .nili ↔ True := ⟨fun _ => trivial, fun _ _ _ => by simp [fz]⟩
theorem noId_skip : NoId id .skip ↔ True := ⟨fun _ => trivial, fun _ _ _ => by simp [fz]⟩
theorem noId_undef : NoId id .undef ↔ True := ⟨fun _ => trivial, fun _ _ _ => by simp [fz]⟩
theorem noId_vec (c k : Nat) (xs : List DV) : NoId id (.vec c k xs) ↔ ∀ x ∈ xs, NoId id x := by
  rw [← fzL_same]; simp [NoId, fz]
theorem noId_agg (xs : List DV) : NoId id (.agg xs) ↔ ∀ x ∈ xs, NoId id x := by
  rw [← fzL_same]; simp [NoId, fz]
theorem noId_tup (xs : List DV) : NoId id (.tup xs) ↔ ∀ x ∈ xs, NoId id x := by
  rw [← fzL_same]; simp [NoId, fz]
theorem noId_fn (f : FuncId) (xs : List DV) : NoId id (.fn f xs) ↔ ∀ x ∈ xs, NoId id x := by
  rw [← fzL_same]; simp [NoId, fz]
theorem noId_vptr (c : Nat) (xs : List DV) : NoId id (.vptr c xs) ↔ ∀ x ∈ xs, NoId id x := by
  rw [← fzL_same]; simp [NoId, fz]
theorem noId_iface (t : Nat) (x : DV) : NoId id (.iface t x) ↔ NoId id x := by
  simp [NoId, fz]
theorem noId_ptr (i g j o : Nat) (h : i ≠ id) : NoId id (.ptr i g j o) := fun _ _ => by simp [fz, h]
theorem noId_sl (i g off len : Nat) (h : i ≠ id) : NoId id (.sl i g off len) := fun _ _ => by simp [fz, h]
theorem noId_ptr' (i g j o : Nat) : NoId id (.ptr i g j o) ↔ i ≠ id := ⟨fun h e => by
    have := h 0 (fun _ _ => .undef)
    simp [fz, e] at this, noId_ptr i g j o⟩
theorem noId_sl' (i g off len : Nat) : NoId id (.sl i g off len) ↔ i ≠ id := ⟨fun h e => by
    have := h g (fun _ _ => .undef)
    simp [fz, e] at this, noId_sl i g off len⟩
theorem noId_it' (i : Nat) : NoId id (.it i) ↔ i ≠ id := ⟨fun h e => by
    have := h 0 (fun _ _ => .undef)
    simp [fz, e] at this, fun h _ _ => by simp [fz, h]⟩
theorem noId_yld' (i : Nat) : NoId id (.yld i) ↔ i ≠ id := ⟨fun h e => by
    have := h 0 (fun _ _ => .undef)
    simp [fz, e] at this, fun h _ _ => by simp [fz, h]⟩
theorem noId_emp : NoId id .emp ↔ True := ⟨fun _ => trivial, fun _ _ _ => by simp [fz]⟩
theorem noId_mp' (i : Nat) : NoId id (.mp i) ↔ i ≠ id := ⟨fun h e => by
    have := h 0 (fun _ _ => .undef)
    simp [fz, e] at this, fun h _ _ => by simp [fz, h]⟩
end
/-- An object's things are of no object with this number. -/
def ObNoId (id : Nat) (o : Ob) : Prop := ∀ N r, fzOb id N r o = o
theorem obNoId_arr {id t k : Nat} {xs : List DV} : ObNoId id (.arr t k xs) ↔ ∀ x ∈ xs, NoId id x := by
  unfold ObNoId
  rw [← fzL_same]
  simp [fzOb, fzL_map]
theorem obNoId_oth {id : Nat} {t : OT} {ds : List DV} : ObNoId id (.oth t ds) ↔ ∀ x ∈ ds, NoId id x := by
  unfold ObNoId
  rw [← fzL_same]
  simp [fzOb, fzL_map]
theorem obNoId_dead {id : Nat} : ObNoId id .dead ↔ True := ⟨fun _ => trivial, fun _ _ _ => rfl⟩
def obsNoId (id : Nat) : List Ob → Prop
  | [] => True
  | o :: r => ObNoId id o ∧ obsNoId id r
theorem obs_fix {id : Nat} {σ : List Ob} (hs : ∀ N r, σ.map (fzOb id N r) = σ) : ∀ {own : List Ob}, obsNoId id own → ∀ N r, (σ ++ own).map (fzOb id N r) = σ ++ own := by
  intro own h N r
  rw [List.map_append, hs]
  congr 1
  induction own with
  | nil => rfl
  | cons o l ih => rw [List.map_cons, h.1, ih h.2]

def envNoId (id : Nat) : List (Nat × DV) → Prop
  | [] => True
  | p :: r => NoId id p.2 ∧ envNoId id r
theorem envNoId_fz {id : Nat} : ∀ {l : List (Nat × DV)}, envNoId id l → ∀ N r, fzE id N r l = l
  | [], _, _, _ => rfl
  | p :: l, h, N, r => by
    simp only [fzE, List.map_cons]
    rw [h.1]
    exact congrArg _ (envNoId_fz h.2 N r)
/-- The last object is dropped; some slots are kept. -/
theorem Ghost.drop {C : Ctx} {env : List (Nat × DV)} {σ own : List Ob} {t k : Nat} {xs : List DV} (l : List (Nat × DV)) (hσ : C.σ0 = σ) (hf : Fixed σ) (hl : agree env l) (hx : ∀ x ∈ xs, NoId (σ ++ own).length x) (he : envNoId (σ ++ own).length l) (ho : obsNoId (σ ++ own).length own) (hdd : C.dd = [] := by assumption) :
    Ghost C ⟨env, σ ++ own ++ [.arr t k xs]⟩ ⟨l, σ ++ own⟩ := by
  refine Ghost.trans (Ghost.weak (Weak.of_agree rfl hl)) ?_
  refine Ghost.trans (Ghost.pop 0 (by rw [hσ]; simp) hx (by rw [hdd]; trivial)) ?_
  rw [envNoId_fz he, obs_fix (fun N r => hf _ (by simp) N r) ho]
  exact Ghost.refl _ _
/-- The last object is given away, with a colour; slot t is its slice. -/
theorem Ghost.give {C : Ctx} {env : List (Nat × DV)} {σ own : List Ob} {t k : Nat} {xs : List DV} (c : Nat) (l : List (Nat × DV)) (s off len : Nat) (hσ : C.σ0 = σ) (hf : Fixed σ) (hs : lk env s = .sl (σ ++ own).length xs.length off len) (hl : agree env l)
    (hx : ∀ x ∈ xs, NoId (σ ++ own).length x) (he : envNoId (σ ++ own).length l) (ho : obsNoId (σ ++ own).length own) (hdd : C.dd = [] := by assumption) :
    Ghost C ⟨env, σ ++ own ++ [.arr t k xs]⟩ ⟨(s, .vec c k ((xs.drop off).take len)) :: l, σ ++ own⟩ := by
  refine Ghost.trans (Ghost.weak (Weak.of_agree (l := (s, .sl (σ ++ own).length xs.length off len) :: l) rfl ⟨hs, hl⟩)) ?_
  refine Ghost.trans (Ghost.pop c (by rw [hσ]; simp) hx (by rw [hdd]; trivial)) ?_
  have : fzE (σ ++ own).length xs.length (asVec c k xs) ((s, .sl (σ ++ own).length xs.length off len) :: l) = (s, .vec c k ((xs.drop off).take len)) :: l := by
    simp only [fzE, List.map_cons]
    rw [show l.map (fun p => (p.1, fz (σ ++ own).length xs.length (asVec c k xs) p.2)) = l from envNoId_fz he _ _]
    simp [fz, asVec]
  rw [this, obs_fix (fun N r => hf _ (by simp) N r) ho]
  exact Ghost.refl _ _

/-! ### Loops whose rounds may drop objects -/
def loopG (C : Ctx) (n : Nat) (I : Nat → St → Prop) (K : XE → St → Prop) : XE → St → Prop
  | .normal, st => ∃ m st', m < n ∧ Ghost C st st' ∧ I m st'
  | e, st => K e st
section
variable {C : Ctx} {K : XE → St → Prop} {st : St}
theorem SW.post {c : Code} {K' : XE → St → Prop} (h : SW C c st K) (hk : ∀ e st a w, K e st → Rel C st a w → ∃ st', K' e st' ∧ Rel C st' a w) (hp : ∀ d st, K (.panic d) st → K' (.panic d) st) : SW C c st K' := by
  intro a w hr
  refine wpIn_mono (h a w hr) fun e a w q => ?_
  cases e with
  | normal => obtain ⟨st, k, r⟩ := q; exact hk _ _ _ _ k r
  | exit i => obtain ⟨st, k, r⟩ := q; exact hk _ _ _ _ k r
  | goto l => exact q
  | ret => obtain ⟨st, k, r⟩ := q; exact hk _ _ _ _ k r
  | panic ch => obtain ⟨st, d, v, F, μ, k, r⟩ := q; exact ⟨st, d, v, F, μ, hp _ _ k, r⟩
  | outgrown => exact q
theorem SW.lpg {c : Code} {X : Type} (S : X → St) (m : X → Nat) (P : X → Prop) (x : X) (h0 : P x) (hw : Ghost C st (S x))
    (h : ∀ x, P x → SW C c (S x) (loopG C (m x) (Lp S m P) K)) : SW C (.loop c) st K := by
  refine SW.ghost hw (SW.lpx S m P x h0 (Weak.refl _) fun x hx => SW.post (h x hx) (fun e st a w k r => ?_) (fun _ _ k => k))
  cases e with
  | normal =>
    obtain ⟨n, st', hn, hg, hi⟩ := k
    exact ⟨st', ⟨n, st', hn, Weak.refl _, hi⟩, hg a w r⟩
  | exit i => exact ⟨st, k, r⟩
  | ret => exact ⟨st, k, r⟩
  | panic d => exact ⟨st, k, r⟩
theorem Lp.nextg {X : Type} {S : X → St} {m : X → Nat} {P : X → Prop} {n : Nat} {st : St} (x : X) (hp : P x) (hm : m x < n) (hw : Ghost C st (S x)) :
    ∃ k st', k < n ∧ Ghost C st st' ∧ Lp S m P k st' := ⟨_, _, hm, hw, x, hp, rfl, rfl⟩
end
theorem Ghost.of {C : Ctx} {env l : List (Nat × DV)} {ob ob' : List Ob} (ho : ob' = ob) (h : agree env l) : Ghost C ⟨env, ob⟩ ⟨l, ob'⟩ := Ghost.weak (Weak.of_agree ho h)

/-- The last object is given up; the value in hand is what it stands for then. -/
theorem GhostV.pop {C : Ctx} {d d' : DV} {σ own : List Ob} {t k : Nat} {xs : List DV} (c : Nat) (hn : 0 < C.n) (hσ : C.σ0 = σ) (hf : Fixed σ) (hd : fz (σ ++ own).length xs.length (asVec c k xs) d = d')
    (hx : ∀ x ∈ xs, NoId (σ ++ own).length x) (ho : obsNoId (σ ++ own).length own) (hdd : C.dd = [] := by assumption) : GhostV C d (σ ++ own ++ [.arr t k xs]) d' (σ ++ own) := by
  refine GhostV.of hn ((Ghost.pop c (by rw [hσ]; simp) hx (by rw [hdd]; trivial)).trans ?_)
  rw [show fzE (σ ++ own).length xs.length (asVec c k xs) [(0, d)] = [(0, d')] by simp only [fzE, List.map_cons, List.map_nil, hd], obs_fix (fun N r => hf _ (by simp) N r) ho]
  exact Ghost.refl _ _
/-- The one object of one's own. -/
theorem GhostV.pop1 {C : Ctx} {d d' : DV} {σ : List Ob} {t k : Nat} {xs : List DV} (c : Nat) (hn : 0 < C.n) (hσ : C.σ0 = σ) (hf : Fixed σ) (hd : fz σ.length xs.length (asVec c k xs) d = d')
    (hx : ∀ x ∈ xs, NoId σ.length x) (hdd : C.dd = [] := by assumption) : GhostV C d (σ ++ [.arr t k xs]) d' σ := by
  have := GhostV.pop (C := C) (σ := σ) (own := []) (t := t) (k := k) (d := d) (d' := d') c hn hσ hf (by simpa using hd) (by simpa using hx) trivial
  simpa using this
theorem fz_same {id : Nat} {d : DV} (h : NoId id d) (N : Nat) (r : Nat → Nat → DV) : fz id N r d = d := h N r
end Go.VL
end
section
namespace Go.VL
open Go

/-! ### Objects behind others -/
theorem own_get {α : Type} (σ l : List α) (k : Nat) : (σ ++ l)[σ.length + k]? = l[k]? := by rw [List.getElem?_append_right (by omega), Nat.add_sub_cancel_left]
theorem own_get0 {α : Type} (σ l : List α) : (σ ++ l)[σ.length]? = l[0]? := own_get σ l 0
theorem own_set {α : Type} (σ l : List α) (k : Nat) (a : α) : (σ ++ l).set (σ.length + k) a = σ ++ l.set k a := by rw [List.set_append_right _ _ (by omega), Nat.add_sub_cancel_left]
theorem own_set0 {α : Type} (σ l : List α) (a : α) : (σ ++ l).set σ.length a = σ ++ l.set 0 a := own_set σ l 0 a

/-- Of no object from n on. -/
def Low (n : Nat) (d : DV) : Prop := ∀ id, n ≤ id → NoId id d
section
variable {n : Nat}
theorem low_int (k : IntKind) (m : Int) : Low n (.int k m) ↔ True := iff_of_true (fun _ _ => (noId_int _ _).2 trivial) trivial
theorem low_bool (b : Bool) : Low n (.bool b) ↔ True := iff_of_true (fun _ _ => (noId_bool _).2 trivial) trivial
theorem low_str (b : ByteArray) : Low n (.str b) ↔ True := iff_of_true (fun _ _ => (noId_str _).2 trivial) trivial
theorem low_nils : Low n .nils ↔ True := iff_of_true (fun _ _ => noId_nils.2 trivial) trivial
theorem low_nilp : Low n .nilp ↔ True := iff_of_true (fun _ _ => noId_nilp.2 trivial) trivial
theorem low_nilf : Low n .nilf ↔ True := iff_of_true (fun _ _ => noId_nilf.2 trivial) trivial
theorem low_nili : Low n .nili ↔ True := iff_of_true (fun _ _ => noId_nili.2 trivial) trivial
theorem low_skip : Low n .skip ↔ True := iff_of_true (fun _ _ => noId_skip.2 trivial) trivial
theorem low_undef : Low n .undef ↔ True := iff_of_true (fun _ _ => noId_undef.2 trivial) trivial
theorem low_list {xs : List DV} : (∀ id, n ≤ id → ∀ x ∈ xs, NoId id x) ↔ ∀ x ∈ xs, Low n x := ⟨fun h x hx id hi => h id hi x hx, fun h id hi x hx => h x hx id hi⟩
theorem low_vec (c k : Nat) (xs : List DV) : Low n (.vec c k xs) ↔ ∀ x ∈ xs, Low n x := by
  rw [← low_list]; exact ⟨fun h id hi => (noId_vec _ _ _).1 (h id hi), fun h id hi => (noId_vec _ _ _).2 (h id hi)⟩
theorem low_agg (xs : List DV) : Low n (.agg xs) ↔ ∀ x ∈ xs, Low n x := by
  rw [← low_list]; exact ⟨fun h id hi => (noId_agg _).1 (h id hi), fun h id hi => (noId_agg _).2 (h id hi)⟩
theorem low_tup (xs : List DV) : Low n (.tup xs) ↔ ∀ x ∈ xs, Low n x := by
  rw [← low_list]; exact ⟨fun h id hi => (noId_tup _).1 (h id hi), fun h id hi => (noId_tup _).2 (h id hi)⟩
theorem low_fn (f : FuncId) (xs : List DV) : Low n (.fn f xs) ↔ ∀ x ∈ xs, Low n x := by
  rw [← low_list]; exact ⟨fun h id hi => (noId_fn _ _).1 (h id hi), fun h id hi => (noId_fn _ _).2 (h id hi)⟩
theorem low_vptr (c : Nat) (xs : List DV) : Low n (.vptr c xs) ↔ ∀ x ∈ xs, Low n x := by
  rw [← low_list]; exact ⟨fun h id hi => (noId_vptr _ _).1 (h id hi), fun h id hi => (noId_vptr _ _).2 (h id hi)⟩
theorem low_iface (t : Nat) (x : DV) : Low n (.iface t x) ↔ Low n x := ⟨fun h id hi => (noId_iface _ _).1 (h id hi), fun h id hi => (noId_iface _ _).2 (h id hi)⟩
theorem low_id {i : Nat} : (∀ id, n ≤ id → i ≠ id) ↔ i < n := ⟨fun h => Nat.lt_of_not_le fun hi => h i hi rfl, fun h id hi e => by omega⟩
theorem low_ptr (i g j o : Nat) : Low n (.ptr i g j o) ↔ i < n := by
  rw [← low_id]; exact ⟨fun h id hi => (noId_ptr' _ _ _ _).1 (h id hi), fun h id hi => (noId_ptr' _ _ _ _).2 (h id hi)⟩
theorem low_sl (i g off len : Nat) : Low n (.sl i g off len) ↔ i < n := by
  rw [← low_id]; exact ⟨fun h id hi => (noId_sl' _ _ _ _).1 (h id hi), fun h id hi => (noId_sl' _ _ _ _).2 (h id hi)⟩
theorem low_emp : Low n .emp ↔ True := iff_of_true (fun _ _ => noId_emp.2 trivial) trivial
theorem low_it (i : Nat) : Low n (.it i) ↔ i < n := by
  rw [← low_id]; exact ⟨fun h id hi => (noId_it' _).1 (h id hi), fun h id hi => (noId_it' _).2 (h id hi)⟩
theorem low_yld (i : Nat) : Low n (.yld i) ↔ i < n := by
  rw [← low_id]; exact ⟨fun h id hi => (noId_yld' _).1 (h id hi), fun h id hi => (noId_yld' _).2 (h id hi)⟩
theorem low_mp (i : Nat) : Low n (.mp i) ↔ i < n := by
  rw [← low_id]; exact ⟨fun h id hi => (noId_mp' _).1 (h id hi), fun h id hi => (noId_mp' _).2 (h id hi)⟩
end
def lowOb (n : Nat) : Ob → Prop
  | .arr _ _ xs => ∀ x ∈ xs, Low n x
  | .oth _ ds => ∀ x ∈ ds, Low n x
  | .dead => True
def isArr : Ob → Prop
  | .arr .. => True
  | _ => False
def lowObs (n : Nat) : List Ob → Prop
  | [] => True
  | o :: r => lowOb n o ∧ lowObs n r
def tmpObs (n : Nat) : List Ob → Prop
  | [] => True
  | o :: r => isArr o ∧ lowOb n o ∧ tmpObs n r
def lowEnv (n : Nat) : List (Nat × DV) → Prop
  | [] => True
  | p :: r => Low n p.2 ∧ lowEnv n r
theorem lowOb_noId {n id : Nat} {o : Ob} (h : lowOb n o) (hi : n ≤ id) : ObNoId id o := by
  cases o with
  | arr t k xs => exact obNoId_arr.2 fun x hx => h x hx id hi
  | oth t ds => exact obNoId_oth.2 fun x hx => h x hx id hi
  | dead => exact obNoId_dead.2 trivial
theorem lowObs_noId {n id : Nat} (hi : n ≤ id) : ∀ {l : List Ob}, lowObs n l → obsNoId id l
  | [], _ => trivial
  | _ :: _, h => ⟨lowOb_noId h.1 hi, lowObs_noId hi h.2⟩
theorem lowEnv_noId {n id : Nat} (hi : n ≤ id) : ∀ {l : List (Nat × DV)}, lowEnv n l → envNoId id l
  | [], _ => trivial
  | _ :: _, h => ⟨h.1 id hi, lowEnv_noId hi h.2⟩
theorem tmpObs_append {n : Nat} : ∀ {a b : List Ob}, tmpObs n (a ++ b) → tmpObs n a ∧ tmpObs n b
  | [], _, h => ⟨trivial, h⟩
  | _ :: _, _, h => ⟨⟨h.1, h.2.1, (tmpObs_append h.2.2).1⟩, (tmpObs_append h.2.2).2⟩
theorem obsNoId_append {id : Nat} : ∀ {a b : List Ob}, obsNoId id a → obsNoId id b → obsNoId id (a ++ b)
  | [], _, _, h => h
  | _ :: _, _, h, k => ⟨h.1, obsNoId_append h.2 k⟩
theorem tmpObs_noId {n id : Nat} (hi : n ≤ id) : ∀ {l : List Ob}, tmpObs n l → obsNoId id l
  | [], _ => trivial
  | _ :: _, h => ⟨lowOb_noId h.2.1 hi, tmpObs_noId hi h.2.2⟩
theorem lk_mem_agree {l : List (Nat × DV)} (h : (l.map (·.1)).Nodup) : agree l l := by
  have key : ∀ (r e : List (Nat × DV)), (∀ p ∈ r, lk e p.1 = p.2) → agree e r := by
    intro r e
    induction r with
    | nil => intro _; trivial
    | cons p r ih => intro hp; exact ⟨hp p (by simp), ih fun q hq => hp q (by simp [hq])⟩
  refine key l l ?_
  induction l with
  | nil => intro p hp; simp at hp
  | cons p r ih =>
    intro q hq
    simp only [List.map_cons, List.nodup_cons] at h
    rcases List.mem_cons.1 hq with rfl | hq
    · simp [lk]
    · have hne : p.1 ≠ q.1 := fun e => h.1 (e ▸ List.mem_map_of_mem hq)
      simp only [lk]
      rw [if_neg hne]
      exact ih h.2 q hq
/-- The objects `tmp` are dropped; some slots are kept. -/
theorem Ghost.clear {C : Ctx} {env : List (Nat × DV)} {σ own tmp : List Ob} (l : List (Nat × DV)) (hσ : C.σ0 = σ) (hf : Fixed σ) (hl : agree env l) (he : lowEnv (σ ++ own).length l) (ho : lowObs (σ ++ own).length own) (ht : tmpObs (σ ++ own).length tmp) (hdd : C.dd = [] := by assumption) :
    Ghost C ⟨env, σ ++ (own ++ tmp)⟩ ⟨l, σ ++ own⟩ := by
  refine Ghost.trans (Ghost.weak (Weak.of_agree rfl hl)) ?_
  have key : ∀ (n : Nat) (tmp : List Ob), tmp.length = n → tmpObs (σ ++ own).length tmp → Ghost C ⟨l, σ ++ (own ++ tmp)⟩ ⟨l, σ ++ own⟩ := by
    intro n
    induction n with
    | zero =>
      intro tmp hn _
      obtain rfl := List.eq_nil_of_length_eq_zero hn
      rw [List.append_nil]
      exact Ghost.refl _ _
    | succ n ih =>
      intro tmp hn ht
      obtain ⟨r, o, rfl⟩ : ∃ r o, tmp = r ++ [o] := ⟨tmp.dropLast, tmp.getLast (by intro e; simp [e] at hn), (List.dropLast_concat_getLast _).symm⟩
      obtain ⟨h1, h2⟩ := tmpObs_append ht
      cases o with
      | arr t k xs =>
        refine Ghost.trans ?_ (ih r (by simpa using hn) h1)
        have hN : (σ ++ own).length ≤ (σ ++ (own ++ r)).length := by simp
        have := Ghost.pop (C := C) (env := l) (ob := σ ++ (own ++ r)) (t := t) (k := k) (xs := xs) 0 (by rw [hσ]; simp) (fun x hx => h2.2.1 x hx _ hN) (by rw [hdd]; trivial)
        rw [envNoId_fz (lowEnv_noId hN he), obs_fix (fun N r => hf _ (by simp) N r) (obsNoId_append (lowObs_noId hN ho) (tmpObs_noId hN h1))] at this
        simpa using this
      | oth t ds => exact h2.1.elim
      | dead => exact h2.1.elim
  exact key _ tmp rfl ht
theorem GhostV.clear {C : Ctx} {d : DV} {σ own tmp : List Ob} (hn : 0 < C.n) (hσ : C.σ0 = σ) (hf : Fixed σ) (hd : Low (σ ++ own).length d) (ho : lowObs (σ ++ own).length own) (ht : tmpObs (σ ++ own).length tmp) (hdd : C.dd = [] := by assumption) : GhostV C d (σ ++ (own ++ tmp)) d (σ ++ own) :=
  GhostV.of hn (Ghost.clear [(0, d)] hσ hf ⟨rfl, trivial⟩ ⟨hd, trivial⟩ ho ht)
/-- All is dropped. -/
theorem GhostV.none {C : Ctx} {d : DV} {σ l : List Ob} (hn : 0 < C.n) (hσ : C.σ0 = σ) (hf : Fixed σ) (hd : Low σ.length d) (ht : tmpObs σ.length l) (hdd : C.dd = [] := by assumption) : GhostV C d (σ ++ l) d σ := by
  have := GhostV.clear (C := C) (d := d) (σ := σ) (own := []) (tmp := l) hn hσ hf (by simpa using hd) trivial (by simpa using ht)
  simpa using this
/-- The last object is given away. -/
theorem GhostV.give {C : Ctx} {d d' : DV} {σ own : List Ob} {t k : Nat} {xs : List DV} (c : Nat) (hn : 0 < C.n) (hσ : C.σ0 = σ) (hf : Fixed σ) (hd : fz (σ.length + own.length) xs.length (asVec c k xs) d = d')
    (hx : ∀ x ∈ xs, Low (σ.length + own.length) x) (ho : lowObs (σ.length + own.length) own) (hdd : C.dd = [] := by assumption) : GhostV C d (σ ++ (own ++ [.arr t k xs])) d' (σ ++ own) := by
  have e : (σ ++ own).length = σ.length + own.length := List.length_append
  have := GhostV.pop (C := C) (σ := σ) (own := own) (t := t) (k := k) (xs := xs) (d := d) (d' := d') c hn hσ hf (by rw [e]; exact hd) (fun x hx' => by rw [e]; exact hx x hx' _ (Nat.le_refl _)) (by rw [e]; exact lowObs_noId (Nat.le_refl _) ho)
  rwa [List.append_assoc] at this
theorem OpDo.of {P : Program} {o : Oper} {st : St} {d : DV} {ob' : List Ob} (h : OpRun P o st d ob') : OpDo P o st (.ret d) ob' := by
  intro ro a w F μ K' Q hh he hk
  obtain ⟨r, w', μ', v, hrun, hv, hh', hst, hfr, hrep⟩ := h a w F μ hh he
  have := hk v w' F μ' ⟨hh', hst, hfr, fun c b h => .inl h⟩ hrep
  refine wpIn_of_wp (.inr fun c hc => ?_) ?_
  · obtain ⟨d', rfl⟩ := execOp_defer hc hrun
    rcases hv with e | ⟨e, _⟩ <;> cases e
  unfold Oper.wp
  rw [hrun]
  rcases hv with rfl | ⟨rfl, rfl⟩
  · exact this
  · exact this

theorem rng1 : List.range 1 = [0] := rfl
theorem rng2 : List.range 2 = [0, 1] := rfl
theorem rng3 : List.range 3 = [0, 1, 2] := rfl
theorem rng4 : List.range 4 = [0, 1, 2, 3] := rfl

theorem DCall.pure1 {C : Ctx} {P : Program} {φ : List (List Ob)} {D : DI} {p q : Nat} {o : Oper} {env : List (Nat × DV)} {last : Bool} {K : XE → St → Prop} {next : DV → Prop} {g : Operand} {xs : Array Operand} {ts : Array TypeId} {f : FuncId} {args caps : List DV} {d : DV} {σ : List Ob}
    (hP : C.P = P) (hok : Ok P f args σ (.ret d) σ) (hq : D.ph = [q]) (hs : φ.getD q [] = σ) (he : D.eff = false) (ho : o.op = .call { callee := .value g, args := xs, argTypes := ts }) (hf : ev env g = .fn f caps)
    (ha : xs.toList.map (ev env) ++ caps = args) (h : next d) : DCall C φ D p o env last K next :=
  DCall.pure hP (fun r hr => by rw [hq] at hr; obtain rfl := List.mem_singleton.1 hr; rw [hs]; exact hok) he ho hf ha h

/-- All objects of one's own are dropped; some slots are kept. -/
theorem Ghost.none {C : Ctx} {env : List (Nat × DV)} {σ tmp : List Ob} (l : List (Nat × DV)) (hσ : C.σ0 = σ) (hf : Fixed σ) (hl : agree env l) (he : lowEnv σ.length l) (ht : tmpObs σ.length tmp) (hdd : C.dd = [] := by assumption) : Ghost C ⟨env, σ ++ tmp⟩ ⟨l, σ⟩ := by
  have := Ghost.clear (C := C) (env := env) (σ := σ) (own := []) (tmp := tmp) l hσ hf hl (by simpa using he) trivial (by simpa using ht)
  simpa using this
end Go.VL
end
section
set_option linter.unusedVariables false
namespace Go.VL
open Go

noncomputable section
@[reducible] def bx {α : Type} (b : Bool) (t e : α) : α := @Bool.rec (fun _ => α) e t b
theorem bx_true {α : Type} (t e : α) : bx true t e = t := rfl
theorem bx_false {α : Type} (t e : α) : bx false t e = e := rfl
theorem bx_if {α : Type} (b : Bool) (t e : α) : bx b t e = if b = true then t else e := by cases b <;> rfl
def lkb (e : List (Nat × DV)) (t : Nat) : DV := @List.rec (Nat × DV) (fun _ => DV) .undef (fun p _ ih => bx (Nat.beq p.1 t) p.2 ih) e
theorem beq_if {α : Type} (a b : Nat) (t e : α) : bx (Nat.beq a b) t e = if a = b then t else e := by
  rw [bx_if]
  by_cases h : a = b
  · rw [if_pos h, if_pos (by rw [h]; exact Nat.beq_refl b)]
  · rw [if_neg h, if_neg (fun e => h (Nat.eq_of_beq_eq_true e))]
theorem lkb_eq (e : List (Nat × DV)) (t : Nat) : lkb e t = lk e t := by
  induction e with
  | nil => rfl
  | cons p r ih =>
    obtain ⟨s, d⟩ := p
    show bx (Nat.beq s t) d (lkb r t) = _
    rw [beq_if, ih]
    rfl
def upb (e : List (Nat × DV)) (t : Nat) (d : DV) : List (Nat × DV) := @List.rec (Nat × DV) (fun _ => List (Nat × DV)) [(t, d)] (fun p r ih => bx (Nat.beq p.1 t) ((t, d) :: r) (p :: ih)) e
theorem upb_eq (e : List (Nat × DV)) (t : Nat) (d : DV) : upb e t d = up e t d := by
  induction e with
  | nil => rfl
  | cons p r ih =>
    obtain ⟨s, x⟩ := p
    show bx (Nat.beq s t) ((t, d) :: r) ((s, x) :: upb r t d) = _
    rw [beq_if, ih]
    rfl
def nth {α : Type} (l : List α) : Nat → Option α := @List.rec α (fun _ => Nat → Option α) (fun _ => none) (fun x _ ih j => bx (Nat.beq j 0) (some x) (ih (Nat.sub j 1))) l
theorem nth_eq {α : Type} (l : List α) : ∀ j, nth l j = l[j]? := by
  induction l with
  | nil => intro j; simp [nth]
  | cons x r ih =>
    intro j
    show bx (Nat.beq j 0) (some x) (nth r (j - 1)) = _
    rw [beq_if, ih]
    cases j <;> simp
def setn {α : Type} (l : List α) : Nat → α → List α := @List.rec α (fun _ => Nat → α → List α) (fun _ _ => []) (fun x r ih j a => bx (Nat.beq j 0) (a :: r) (x :: ih (Nat.sub j 1) a)) l
theorem setn_eq {α : Type} (l : List α) : ∀ j a, setn l j a = l.set j a := by
  induction l with
  | nil => intro j a; simp [setn]
  | cons x r ih =>
    intro j a
    show bx (Nat.beq j 0) (a :: r) (x :: setn r (j - 1) a) = _
    rw [beq_if, ih]
    cases j <;> simp
def len {α : Type} (l : List α) : Nat := @List.rec α (fun _ => Nat) 0 (fun _ _ ih => Nat.succ ih) l
theorem len_eq {α : Type} (l : List α) : len l = l.length := by
  induction l with
  | nil => rfl
  | cons x r ih => show len r + 1 = _; rw [ih]; rfl
def dropn {α : Type} (n : Nat) (l : List α) : List α := @List.rec α (fun _ => Nat → List α) (fun _ => []) (fun x r ih j => bx (Nat.beq j 0) (x :: r) (ih (Nat.sub j 1))) l n
theorem dropn_eq {α : Type} (l : List α) : ∀ n, dropn n l = l.drop n := by
  induction l with
  | nil => intro n; simp [dropn]
  | cons x r ih =>
    intro n
    show bx (Nat.beq n 0) (x :: r) (dropn (n - 1) r) = _
    rw [beq_if, ih]
    cases n <;> simp
def taken {α : Type} (n : Nat) (l : List α) : List α := @List.rec α (fun _ => Nat → List α) (fun _ => []) (fun x _ ih j => bx (Nat.beq j 0) [] (x :: ih (Nat.sub j 1))) l n
theorem taken_eq {α : Type} (l : List α) : ∀ n, taken n l = l.take n := by
  induction l with
  | nil => intro n; simp [taken]
  | cons x r ih =>
    intro n
    show bx (Nat.beq n 0) [] (x :: taken (n - 1) r) = _
    rw [beq_if, ih]
    cases n <;> simp

/-! ### Memory as a tree -/
inductive Tr (α : Type) where
  | e
  | n (o : α) (l r : Tr α)
def Tr.get {α : Type} (t : Tr α) : Nat → Option α := @Tr.rec α (fun _ => Nat → Option α) (fun _ => none) (fun o _ _ gl gr i => bx (Nat.beq i 0) (some o) (bx (Nat.beq (Nat.mod i 2) 1) (gl (Nat.div i 2)) (gr (Nat.sub (Nat.div i 2) 1)))) t
def Tr.put {α : Type} (t : Tr α) : Nat → α → Tr α := @Tr.rec α (fun _ => Nat → α → Tr α) (fun _ o => .n o .e .e) (fun o l r gl gr i x => bx (Nat.beq i 0) (.n x l r) (bx (Nat.beq (Nat.mod i 2) 1) (.n o (gl (Nat.div i 2) x) r) (.n o l (gr (Nat.sub (Nat.div i 2) 1) x)))) t
theorem Tr.get_n {α : Type} (o : α) (l r : Tr α) (i : Nat) : (Tr.n o l r).get i = if i = 0 then some o else if i % 2 = 1 then l.get (i / 2) else r.get (i / 2 - 1) := by
  show bx (Nat.beq i 0) (some o) (bx (Nat.beq (i % 2) 1) (l.get (i / 2)) (r.get (i / 2 - 1))) = _
  rw [beq_if, beq_if]
theorem Tr.put_n {α : Type} (o : α) (l r : Tr α) (i : Nat) (x : α) : (Tr.n o l r).put i x = if i = 0 then .n x l r else if i % 2 = 1 then .n o (l.put (i / 2) x) r else .n o l (r.put (i / 2 - 1) x) := by
  show bx (Nat.beq i 0) (Tr.n x l r) (bx (Nat.beq (i % 2) 1) (Tr.n o (l.put (i / 2) x) r) (Tr.n o l (r.put (i / 2 - 1) x))) = _
  rw [beq_if, beq_if]
/-- Set where something is. -/
theorem Tr.get_put {α : Type} (t : Tr α) : ∀ (i : Nat) (x : α) (j : Nat), (t.get i).isSome = true → (t.put i x).get j = if i = j then some x else t.get j := by
  induction t with
  | e => intro i x j h; cases h
  | n o l r il ir =>
    intro i x j h
    rw [Tr.get_n] at h
    rw [Tr.put_n]
    by_cases h0 : i = 0
    · subst h0
      rw [if_pos rfl, Tr.get_n, Tr.get_n]
      by_cases hj : j = 0
      · subst hj; simp
      · rw [if_neg hj, if_neg (show ¬ (0 = j) from fun e => hj e.symm), if_neg hj]
    · rw [if_neg h0] at h ⊢
      by_cases h1 : i % 2 = 1
      · rw [if_pos h1] at h ⊢
        rw [Tr.get_n, Tr.get_n]
        by_cases hj : j = 0
        · rw [if_pos hj, if_pos hj, if_neg (by omega)]
        · rw [if_neg hj, if_neg hj]
          by_cases hj1 : j % 2 = 1
          · rw [if_pos hj1, if_pos hj1, il _ _ _ h]
            by_cases e : i / 2 = j / 2
            · rw [if_pos e, if_pos (by omega)]
            · rw [if_neg e, if_neg (by omega)]
          · rw [if_neg hj1, if_neg hj1, if_neg (by omega)]
      · rw [if_neg h1] at h ⊢
        rw [Tr.get_n, Tr.get_n]
        by_cases hj : j = 0
        · rw [if_pos hj, if_pos hj, if_neg (by omega)]
        · rw [if_neg hj, if_neg hj]
          by_cases hj1 : j % 2 = 1
          · rw [if_pos hj1, if_pos hj1, if_neg (by omega)]
          · rw [if_neg hj1, if_neg hj1, ir _ _ _ h]
            by_cases e : i / 2 - 1 = j / 2 - 1
            · rw [if_pos e, if_pos (by omega)]
            · rw [if_neg e, if_neg (by omega)]
/-- A tree of just so many. -/
def Tr.full {α : Type} : Tr α → Nat → Prop
  | .e, q => q = 0
  | .n _ l r, q => 0 < q ∧ l.full (q / 2) ∧ r.full ((q - 1) / 2)
theorem Tr.get_none {α : Type} (t : Tr α) : ∀ (n i : Nat), t.full n → n ≤ i → t.get i = none := by
  induction t with
  | e => intro _ _ _ _; rfl
  | n o l r il ir =>
    intro n i ⟨h0, h1, h2⟩ hi
    rw [Tr.get_n, if_neg (by omega)]
    by_cases hm : i % 2 = 1
    · rw [if_pos hm]; exact il _ _ h1 (by omega)
    · rw [if_neg hm]; exact ir _ _ h2 (by omega)
theorem Tr.put_full {α : Type} (t : Tr α) : ∀ (n : Nat) (x : α), t.full n → (t.put n x).full (n + 1) ∧ ∀ j, (t.put n x).get j = if j = n then some x else t.get j := by
  induction t with
  | e =>
    intro n x h
    obtain rfl : n = 0 := h
    refine ⟨⟨by omega, rfl, rfl⟩, fun j => ?_⟩
    show (Tr.n x .e .e).get j = _
    rw [Tr.get_n]
    by_cases hj : j = 0
    · rw [if_pos hj, if_pos hj]
    · rw [if_neg hj, if_neg hj]; split <;> rfl
  | n o l r il ir =>
    intro n x ⟨h0, h1, h2⟩
    rw [Tr.put_n, if_neg (by omega)]
    by_cases hm : n % 2 = 1
    · rw [if_pos hm]
      obtain ⟨a1, a2⟩ := il (n / 2) x h1
      refine ⟨⟨by omega, by rw [show (n + 1) / 2 = n / 2 + 1 by omega]; exact a1, by rw [show (n + 1 - 1) / 2 = (n - 1) / 2 by omega]; exact h2⟩, fun j => ?_⟩
      rw [Tr.get_n, Tr.get_n]
      by_cases hj : j = 0
      · rw [if_pos hj, if_pos hj, if_neg (by omega)]
      · rw [if_neg hj, if_neg hj]
        by_cases hj1 : j % 2 = 1
        · rw [if_pos hj1, if_pos hj1, a2]
          by_cases e : j / 2 = n / 2
          · rw [if_pos e, if_pos (by omega)]
          · rw [if_neg e, if_neg (by omega)]
        · rw [if_neg hj1, if_neg hj1, if_neg (by omega)]
    · rw [if_neg hm]
      obtain ⟨a1, a2⟩ := ir (n / 2 - 1) x (by rw [show n / 2 - 1 = (n - 1) / 2 by omega]; exact h2)
      refine ⟨⟨by omega, by rw [show (n + 1) / 2 = n / 2 by omega]; exact h1, by rw [show (n + 1 - 1) / 2 = n / 2 - 1 + 1 by omega]; exact a1⟩, fun j => ?_⟩
      rw [Tr.get_n, Tr.get_n]
      by_cases hj : j = 0
      · rw [if_pos hj, if_pos hj, if_neg (by omega)]
      · rw [if_neg hj, if_neg hj]
        by_cases hj1 : j % 2 = 1
        · rw [if_pos hj1, if_pos hj1, if_neg (by omega)]
        · rw [if_neg hj1, if_neg hj1, a2]
          by_cases e : j / 2 - 1 = n / 2 - 1
          · rw [if_pos e, if_pos (by omega)]
          · rw [if_neg e, if_neg (by omega)]
def allOne (xs : List DV) : Bool := xs.all fun y => y.cells.all DV.one
/-- An object, its length beside it, and whether all its cells are there. -/
inductive FO where
  | arr (t k ln : Nat) (on : Bool) (xs : List DV)
  | oth (o : Ob)
def FO.ob : FO → Ob
  | .arr t k _ _ xs => .arr t k xs
  | .oth o => o
def FO.good : FO → Prop
  | .arr _ _ ln on xs => ln = xs.length ∧ (on = true → allOne xs = true)
  | .oth (.arr ..) => False
  | .oth _ => True
/-- Memory: the tree, and how many. -/
structure Mm where
  t : Tr FO
  n : Nat
structure MmOf (m : Mm) (σ : List Ob) : Prop where
  n : m.n = σ.length
  full : m.t.full m.n
  get : ∀ i, (m.t.get i).map FO.ob = σ[i]?
  good : ∀ i o, m.t.get i = some o → o.good
theorem MmOf.put {m : Mm} {σ : List Ob} (h : MmOf m σ) {i : Nat} {o x : FO} (ho : m.t.get i = some o) (hx : x.good) : MmOf ⟨m.t.put i x, m.n⟩ (σ.set i x.ob) := by
  have h1 : σ[i]? = some o.ob := by rw [← h.get, ho]; rfl
  have hlt := (List.getElem?_eq_some_iff.1 h1).1
  have hg : ∀ j, (m.t.put i x).get j = if i = j then some x else m.t.get j := fun j => Tr.get_put _ _ _ _ (by rw [ho]; rfl)
  refine ⟨by simpa using h.n, ?_, fun j => ?_, fun j q hq => ?_⟩
  · -- the shape stays
    have key : ∀ (t : Tr FO) (n i : Nat), t.full n → (t.get i).isSome = true → (t.put i x).full n := by
      intro t
      induction t with
      | e => intro _ _ _ hs; cases hs
      | n o l r il ir =>
        intro n i ⟨a, b, c⟩ hs
        rw [Tr.get_n] at hs
        rw [Tr.put_n]
        by_cases h0 : i = 0
        · rw [if_pos h0]; exact ⟨a, b, c⟩
        · rw [if_neg h0] at hs ⊢
          by_cases h1 : i % 2 = 1
          · rw [if_pos h1] at hs ⊢; exact ⟨a, il _ _ b hs, c⟩
          · rw [if_neg h1] at hs ⊢; exact ⟨a, b, ir _ _ c hs⟩
    exact key _ _ _ h.full (by rw [ho]; rfl)
  · show ((m.t.put i x).get j).map FO.ob = _
    rw [hg, set_get hlt]
    split
    · rfl
    · exact h.get j
  · have hq' : (m.t.put i x).get j = some q := hq
    rw [hg] at hq'
    split at hq'
    · cases hq'; exact hx
    · exact h.good j q hq'
theorem MmOf.push {m : Mm} {σ : List Ob} (h : MmOf m σ) {x : FO} (hx : x.good) : MmOf ⟨m.t.put m.n x, Nat.succ m.n⟩ (σ ++ [x.ob]) := by
  obtain ⟨a1, a2⟩ := m.t.put_full m.n x h.full
  refine ⟨by simp [h.n], a1, fun j => ?_, fun j q hq => ?_⟩
  · show ((m.t.put m.n x).get j).map FO.ob = _
    rw [a2, push_get, h.n]
    split
    · rfl
    · exact h.get j
  · have hq' : (m.t.put m.n x).get j = some q := hq
    rw [a2] at hq'
    split at hq'
    · cases hq'; exact hx
    · exact h.good j q hq'
theorem MmOf.arr {m : Mm} {σ : List Ob} (h : MmOf m σ) {i t k ln : Nat} {on : Bool} {xs : List DV} (ho : m.t.get i = some (.arr t k ln on xs)) : σ[i]? = some (.arr t k xs) ∧ ln = xs.length :=
  ⟨by rw [← h.get, ho]; rfl, (h.good _ _ ho).1⟩
theorem MmOf.ones {m : Mm} {σ : List Ob} (h : MmOf m σ) {i t k ln : Nat} {on : Bool} {xs : List DV} (ho : m.t.get i = some (.arr t k ln on xs)) : on = true → allOne xs = true := (h.good _ _ ho).2
theorem MmOf.oth {m : Mm} {σ : List Ob} (h : MmOf m σ) {i : Nat} {o : Ob} (ho : m.t.get i = some (.oth o)) : σ[i]? = some o := by rw [← h.get, ho]; rfl
end
end Go.VL
end
section
set_option linter.unusedVariables false
set_option linter.unusedSimpArgs false
namespace Go.VL
open Go

noncomputable section
/-- The greatest number of a kind. -/
def maxN : IntKind → Nat
  | .i8 => 127
  | .u8 => 255
  | .i16 => 32767
  | .u16 => 65535
  | .i32 => 2147483647
  | .u32 => 4294967295
  | .i64 => 9223372036854775807
  | .u64 => 18446744073709551615
theorem wrap_in {k : IntKind} {m : Nat} (h : m ≤ maxN k) : k.wrap (m : Int) = m := by
  cases k <;> simp only [maxN] at h
  · exact IntWalk.i8_in _ (by omega)
  · exact IntWalk.i16_in _ (by omega)
  · exact IntWalk.i32_in _ (by omega)
  · exact IntWalk.i64_in _ (by omega)
  · exact IntWalk.u8_in _ (by omega)
  · exact IntWalk.u16_in _ (by omega)
  · exact IntWalk.u32_in _ (by omega)
  · exact IntWalk.u64_in _ (by omega)
theorem ble_if {α : Type} (a b : Nat) (t e : α) : bx (Nat.ble a b) t e = if a ≤ b then t else e := by
  rw [bx_if]
  by_cases h : a ≤ b
  · rw [if_pos h, if_pos (Nat.ble_eq_true_of_le h)]
  · rw [if_neg h, if_neg (fun e => h (Nat.le_of_ble_eq_true e))]
def wrapx (k : IntKind) (n : Int) : Int := match n with
  | .ofNat m => bx (Nat.ble m (maxN k)) (.ofNat m) (match k with
    | .u8 => .ofNat (Nat.mod m 256)
    | .u32 => .ofNat (Nat.mod m 4294967296)
    | .u64 => .ofNat (Nat.mod m 18446744073709551616)
    | k => k.wrap (.ofNat m))
  | .negSucc m => match k with
    | .i64 => bx (Nat.ble m 9223372036854775807) (.negSucc m) (IntKind.wrap .i64 (.negSucc m))
    | k => k.wrap (.negSucc m)
theorem wrapx_eq (k : IntKind) (n : Int) : wrapx k n = k.wrap n := by
  cases n with
  | ofNat m =>
    simp only [wrapx]
    rw [ble_if]
    split
    · rename_i h; exact (wrap_in h).symm
    · cases k
      case u8 => rw [IntKind.wrap_u8]; rfl
      case u32 => rw [IntKind.wrap_u32]; rfl
      case u64 => rw [IntKind.wrap_u64]; rfl
      all_goals rfl
  | negSucc m =>
    simp only [wrapx]
    cases k
    case i64 =>
      dsimp only
      rw [ble_if]
      split
      · rename_i h
        exact (IntWalk.i64_in _ (by rw [Int.negSucc_eq]; omega)).symm
      · rfl
    all_goals rfl
def ltx (a b : Int) : Bool := match a, b with
  | .ofNat m, .ofNat n => Nat.ble (Nat.succ m) n
  | .ofNat _, .negSucc _ => false
  | .negSucc _, .ofNat _ => true
  | .negSucc m, .negSucc n => Nat.ble (Nat.succ n) m
theorem ltx_iff (a b : Int) : ltx a b = true ↔ a < b := by
  cases a <;> cases b <;> simp only [ltx, Nat.ble_eq, Bool.false_eq_true, false_iff, true_iff, Int.negSucc_eq, Int.ofNat_eq_natCast, Nat.succ_eq_add_one] <;> omega
theorem ltx_eq (a b : Int) : ltx a b = decide (a < b) := by
  by_cases h : a < b
  · rw [(ltx_iff a b).2 h, decide_eq_true h]
  · rw [decide_eq_false h]
    cases e : ltx a b with
    | false => rfl
    | true => exact absurd ((ltx_iff a b).1 e) h
def eqx (a b : Int) : Bool := match a, b with
  | .ofNat m, .ofNat n => Nat.beq m n
  | .negSucc m, .negSucc n => Nat.beq m n
  | _, _ => false
theorem eqx_iff (a b : Int) : eqx a b = true ↔ a = b := by
  cases a <;> cases b <;> simp only [eqx, Nat.beq_eq, Bool.false_eq_true, false_iff, Int.ofNat.injEq, Int.negSucc.injEq, reduceCtorEq, not_false_eq_true]
theorem eqx_eq (a b : Int) : eqx a b = (a == b) := by
  by_cases h : a = b
  · rw [(eqx_iff a b).2 h, h]; simp
  · have : (a == b) = false := by simpa using h
    rw [this]
    cases e : eqx a b with
    | false => rfl
    | true => exact absurd ((eqx_iff a b).1 e) h
def notx (b : Bool) : Bool := bx b false true
theorem notx_eq (b : Bool) : notx b = !b := by cases b <;> rfl

theorem maxN_lt (k : IntKind) : maxN k < 2 ^ k.bits := by cases k <;> simp [maxN, IntKind.bits]
theorem ofInt_toNat {k : IntKind} {m : Nat} (h : m ≤ maxN k) : (BitVec.ofInt k.bits (m : Int)).toNat = m := by
  rw [BitVec.ofInt_natCast, BitVec.toNat_ofNat]
  exact Nat.mod_eq_of_lt (Nat.lt_of_le_of_lt h (maxN_lt k))
theorem maxN_pow (k : IntKind) : ∃ e, maxN k = 2 ^ e - 1 := by
  cases k
  · exact ⟨7, rfl⟩
  · exact ⟨15, rfl⟩
  · exact ⟨31, rfl⟩
  · exact ⟨63, rfl⟩
  · exact ⟨8, rfl⟩
  · exact ⟨16, rfl⟩
  · exact ⟨32, rfl⟩
  · exact ⟨64, rfl⟩
def bitx (op : BinOp) (k : IntKind) (a b : Int) : Int := match a, b with
  | .ofNat m, .ofNat n => bx (Nat.ble m (maxN k)) (bx (Nat.ble n (maxN k)) (match op with
    | .and => .ofNat (Nat.land m n)
    | .or => .ofNat (Nat.lor m n)
    | .xor => .ofNat (Nat.xor m n)
    | op => bits k op (.ofNat m) (.ofNat n)) (bits k op (.ofNat m) (.ofNat n))) (bits k op (.ofNat m) (.ofNat n))
  | a, b => bits k op a b
theorem bitx_eq (op : BinOp) (k : IntKind) (a b : Int) : bitx op k a b = bits k op a b := by
  cases a with
  | negSucc m => rfl
  | ofNat m =>
    cases b with
    | negSucc n => rfl
    | ofNat n =>
      simp only [bitx]
      rw [ble_if, ble_if]
      split
      · rename_i hm
        split
        · rename_i hn
          obtain ⟨e, he⟩ := maxN_pow k
          have hpos : 0 < 2 ^ e := Nat.two_pow_pos e
          have lm : m < 2 ^ e := by omega
          have ln : n < 2 ^ e := by omega
          cases op <;> first | rfl | skip
          · show ((m &&& n : Nat) : Int) = k.wrap _
            rw [BitVec.toNat_and, show (Int.ofNat m) = (m : Int) from rfl, show (Int.ofNat n) = (n : Int) from rfl, ofInt_toNat hm, ofInt_toNat hn]
            exact (wrap_in (by have := Nat.and_lt_two_pow m ln; omega)).symm
          · show ((m ||| n : Nat) : Int) = k.wrap _
            rw [BitVec.toNat_or, show (Int.ofNat m) = (m : Int) from rfl, show (Int.ofNat n) = (n : Int) from rfl, ofInt_toNat hm, ofInt_toNat hn]
            exact (wrap_in (by have := Nat.or_lt_two_pow lm ln; omega)).symm
          · show ((m ^^^ n : Nat) : Int) = k.wrap _
            rw [BitVec.toNat_xor, show (Int.ofNat m) = (m : Int) from rfl, show (Int.ofNat n) = (n : Int) from rfl, ofInt_toNat hm, ofInt_toNat hn]
            exact (wrap_in (by have := Nat.xor_lt_two_pow lm ln; omega)).symm
        · rfl
      · rfl
def binx (op : BinOp) (k : IntKind) (a b : Int) : Option DV := match op with
  | .add => some (.int k (wrapx k (Int.add a b)))
  | .sub => some (.int k (wrapx k (Int.sub a b)))
  | .mul => some (.int k (wrapx k (Int.mul a b)))
  | .and => some (.int k (bitx .and k a b))
  | .or => some (.int k (bitx .or k a b))
  | .xor => some (.int k (bitx .xor k a b))
  | .eql => some (.bool (eqx a b))
  | .neq => some (.bool (notx (eqx a b)))
  | .lss => some (.bool (ltx a b))
  | .leq => some (.bool (notx (ltx b a)))
  | .gtr => some (.bool (ltx b a))
  | .geq => some (.bool (notx (ltx a b)))
  | op => binInt op k a b
theorem binx_eq (op : BinOp) (k : IntKind) (a b : Int) : binx op k a b = binInt op k a b := by
  cases op <;> first | rfl | skip
  · simp only [binx, binInt, wrapx_eq]; rfl
  · simp only [binx, binInt, wrapx_eq]; rfl
  · simp only [binx, binInt, wrapx_eq]; rfl
  · simp only [binx, binInt, bitx_eq]
  · simp only [binx, binInt, bitx_eq]
  · simp only [binx, binInt, bitx_eq]
  · simp only [binx, binInt, eqx_eq]
  · simp only [binx, binInt, eqx_eq, notx_eq]; first | done | rfl
  · simp only [binx, binInt, ltx_eq]
  · simp only [binx, binInt, ltx_eq, notx_eq, ← decide_not, Int.not_lt]
  · simp only [binx, binInt, ltx_eq]; first | done | rfl
  · simp only [binx, binInt, ltx_eq, notx_eq, ← decide_not, Int.not_lt]; first | done | rfl
def shx (op : BinOp) (k : IntKind) (a b : Int) : Option DV := match a, b with
  | .ofNat m, .ofNat n => bx (Nat.ble n k.bits) (match op with
    | .shr => some (.int k (.ofNat (Nat.shiftRight m n)))
    | .shl => some (.int k (wrapx k (.ofNat (Nat.shiftLeft m n))))
    | op => shiftInt op k (.ofNat m) (.ofNat n)) (shiftInt op k (.ofNat m) (.ofNat n))
  | a, b => shiftInt op k a b
theorem shx_eq (op : BinOp) (k : IntKind) (a b : Int) : shx op k a b = shiftInt op k a b := by
  cases a with
  | negSucc m => rfl
  | ofNat m =>
    cases b with
    | negSucc n => rfl
    | ofNat n =>
      simp only [shx]
      rw [ble_if]
      split
      · rename_i hn
        have h0 : ¬ (Int.ofNat n < 0) := by simp
        cases op <;> first | rfl | skip
        · simp only [wrapx_eq, shiftInt, if_neg h0]
          congr 3
          have : min (Int.ofNat n).toNat k.bits = n := by simp [Nat.min_eq_left hn]
          rw [this]
          show ((m <<< n : Nat) : Int) = (m : Int) * 2 ^ n
          rw [Nat.shiftLeft_eq]
          simp
        · simp only [shiftInt, if_neg h0]
          congr 2
          have : min (Int.ofNat n).toNat k.bits = n := by simp [Nat.min_eq_left hn]
          rw [this]
          show ((m >>> n : Nat) : Int) = (m : Int).fdiv (2 ^ n)
          rw [Nat.shiftRight_eq_div_pow]
          rw [show ((2 : Int) ^ n) = ((2 ^ n : Nat) : Int) by simp, Int.fdiv_eq_ediv_of_nonneg _ (Int.natCast_nonneg _)]
          simp
      · rfl
end
end Go.VL
end
