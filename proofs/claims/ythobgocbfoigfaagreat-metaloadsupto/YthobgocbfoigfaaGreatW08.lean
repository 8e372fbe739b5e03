/- Proved: MetaLoads: whatever items and data come in (together of bulk at most 1048576), the call returns true and they read as they did; no other condition. This text is part 8 of 15. -/
import Derived.Test.YthobgocbfoigfaaGreatW07
import Derived.Maps.RangeRun
import Derived.Shelf.SlSortCmp.WholeK
import Derived.Ground.SlsfProg
import Derived.Test.YthobgocbfoigfaaGreatProg
section
set_option linter.unusedSimpArgs false
set_option linter.unusedVariables false
set_option maxRecDepth 100000
namespace Go.VL
open Go Go.Proofs

theorem sortRef0_run : runs LX FN 100000 58 [.vec 0 4 [], .fn 59 []] (.tup []) = true := by kernel_rfl
theorem sortRef0_ok (σ : List Ob) : Ok Tryz.prog 58 [.vec 0 4 [], .fn 59 []] σ (.ret (.tup [])) σ :=
  runs_ok layOkX mixed tabOk sortRef0_run (by simp [low_vec, low_fn]) σ
theorem sortSpan1_run : runs LX FN 100000 52 [.vec 0 2 [], .fn 64 []] (.tup []) = true := by kernel_rfl
theorem sortSpan1_ok (σ : List Ob) : Ok Tryz.prog 52 [.vec 0 2 [], .fn 64 []] σ (.ret (.tup [])) σ :=
  runs_ok layOkX mixed tabOk sortSpan1_run (by simp [low_vec, low_fn]) σ
theorem sortSpan2_run : runs LX FN 100000 52 [.vec 0 2 [], .fn 53 []] (.tup []) = true := by kernel_rfl
theorem sortSpan2_ok (σ : List Ob) : Ok Tryz.prog 52 [.vec 0 2 [], .fn 53 []] σ (.ret (.tup [])) σ :=
  runs_ok layOkX mixed tabOk sortSpan2_run (by simp [low_vec, low_fn]) σ
theorem sortSnap0_run : runs LX FN 100000 35 [.vec 0 4 [], .fn 36 []] (.tup []) = true := by kernel_rfl
theorem sortSnap0_ok (σ : List Ob) : Ok Tryz.prog 35 [.vec 0 4 [], .fn 36 []] σ (.ret (.tup [])) σ :=
  runs_ok layOkX mixed tabOk sortSnap0_run (by simp [low_vec, low_fn]) σ
theorem alive_run : runs LX FN 100000 4 [] (.bool true) = true := by kernel_rfl
theorem alive_ok (σ : List Ob) : Ok Tryz.prog 4 [] σ (.ret (.bool true)) σ :=
  runs_ok layOkX mixed tabOk alive_run (by simp) σ
end Go.VL
end
section
set_option linter.unusedSimpArgs false
set_option linter.unusedVariables false
namespace Go.VL
open Go

/-- A value without colour c, that leads to no object of K. -/
inductive Cl (c : Nat) (K : Nat → Prop) : DV → Prop
  | int {k n} : Cl c K (.int k n)
  | bool {b} : Cl c K (.bool b)
  | str {s} : Cl c K (.str s)
  | vec {c' k xs} (h : c' ≠ c) (hx : ∀ x ∈ xs, Cl c K x) : Cl c K (.vec c' k xs)
  | agg {cs : List DV} (h : ∀ x ∈ cs, Cl c K x) : Cl c K (.agg cs)
  | tup {cs : List DV} (h : ∀ x ∈ cs, Cl c K x) : Cl c K (.tup cs)
  | ptr {id g j o} (h : ¬ K id) : Cl c K (.ptr id g j o)
  | vptr {c'} {cs : List DV} (h : c' ≠ c) (hx : ∀ x ∈ cs, Cl c K x) : Cl c K (.vptr c' cs)
  | sl {id g off len} (h : ¬ K id) : Cl c K (.sl id g off len)
  | nils : Cl c K .nils
  | nilp : Cl c K .nilp
  | fn {f} {cs : List DV} (h : ∀ x ∈ cs, Cl c K x) : Cl c K (.fn f cs)
  | nilf : Cl c K .nilf
  | iface {t x} (h : Cl c K x) : Cl c K (.iface t x)
  | nili : Cl c K .nili
  | emp : Cl c K .emp
  | undef : Cl c K .undef
  | skip : Cl c K .skip
theorem Cl.cells {c : Nat} {K : Nat → Prop} {x : DV} (h : Cl c K x) {i : Nat} {d : DV} (hd : x.cells[i]? = some d) : Cl c K d := by
  have one : ∀ {y : DV}, Cl c K y → [y][i]? = some d → Cl c K d := by
    intro y hy e
    cases i with
    | zero => simp only [List.getElem?_cons_zero, Option.some.injEq] at e; rw [← e]; exact hy
    | succ i => simp at e
  cases h with
  | agg h => exact h d (List.mem_of_getElem? hd)
  | int => exact one .int hd
  | bool => exact one .bool hd
  | str => exact one .str hd
  | vec h hx => exact one (.vec h hx) hd
  | tup h => exact one (.tup h) hd
  | ptr h => exact one (.ptr h) hd
  | vptr h hx => exact one (.vptr h hx) hd
  | sl h => exact one (.sl h) hd
  | nils => exact one .nils hd
  | nilp => exact one .nilp hd
  | fn h => exact one (.fn h) hd
  | nilf => exact one .nilf hd
  | iface h => exact one (.iface h) hd
  | nili => exact one .nili hd
  | emp => exact one .emp hd
  | undef => exact one .undef hd
  | skip => exact one .skip hd

theorem Rep.back {w : World} {F F3 : Nat → Nat → Prop} {μ μ3 : Nat → Option Nat} {σ σ3 : List Ob} {c : Nat} {K : Nat → Prop} (hF : ∀ c' b, c' ≠ c → F c' b → F3 c' b)
    (hσ : ∀ (id t k : Nat) (xs : List DV), ¬ K id → σ[id]? = some (.arr t k xs) → σ3[id]? = some (.arr t k xs) ∧ μ3 id = μ id) {d : DV} {v : Value} (h : Rep w F μ σ d v) : Cl c K d → Rep w F3 μ3 σ3 d v := by
  induction h with
  | int => intro _; exact .int
  | bool => intro _; exact .bool
  | str => intro _; exact .str
  | vec u hc hm ha hk hr ih =>
    intro hl
    cases hl with
    | vec h hx =>
      refine .vec u hc hm (fun h0 => ?_) hk (fun j i x d hj hi => ih j i x d hj hi ((hx x (List.mem_of_getElem? hj)).cells hi))
      obtain ⟨a, e, hFa, hcell⟩ := ha h0
      exact ⟨a, e, hF _ _ h hFa, hcell⟩
  | agg hl h ih => intro hc; cases hc with | agg h' => exact .agg hl fun i d v hd hv => ih i d v hd hv (h' d (List.mem_of_getElem? hd))
  | tup hl h ih => intro hc; cases hc with | tup h' => exact .tup hl fun i d v hd hv => ih i d v hd hv (h' d (List.mem_of_getElem? hd))
  | ptr h =>
    intro hc
    cases hc with
    | ptr hk =>
      obtain ⟨t, k, xs, ho, hg, hb⟩ := h
      obtain ⟨e1, e2⟩ := hσ _ _ _ _ hk ho
      exact .ptr ⟨t, k, xs, e1, hg, by rw [e2]; exact hb⟩
  | vptr u hFa hu hr ih =>
    intro hc
    cases hc with
    | vptr h hx => exact .vptr u (hF _ _ h hFa) hu fun i d hd => ih i d hd (hx d (List.mem_of_getElem? hd))
  | sl h =>
    intro hc
    cases hc with
    | sl hk =>
      obtain ⟨t, k, xs, ho, h1, h2, h3, h4, hb⟩ := h
      obtain ⟨e1, e2⟩ := hσ _ _ _ _ hk ho
      exact .sl ⟨t, k, xs, e1, h1, h2, h3, h4, by rw [e2]; exact hb⟩
  | nils => intro _; exact .nils
  | nilp => intro _; exact .nilp
  | fn hl h ih => intro hc; cases hc with | fn h' => exact .fn hl fun i d v hd hv => ih i d v hd hv (h' d (List.mem_of_getElem? hd))
  | nilf => intro _; exact .nilf
  | iface h ih => intro hc; cases hc with | iface h' => exact .iface (ih h')
  | nili => intro _; exact .nili
  | mp _ _ => intro hc; cases hc
  | it _ _ => intro hc; cases hc
  | yld _ _ => intro hc; cases hc
  | emp => intro _; exact .emp
  | undef => intro _; exact .undef
  | skip => intro _; exact .skip

/-- The one object there is, lent. -/
theorem Ok.lend {P : Program} {f : FuncId} {t c : Nat} {xs : List DV} {o : DV} {σ2 σ3 : List Ob} {K : Nat → Prop} (hN : 0 < xs.length) (hs : ∀ x ∈ xs, ∃ k n, x = .int k n)
    (h : Ok P f [.vec c 1 xs] [.dead] (.ret o) σ2) (h3 : σ3[0]? = some (.arr t 1 xs)) (hK0 : ¬ K 0) (hlen : σ3.length = σ2.length)
    (hk : ∀ id, K id → ∀ x, σ3[id]? = some x → x = .dead)
    (hk' : ∀ id, ¬ K id → id ≠ 0 → ∀ x, σ3[id]? = some x → σ2[id]? = some x ∧ ((∃ t k ys, x = .arr t k ys ∧ ∀ y ∈ ys, Cl c K y) ∨ x = .dead))
    (ho : Cl c K o) : Ok P f [.sl 0 xs.length 0 xs.length] [.arr t 1 xs] (.ret o) σ3 := by
  refine ⟨h.enters, fun w F μ vs hr hv => ?_⟩
  obtain ⟨hl, hv⟩ := hv
  obtain ⟨v, rfl⟩ : ∃ v, vs = [v] := by
    cases vs with
    | nil => cases hl
    | cons v r => cases r with
      | nil => exact ⟨v, rfl⟩
      | cons => simp at hl
  have hv0 := hv 0 _ v rfl rfl
  have hob := hr.obj 0 _ rfl
  obtain ⟨hcl, hob⟩ := hob
  rcases hob with ⟨h0, _⟩ | ⟨b, cur, fr, hb, hheap, hfr, hcur⟩
  · rw [h0] at hN; exact absurd hN (Nat.lt_irrefl 0)
  have hno : ∀ x ∈ xs, NoId 0 x := by
    intro x hx
    obtain ⟨k, n, rfl⟩ := hs x hx
    exact (noId_int k n).2 trivial
  obtain ⟨k1, k2, _⟩ := hr.kill c (id := 0) (t := t) (k := 1) (xs := xs) rfl hno
  have ev : fz 0 xs.length (asVec c 1 xs) (.sl 0 xs.length 0 xs.length) = .vec c 1 xs := by
    simp only [fz, if_true, asVec, List.drop_zero, List.take_length]
  have kv := k2 _ v hv0
  rw [ev] at kv
  refine (h.calls w _ _ [v] k1 ⟨rfl, fun i d u hd hu => ?_⟩).mono ?_
  · cases i with
    | zero =>
      simp only [List.getElem?_cons_zero, Option.some.injEq] at hd hu
      rw [← hd, ← hu]; exact kv
    | succ i => simp at hd
  rintro e w' ⟨F2, μ2, u, haf, he, hu⟩
  have hF1 : frozenIn F c (μ 0) c b := .inr ⟨rfl, hb⟩
  have hblk : w'.heap[b]? = w.heap[b]? := haf.step.imm c b hF1
  have hF2 : F2 c b := haf.step.col c b hF1
  have hbw := hr.lt 0 b hb
  have honly : ∀ c', F2 c' b → c' = c := by
    intro c' h'
    rcases haf.col c' b h' with h' | h'
    · rcases h' with h' | h'
      · exact absurd hb ((hr.col c' b h').2 0)
      · exact h'.1
    · omega
  obtain ⟨F3, hF3⟩ : ∃ F3 : Nat → Nat → Prop, F3 = fun c' b' => F2 c' b' ∧ b' ≠ b := ⟨_, rfl⟩
  obtain ⟨D, hD⟩ : ∃ D : Nat → Bool, ∀ id, D id = true ↔ K id := by
    classical exact ⟨fun id => decide (K id), fun id => by simp⟩
  obtain ⟨μ3, hμ3⟩ : ∃ μ3 : Nat → Option Nat, μ3 = fun id => if id = 0 then some b else if D id = true then none else μ2 id := ⟨_, rfl⟩
  have m0 : μ3 0 = some b := by rw [hμ3]; rfl
  have mk : ∀ id, K id → id ≠ 0 → μ3 id = none := fun id hk h0 => by rw [hμ3]; simp only [if_neg h0, if_pos ((hD id).2 hk)]
  have mn : ∀ id, ¬ K id → id ≠ 0 → μ3 id = μ2 id := fun id hk h0 => by rw [hμ3]; simp only [if_neg h0, if_neg (fun e => hk ((hD id).1 e))]
  have dead0 : ∀ o', σ2[0]? = some o' → o' = .dead := by
    intro o' h'
    obtain ⟨o'', e1, e2⟩ := haf.step.ext 0 .dead rfl
    rw [h'] at e1
    cases e1
    exact e2
  have hσ : ∀ (id t k : Nat) (ys : List DV), ¬ K id → σ2[id]? = some (.arr t k ys) → σ3[id]? = some (.arr t k ys) ∧ μ3 id = μ2 id := by
    intro id t k ys hk h2
    have h0 : id ≠ 0 := by rintro rfl; cases dead0 _ h2
    have hlt := (List.getElem?_eq_some_iff.1 h2).1
    have e3 : σ3[id]? = some (σ3[id]'(by omega)) := List.getElem?_eq_getElem _
    have := (hk' id hk h0 _ e3).1
    rw [h2] at this
    rw [e3, ← this]
    exact ⟨rfl, mn id hk h0⟩
  have back : ∀ d v, Cl c K d → Rep w' F2 μ2 σ2 d v → Rep w' F3 μ3 σ3 d v := fun d v hc hd => Rep.back (fun c' b' hne hb' => by
    rw [hF3]
    exact ⟨hb', fun e => hne (honly c' (e ▸ hb'))⟩) hσ hd hc
  refine ⟨F3, μ3, u, ⟨⟨?_, ?_, ?_, ?_, ?_⟩, ⟨?_, ?_, ?_, ?_, ?_⟩, ?_, ?_⟩, he, back _ _ ho hu⟩
  · intro id x hx
    by_cases h0 : id = 0
    · subst h0
      rw [h3] at hx
      cases hx
      refine ⟨hcl, .inr ⟨b, cur, fr, m0, hblk.trans hheap, hfr, fun j i x d hj hi => ?_⟩⟩
      obtain ⟨v, e1, e2⟩ := hcur j i x d hj hi
      refine ⟨v, e1, ?_⟩
      obtain ⟨k, n, rfl⟩ := hs x (List.mem_of_getElem? hj)
      cases i with
      | zero =>
        simp only [DV.cells, List.getElem?_cons_zero, Option.some.injEq] at hi
        subst hi
        cases e2
        exact .int
      | succ i => simp [DV.cells] at hi
    · by_cases hK : K id
      · rw [hk id hK x hx]
        exact mk id hK h0
      · obtain ⟨g1, g2⟩ := hk' id hK h0 x hx
        have hx2 := haf.hr.obj id x g1
        rcases g2 with ⟨t', k', ys, rfl, hys⟩ | rfl
        · obtain ⟨q1, q2⟩ := hx2
          refine ⟨q1, ?_⟩
          rw [mn id hK h0]
          rcases q2 with q2 | ⟨b', cur', fr', q3, q4, q5, q6⟩
          · exact .inl q2
          · refine .inr ⟨b', cur', fr', q3, q4, q5, fun j i x d hj hi => ?_⟩
            obtain ⟨v, e1, e2⟩ := q6 j i x d hj hi
            exact ⟨v, e1, back _ _ ((hys x (List.mem_of_getElem? hj)).cells hi) e2⟩
        · exact (mn id hK h0).trans hx2
  · intro id hid
    have h0 : id ≠ 0 := by
      rintro rfl
      rw [List.getElem?_eq_none hid] at h3
      cases h3
    by_cases hK : K id
    · exact mk id hK h0
    · rw [mn id hK h0]
      exact haf.hr.out id (by omega)
  · intro i j b' hi hj
    have key : ∀ i, i ≠ 0 → μ3 i = some b' → μ2 i = some b' := by
      intro i h0 hi
      by_cases hK : K i
      · rw [mk i hK h0] at hi; cases hi
      · rw [mn i hK h0] at hi; exact hi
    have nob : ∀ i, i ≠ 0 → μ3 i = some b → False := by
      intro i h0 hi
      by_cases hK : K i
      · rw [mk i hK h0] at hi; cases hi
      · rw [mn i hK h0] at hi; exact (haf.hr.col c b hF2).2 i hi
    by_cases h0 : i = 0
    · subst h0
      rw [m0] at hi
      cases hi
      by_cases h0 : j = 0
      · exact h0.symm
      · exact (nob j h0 hj).elim
    · by_cases h1 : j = 0
      · subst h1
        rw [m0] at hj
        cases hj
        exact (nob i h0 hi).elim
      · exact haf.hr.inj i j b' (key i h0 hi) (key j h1 hj)
  · intro id b' hid
    by_cases h0 : id = 0
    · subst h0
      rw [m0] at hid
      cases hid
      exact Nat.lt_of_lt_of_le hbw haf.fr.size
    · by_cases hK : K id
      · rw [mk id hK h0] at hid; cases hid
      · rw [mn id hK h0] at hid; exact haf.hr.lt id b' hid
  · intro c' b' hc
    rw [hF3] at hc
    refine ⟨(haf.hr.col c' b' hc.1).1, fun id hid => ?_⟩
    by_cases h0 : id = 0
    · subst h0
      rw [m0] at hid
      cases hid
      exact hc.2 rfl
    · by_cases hK : K id
      · rw [mk id hK h0] at hid; cases hid
      · rw [mn id hK h0] at hid; exact (haf.hr.col c' b' hc.1).2 id hid
  · exact fun c' b' hc => haf.step.imm c' b' (.inl hc)
  · intro c' b' hc
    rw [hF3]
    exact ⟨haf.step.col c' b' (.inl hc), by rintro rfl; exact (hr.col c' _ hc).2 0 hb⟩
  · intro id x hx
    cases id with
    | zero =>
      simp only [List.getElem?_cons_zero, Option.some.injEq] at hx
      subst hx
      exact ⟨_, h3, xs, rfl, Nat.le_refl _⟩
    | succ id => simp at hx
  · intro id t' k' ys zs hy hz he
    cases id with
    | zero =>
      refine ⟨m0.trans hb.symm, fun b' cur' fr' hb' hc' => ?_⟩
      rw [hb] at hb'
      cases hb'
      exact ⟨cur', fr', hblk.trans hc', rfl⟩
    | succ id => simp at hy
  · intro id t' ds hy
    cases id with
    | zero => simp at hy
    | succ id => simp at hy
  · refine ⟨haf.fr.os, haf.fr.tape, haf.fr.output, haf.fr.size, fun b' hb' hn => haf.fr.keep b' hb' fun id e => ?_, fun id b' hid => ?_, haf.fr.drawn⟩
    · simp only [without] at e
      split at e
      · cases e
      · exact hn id e
    · by_cases h0 : id = 0
      · subst h0
        rw [m0] at hid
        cases hid
        exact .inl hb
      · by_cases hK : K id
        · rw [mk id hK h0] at hid; cases hid
        · rw [mn id hK h0] at hid
          rcases haf.fr.new id b' hid with e | e
          · simp only [without] at e
            split at e
            · cases e
            · exact .inl e
          · exact .inr e
  · intro c' b' hc
    rw [hF3] at hc
    rcases haf.col c' b' hc.1 with e | e
    · rcases e with e | ⟨_, e⟩
      · exact .inl e
      · rw [hb] at e
        cases e
        exact absurd rfl hc.2
    · exact .inr e
end Go.VL
end
section
set_option linter.unusedSimpArgs false
set_option linter.unusedVariables false
namespace Go.VL
open Go

/-- Where the objects are O, the value d is D, as soon as nobody writes any more. -/
inductive Fz (O : List Ob) (c : Nat) : DV → DV → Prop
  | low {d} (h : Low 0 d) : Fz O c d d
  | nil {k} : Fz O c .nils (.vec c k [])
  | emp {k} : Fz O c .emp (.vec c k [])
  | agg {xs ys : List DV} (hl : xs.length = ys.length) (h : ∀ (i : Nat) (x y : DV), xs[i]? = some x → ys[i]? = some y → Fz O c x y) : Fz O c (.agg xs) (.agg ys)
  | tup {xs ys : List DV} (hl : xs.length = ys.length) (h : ∀ (i : Nat) (x y : DV), xs[i]? = some x → ys[i]? = some y → Fz O c x y) : Fz O c (.tup xs) (.tup ys)
  | sl {id off l t k : Nat} {xs ys : List DV} (ho : O[id]? = some (.arr t k xs)) (hl : ys.length = l)
      (hk : ∀ (j : Nat) (x y : DV), j < l → xs[off + j]? = some x → ys[j]? = some y → x.cells.length = y.cells.length)
      (h : ∀ (j i : Nat) (x y d D : DV), j < l → xs[off + j]? = some x → ys[j]? = some y → x.cells[i]? = some d → y.cells[i]? = some D → Fz O c d D) : Fz O c (.sl id xs.length off l) (.vec c k ys)

section
variable {w : World} {F F' : Nat → Nat → Prop} {μ μ' : Nat → Option Nat} {O σ0 : List Ob} {c : Nat}
theorem Rep.low1 (hF : ∀ c b, F c b → F' c b) {σ σ' : List Ob} {d : DV} {v : Value} (h : Rep w F μ σ d v) : Low 0 d → Rep w F' μ' σ' d v := by
  induction h with
  | int => intro _; exact .int
  | bool => intro _; exact .bool
  | str => intro _; exact .str
  | vec u hc hm ha hk hr ih =>
    intro hl
    exact .vec u hc hm (fun h0 => by obtain ⟨a, f1, f2, f3⟩ := ha h0; exact ⟨a, f1, hF _ _ f2, f3⟩) hk fun j i x d hx hd => ih j i x d hx hd (low_cells ((low_vec _ _ _).1 hl x (List.mem_of_getElem? hx)) hd)
  | agg hl h ih => intro h0; exact .agg hl fun i d v hd hv => ih i d v hd hv ((low_agg _).1 h0 d (List.mem_of_getElem? hd))
  | tup hl h ih => intro h0; exact .tup hl fun i d v hd hv => ih i d v hd hv ((low_tup _).1 h0 d (List.mem_of_getElem? hd))
  | ptr h => intro h0; exact absurd ((low_ptr _ _ _ _).1 h0) (by omega)
  | vptr u hF' hu hr ih => intro h0; exact .vptr u (hF _ _ hF') hu fun i d hd => ih i d hd ((low_vptr _ _).1 h0 d (List.mem_of_getElem? hd))
  | sl h => intro h0; exact absurd ((low_sl _ _ _ _).1 h0) (by omega)
  | nils => intro _; exact .nils
  | nilp => intro _; exact .nilp
  | fn hl h ih => intro h0; exact .fn hl fun i d v hd hv => ih i d v hd hv ((low_fn _ _).1 h0 d (List.mem_of_getElem? hd))
  | nilf => intro _; exact .nilf
  | iface h ih => intro h0; exact .iface (ih ((low_iface _ _).1 h0))
  | nili => intro _; exact .nili
  | mp h ho => intro h0; exact absurd ((low_mp _).1 h0) (by omega)
  | it h ho => intro h0; exact absurd ((low_it _).1 h0) (by omega)
  | yld h ho => intro h0; exact absurd ((low_yld _).1 h0) (by omega)
  | emp => intro _; exact .emp
  | undef => intro _; exact .undef
  | skip => intro _; exact .skip
theorem Fz.rep (hr : HR w F μ O) (hF : ∀ c b, F c b → F' c b) (hμ : ∀ id b, μ id = some b → F' c b) {d D : DV} (h : Fz O c d D) : ∀ v, Rep w F μ O d v → Rep w F' μ' σ0 D v := by
  induction h with
  | low h => intro v hv; exact hv.low1 hF h
  | nil =>
    intro v hv
    cases hv
    exact .vec (A := none) (cap := 0) (fun _ _ => undef) (by simp) (by simp) (fun h => by simp at h) (fun x hx => by simp at hx) (fun j i x d hx => by simp at hx)
  | emp =>
    intro v hv
    cases hv
    exact .vec (cap := 0) (fun _ _ => undef) (by simp) (by simp) (fun h => by simp at h) (fun x hx => by simp at hx) (fun j i x d hx => by simp at hx)
  | @agg xs ys hl h ih =>
    intro v hv
    cases hv with
    | agg hl' hh =>
      refine .agg (hl.symm.trans hl') fun i d v hd hv => ?_
      have hi := (List.getElem?_eq_some_iff.1 hd).1
      have hx : xs[i]? = some (xs[i]'(by omega)) := List.getElem?_eq_getElem _
      exact ih i _ _ hx hd v (hh i _ _ hx hv)
  | @tup xs ys hl h ih =>
    intro v hv
    cases hv with
    | tup hl' hh =>
      refine .tup (hl.symm.trans hl') fun i d v hd hv => ?_
      have hi := (List.getElem?_eq_some_iff.1 hd).1
      have hx : xs[i]? = some (xs[i]'(by omega)) := List.getElem?_eq_getElem _
      exact ih i _ _ hx hd v (hh i _ _ hx hv)
  | @sl id off l t k xs ys ho hlen hk h ih =>
    intro v hv
    cases hv with
    | @sl _ _ _ _ A cap hs =>
      obtain ⟨t2, k2, xs2, ho2, q1, q2, q3, q4, q5⟩ := hs
      rw [ho] at ho2
      cases ho2
      obtain ⟨hk1, hor⟩ := hr.obj _ _ ho
      rcases q5 rfl with ⟨g0, rfl, rfl, hmu⟩ | ⟨b, cur, fr, hmu, hh, hsz, hAs, hA⟩
      · have : l = 0 := by omega
        subst this
        have hy : ys = [] := List.length_eq_zero_iff.1 hlen
        subst hy
        exact .vec (A := none) (cap := 0) (fun _ _ => undef) (by simp) (by simp) (fun h => by simp at h) (fun x hx => by simp at hx) (fun j i x d hx => by simp at hx)
      · rcases hor with ⟨rfl, hmu'⟩ | ⟨b', cur', fr', hmu', hh', hfr', hcells⟩
        · rw [hmu] at hmu'; cases hmu'
        rw [hmu] at hmu'; cases hmu'
        rw [hh] at hh'; cases hh'
        have := Rep.vec (w := w) (F := F') (μ := μ') (σ := σ0) (c := c) (k := k) (xs := ys) (A := A) (cap := cap) (fun j i => (cur[(off + j) * k + i]?).getD undef) (by omega) q4 (fun h0 => by
          refine ⟨_, hA (.inl (by omega)), hμ _ _ hmu, fun j i hj hi => ?_⟩
          have hxx : xs[off + j]? = some (xs[off + j]'(by omega)) := List.getElem?_eq_getElem _
          have hxk := hk1 _ (List.mem_of_getElem? hxx)
          obtain ⟨vv, g1, g2⟩ := hcells (off + j) i _ _ hxx (List.getElem?_eq_getElem (show i < _ by rw [hxk]; exact hi))
          rw [g1]
          rw [add_mk]
          unfold World.cell?
          rw [hh]
          dsimp only
          rw [show off * k + (j * k + i) = (off + j) * k + i by rw [Nat.add_mul]; omega, g1]
          rfl) (fun y hy => by
          obtain ⟨j, hj⟩ := List.getElem?_of_mem hy
          have hjl := (List.getElem?_eq_some_iff.1 hj).1
          have hxx : xs[off + j]? = some (xs[off + j]'(by omega)) := List.getElem?_eq_getElem _
          rw [← hk j _ _ (by omega) hxx hj]
          exact hk1 _ (List.mem_of_getElem? hxx)) (fun j i y D hy hD => by
          have hjl := (List.getElem?_eq_some_iff.1 hy).1
          have hil := (List.getElem?_eq_some_iff.1 hD).1
          have hxx : xs[off + j]? = some (xs[off + j]'(by omega)) := List.getElem?_eq_getElem _
          have hlc := hk j _ _ (by omega) hxx hy
          have hd : (xs[off + j]'(by omega)).cells[i]? = some ((xs[off + j]'(by omega)).cells[i]'(by omega)) := List.getElem?_eq_getElem _
          obtain ⟨vv, g1, g2⟩ := hcells (off + j) i _ _ hxx hd
          rw [g1]
          exact ih j i _ _ _ _ (by omega) hxx hy hd hD vv g2)
        rwa [hlen] at this
end

/-! ### One of several outcomes -/
structure OkE (P : Program) (f : FuncId) (args : List DV) (σ : List Ob) (Q : Out → List Ob → Prop) : Prop where
  enters : ∀ (vs : Array Value) (w : World), (callFunc f vs).run P w = .ok (.enter f vs) w
  calls : ∀ (w : World) (F : Nat → Nat → Prop) (μ : Nat → Option Nat) (vs : List Value), HR w F μ σ → Reps w F μ σ args vs → Calls P f ⟨vs⟩ w fun e w' => ∃ o σ', Q o σ' ∧ OutPost o σ' w F μ σ e w'
theorem Ok.toE {P : Program} {f : FuncId} {args : List DV} {σ σ' : List Ob} {o : Out} {Q : Out → List Ob → Prop} (h : Ok P f args σ o σ') (hq : Q o σ') : OkE P f args σ Q :=
  ⟨h.enters, fun w F μ vs hr hv => (h.calls w F μ vs hr hv).mono fun e w' he => ⟨o, σ', hq, he⟩⟩
theorem OkE.mono {P : Program} {f : FuncId} {args : List DV} {σ : List Ob} {Q Q' : Out → List Ob → Prop} (h : OkE P f args σ Q) (hq : ∀ o σ', Q o σ' → Q' o σ') : OkE P f args σ Q' :=
  ⟨h.enters, fun w F μ vs hr hv => (h.calls w F μ vs hr hv).mono fun e w' he => by obtain ⟨o, σ', h1, h2⟩ := he; exact ⟨o, σ', hq _ _ h1, h2⟩⟩
theorem OkE.ok {P : Program} {f : FuncId} {args : List DV} {σ σ' : List Ob} {o : Out} {Q : Out → List Ob → Prop} (h : OkE P f args σ Q) (hq : ∀ o2 σ2, Q o2 σ2 → o2 = o ∧ σ2 = σ') : Ok P f args σ o σ' :=
  ⟨h.enters, fun w F μ vs hr hv => (h.calls w F μ vs hr hv).mono fun e w' he => by obtain ⟨o2, σ2, h1, h2⟩ := he; obtain ⟨rfl, rfl⟩ := hq _ _ h1; exact h2⟩
/-- A call where no objects are, among objects; what it left is given up. -/
theorem OkE.thaw {P : Program} {f : FuncId} {args : List DV} {c : Nat} {R : DV → Prop} (h : OkE P f args [] fun o O => ∃ d D, o = .ret d ∧ Fz O c d D ∧ R D) (ha : ∀ x ∈ args, Low 0 x) (σ : List Ob) :
    OkE P f args σ fun o σ' => σ' = σ ∧ ∃ D, o = .ret D ∧ R D := by
  refine ⟨h.enters, fun w F μ vs hr hv => ?_⟩
  have hv0 : Reps w F (fun _ => none) [] args vs := ⟨hv.1, fun i d v hd hv' => (hv.2 i d v hd hv').low0 (ha d (List.mem_of_getElem? hd))⟩
  refine (h.calls w F _ vs hr.empty hv0).mono fun e w' he => ?_
  obtain ⟨o, O, ⟨d, D, rfl, hz, hR⟩, F1, μ1, v, haf, rfl, hrep⟩ := he
  have hk : ∀ b, b < w.heap.size → w'.heap[b]? = w.heap[b]? := fun b hb => haf.fr.keep b hb fun _ e => by cases e
  have hnew : ∀ id b, μ1 id = some b → w.heap.size ≤ b := fun id b e => by
    rcases haf.fr.new id b e with e | e
    · cases e
    · exact e
  obtain ⟨k1, k2⟩ := hr.keepAll (F' := fun c' b => F1 c' b ∨ (c' = c ∧ ∃ id, μ1 id = some b)) hk (fun c b h => .inl (haf.step.col c b h)) (fun c' b h => by
    rcases h with h | ⟨_, id, h⟩
    · rcases haf.col c' b h with h2 | h2
      · exact .inl h2
      · exact .inr ⟨h2, (haf.hr.col c' b h).1⟩
    · exact .inr ⟨hnew id b h, haf.hr.lt id b h⟩) haf.fr.size
  refine ⟨.ret D, σ, ⟨rfl, D, rfl, hR⟩, _, μ, v, ⟨k1, k2, ⟨haf.fr.os, haf.fr.tape, haf.fr.output, haf.fr.size, fun b hb _ => hk b hb, fun id b e => .inl e, haf.fr.drawn⟩, fun c' b h => ?_⟩, rfl, ?_⟩
  · rcases h with h | ⟨_, id, h⟩
    · exact haf.col c' b h
    · exact .inr (hnew id b h)
  · exact hz.rep haf.hr (fun c b h => .inl h) (fun id b e => .inr ⟨rfl, id, e⟩) v hrep
theorem Ok.thaw {P : Program} {f : FuncId} {args : List DV} {c : Nat} {d D : DV} {O : List Ob} (h : Ok P f args [] (.ret d) O) (hz : Fz O c d D) (ha : ∀ x ∈ args, Low 0 x) (σ : List Ob) : Ok P f args σ (.ret D) σ :=
  (OkE.thaw (R := fun x => x = D) (h.toE ⟨d, D, rfl, hz, rfl⟩) ha σ).ok fun o σ' ⟨e, D', e1, e2⟩ => by subst e2; exact ⟨e1, e⟩
theorem OkE.of_body {P : Program} {L : Lay} (hL : LayOk P L) {f : FuncId} {fn : Func} {c : Code} {args : List DV} {σ : List Ob} {Q : Out → List Ob → Prop} (hf : P.funcs[f]? = some fn) (hb : fn.body = some c)
    (hname : (fn.name == "runtime.NumGoroutine") = false) (hlen : args.length ≤ fn.ntmps)
    (h : ∀ C : Ctx, C.P = P → C.n = fn.ntmps → C.σ0 = σ → Fixed σ → C.dd = [] → SW C c ⟨slots 0 args, σ⟩ fun e st => ∃ out σ', Q out σ' ∧ finK C L fn.results.toList out σ' e st) : OkE P f args σ Q := by
  refine ⟨fun vs w => ?_, fun w F μ vs hr hv => ?_⟩
  · have hn : ¬ fn.name = "runtime.NumGoroutine" := by simpa using hname
    simp [callFunc, program, Sem.run, hf, hn, hb]
  · let C : Ctx := ⟨P, fn.ntmps, none, [], w, F, μ, σ, hr.out⟩
    refine calls_of_wp hf hb (wp_mono ((wpIn_wide (n := 0)).1 (h C rfl rfl rfl hr.fixed rfl _ w ⟨F, μ, hr, fun t => ?_, Step.refl .., Fr.refl .., fun _ _ h => .inl h, ?_, rfl⟩)) fun e a w' hq => ?_)
    · show Rep w F μ σ (lk (slots 0 args) t) _
      rw [lk_slots, if_pos (Nat.zero_le t), Nat.sub_zero]
      rcases Nat.lt_or_ge t args.length with ht | ht
      · rw [List.getElem?_eq_getElem ht, Option.getD_some]
        have ht' : t < vs.length := by rw [← hv.1]; exact ht
        have : ((⟨vs⟩ : Array Value) ++ Array.replicate (fn.ntmps - (⟨vs⟩ : Array Value).size) undef).getD t undef = vs[t] := by
          rw [Array.getD_eq_getD_getElem?, Array.getElem?_append_left (by simpa using ht')]
          simp [ht']
        rw [this]
        exact hv.2 t _ _ (List.getElem?_eq_getElem ht) (List.getElem?_eq_getElem ht')
      · rw [List.getElem?_eq_none ht]
        exact .undef
    · show ((⟨vs⟩ : Array Value) ++ Array.replicate (fn.ntmps - (⟨vs⟩ : Array Value).size) undef).size = fn.ntmps
      have := hv.1
      simp; omega
    · have wk : ∀ {F' μ' st}, Rel0 C F' μ' st a w' → Rel0 C F' μ' ⟨[], st.ob⟩ a w' := fun h => ⟨h.hr, fun _ => .undef, h.step, h.fr, h.col, h.size, h.defers⟩
      have fin : ∀ st, (∃ out σ', Q out σ' ∧ ∃ st' d d', Ghost C st st' ∧ resDV L st' fn.results.toList = some d ∧ GhostV C d st'.ob d' σ' ∧ out = .ret d') → Rel C st a w' →
          a.defers = [] ∧ ∃ v, (results fn a.tmps).run P w' = .ok v w' ∧ ∃ o σ', Q o σ' ∧ OutPost o σ' w F μ σ (.returned v) w' := by
        rintro st ⟨out, σ', hQ, st', d, d', g1, g3, g4, rfl⟩ hrel
        obtain ⟨F', μ', h'⟩ := g1 a w' hrel
        obtain ⟨v, r1, r2⟩ := run_results (C := C) hL h' g3
        obtain ⟨F'', μ'', h'', r3⟩ := g4 a w' v F' μ' (wk h') r2
        exact ⟨h'.defers, v, r1, _, _, hQ, F'', μ'', v, ⟨h''.hr, h''.step, h''.fr, h''.col⟩, rfl, r3⟩
      cases e with
      | normal => obtain ⟨st, hk, hrel⟩ := hq; exact fin st hk hrel
      | ret => obtain ⟨st, hk, hrel⟩ := hq; exact fin st hk hrel
      | exit i => obtain ⟨st, ⟨_, _, _, hk⟩, _⟩ := hq; exact hk.elim
      | goto l => exact hq.elim
      | panic ch =>
        obtain ⟨st, d, v, F', μ', ⟨out, σ', hQ, d', g4, rfl⟩, rfl, h', r2⟩ := hq
        obtain ⟨F'', μ'', h'', r3⟩ := g4 a w' v F' μ' (wk h') r2
        exact ⟨h'.defers, _, _, hQ, F'', μ'', v, ⟨h''.hr, h''.step, h''.fr, h''.col⟩, rfl, r3⟩
      | outgrown => exact hq.elim
theorem SWops.callE {C : Ctx} {P : Program} {ops : Array Oper} {rest : List Oper} {o : Oper} {st : St} {K : XE → St → Prop} {g : Operand} {xs : Array Operand} {ts : Array TypeId} {f : FuncId} {args caps : List DV} {Q : Out → List Ob → Prop}
    (hP : C.P = P) (hd : dstOk C.n [o] = true) (hok : OkE P f args st.ob Q) (hg : gd ops st.env o = some true) (ho : o.op = .call { callee := .value g, args := xs, argTypes := ts }) (hf : ev st.env g = .fn f caps)
    (ha : xs.toList.map (ev st.env) ++ caps = args) (hp : ∀ d σ', ¬ Q (.pan d) σ') (h : ∀ d σ', Q (.ret d) σ' → SWops C ops rest ⟨upo st.env o.dst d, σ'⟩ K) : SWops C ops (o :: rest) st K := by
  subst hP; subst ha
  replace hd : ∀ t, o.dst = some t → t < C.n := fun t ht => by
    simp only [dstOk, List.all_cons, ht, List.all_nil, Bool.and_true, decide_eq_true_eq] at hd
    exact hd
  rintro a w ⟨F, μ, hr⟩
  refine wpListIn_step fun K' hK => ?_
  rw [if_pos (gd_wanted hr hg)]
  have hv := rep_ev hr g
  rw [hf] at hv
  have hcap : ∃ vs : List Value, a.eval g = .func (.func f) #[] ⟨vs⟩ ∧ Reps w F μ st.ob caps vs := by
    generalize a.eval g = v at hv
    cases hv with
    | fn hl hh => exact ⟨_, rfl, hl, hh⟩
  obtain ⟨cvs, hge, hcr⟩ := hcap
  have hrun : (execOp a.eval o).run C.P w = .ok (.enter f ⟨xs.toList.map a.eval ++ cvs⟩) w := by
    unfold execOp
    rw [ho]
    dsimp only [resolve]
    rw [hge]
    have harr : (xs.map a.eval ++ (⟨cvs⟩ : Array Value)) = ⟨xs.toList.map a.eval ++ cvs⟩ := by
      apply Array.ext'
      simp
    simp only [Deferred.ofValue, Sem.run_bind, Sem.run_pure, Result.andThen_ok, invoke, Array.empty_append, harr]
    exact hok.enters _ w
  refine wpIn_of_wp (.inr fun c hc => by rw [ho] at hc; cases hc) ?_
  unfold Oper.wp
  rw [hrun, Oper.upon_enter]
  refine (hok.calls w F μ _ hr.hr ((reps_map hr xs.toList).append hcr)).mono fun e w' he => ?_
  obtain ⟨out, σ', hQ, F', μ', v, haf, hout⟩ := he
  cases out with
  | ret d =>
    obtain ⟨rfl, hrep⟩ := hout
    exact hK _ _ (h _ _ hQ _ _ ⟨F', μ', haf.hr, env_put (C := C) (st := st) hr.size (fun t => (hr.env t).step haf.step) o.dst hd hrep, hr.step.trans haf.step, hr.fr.trans haf.fr,
      fun c b hb => (haf.col c b hb).elim (hr.col c b) (fun q => .inr (Nat.le_trans hr.fr.size q)), by rw [put_size]; exact hr.size, by rw [put_defers]; exact hr.defers.step haf.step⟩)
  | pan d => exact (hp _ _ hQ).elim

/-! ### A range over a map goes on -/
theorem SWops.next {C : Ctx} {ops : Array Oper} {rest : List Oper} {o : Oper} {env : List (Nat × DV)} {ob : List Ob} {K : XE → St → Prop} {x : Operand} {id mid since c0 clock : Nat} {seen bs : List Nat} {ds es : List DV}
    (hd : dstOk C.n [o] = true) (hg : gd ops env o = some true) (ho : o.op = .next x false) (hx : ev env x = .it id) (hi : ob[id]? = some (.oth (.iter (some mid) since seen c0) es)) (hm : ob[mid]? = some (.oth (.map bs clock) ds))
    (hb : ∀ b ∈ bs, b < since) (hc : since ≤ c0) (hdd : C.dd = [])
    (h0 : (∀ (i b : Nat), bs[i]? = some b → b ∈ seen) → SWops C ops rest ⟨upo env o.dst (.tup [.bool false]), ob⟩ K)
    (h1 : ∀ (i b : Nat) (k v : DV), bs[i]? = some b → b ∉ seen → ds[2 * i]? = some k → ds[2 * i + 1]? = some v → SWops C ops rest ⟨upo env o.dst (.tup [.bool true, k, v]), ob.set id (.oth (.iter (some mid) since (seen ++ [b]) clock) [])⟩ K) : SWops C ops (o :: rest) ⟨env, ob⟩ K := by
  replace hd : ∀ t, o.dst = some t → t < C.n := fun t ht => by
    simp only [dstOk, List.all_cons, ht, List.all_nil, Bool.and_true, decide_eq_true_eq] at hd
    exact hd
  rintro a w ⟨F, μ, hr⟩
  refine wpListIn_step fun K' hK => ?_
  rw [if_pos (gd_wanted hr hg)]
  have hv := rep_ev hr x
  rw [hx] at hv
  obtain ⟨r, hmu, hev⟩ : ∃ r, μ id = some r ∧ a.eval x = .pointer (some ⟨r, 0, none⟩) := by
    generalize a.eval x = v at hv
    cases hv with
    | it h _ => exact ⟨_, h, rfl⟩
  obtain ⟨_, vs, ⟨rfl, r', mo, g1, g2, rfl, g4⟩, hes, _⟩ := hr.hr.obj _ _ hi
  have hes : es = [] := List.length_eq_zero_iff.1 hes
  subst hes
  rw [hmu] at g1
  cases g1
  obtain ⟨_, vs', ⟨rm, me, q1, q2, q3, rfl⟩, q4, q5⟩ := hr.hr.obj _ _ hm
  rw [q1] at g2
  have hborn : ∀ y ∈ me.toList, y.born < since := fun y hy => hb _ (by rw [← q3]; exact List.mem_map.2 ⟨y, hy, rfl⟩)
  have hrun := run_next_at (P := C.P) w o.type r rm since c0 seen.toArray me clock g2 q2 hborn hc
  have hop : ∀ {v w'}, (Instr.next (.pointer (some ⟨r, 0, none⟩)) false o.type).run C.P w = .ok v w' → (execOp a.eval o).run C.P w = .ok (.value v) w' := by
    intro v w' h
    unfold execOp
    rw [ho]
    simp only [hev, Sem.run_bind, h, Result.andThen_ok, Sem.run_pure]
  refine wpIn_of_wp (.inr fun c hc => by rw [ho] at hc; cases hc) ?_
  unfold Oper.wp
  rcases hrun with ⟨z0, hrun⟩ | ⟨e, he, w1, hw1, hrun⟩
  · rw [hop hrun]
    refine hK _ _ (h0 (fun i b hbi => ?_) _ _ ⟨F, μ, hr.hr, ?_, hr.step, hr.fr, hr.col, by rw [put_size]; exact hr.size, by rw [put_defers]; exact hr.defers⟩)
    · rw [← q3, List.getElem?_map] at hbi
      obtain ⟨y, hy, rfl⟩ := Option.map_eq_some_iff.1 hbi
      have hz := Array.eq_empty_of_size_eq_zero z0
      unfold _root_.Go.leftOf at hz
      rw [Array.filter_eq_empty_iff] at hz
      have := hz y (by have := List.mem_of_getElem? hy; simpa using this)
      simpa using this
    · refine env_put (C := C) (st := ⟨env, ob⟩) hr.size hr.env o.dst hd (.tup rfl fun i d v hd hv => ?_)
      rcases i with _ | i <;> simp at hd hv
      subst hd; subst hv; exact .bool
  · rw [hop hrun]
    have hin : e ∈ me.toList ∧ e.born ∉ seen := by
      unfold _root_.Go.leftOf at he
      simp only [Array.toList_filter, List.mem_filter] at he
      exact ⟨he.1, by simpa using he.2⟩
    obtain ⟨i, hie⟩ := List.getElem?_of_mem hin.1
    have hbi : bs[i]? = some e.born := by rw [← q3, List.getElem?_map, hie]; rfl
    have hfl := flatE_get me.toList i
    rw [hie] at hfl
    simp only [Option.map_some] at hfl
    have hlen : i < me.toList.length := (List.getElem?_eq_some_iff.1 hie).1
    have hdl : ds.length = 2 * me.toList.length := by rw [q4, flatE_length]
    have hk : ds[2 * i]? = some (ds[2 * i]'(by omega)) := List.getElem?_eq_getElem _
    have hvv : ds[2 * i + 1]? = some (ds[2 * i + 1]'(by omega)) := List.getElem?_eq_getElem _
    have rk := q5 _ _ _ hk hfl.1
    have rv := q5 _ _ _ hvv hfl.2
    have hhr1 : HR w1 F μ ob ∧ Step w F μ ob w1 F μ ob ∧ Fr w μ w1 μ := by
      rcases hw1 with rfl | rfl
      · exact ⟨hr.hr, Step.refl .., Fr.refl ..⟩
      · exact ⟨hr.hr.drew1, step_drew1, fr_drew1⟩
    obtain ⟨s1, s2, s3⟩ := hhr1
    have hsb : ChangeMaps.setBlock w1 r (.mapIter (some rm) since (seen.toArray.push e.born) clock) = wset w1 r (.mapIter (some rm) since (seen.toArray.push e.born) clock) := rfl
    have hmidid : mid ≠ id := fun e => by rw [e, hi] at hm; cases hm
    obtain ⟨p1, p2, p3⟩ := s1.turn (t' := .iter (some mid) since (seen ++ [e.born]) clock) (ds' := []) (.mapIter (some rm) since (seen.toArray.push e.born) clock) hi hmu rfl fun hst hbk => ⟨fun j hj => by
      simp only [OT.refs, List.mem_singleton] at hj
      subst hj
      exact ⟨_, _, by rw [List.getElem?_set, if_neg (fun e => hmidid e.symm)]; exact hm⟩, [], ⟨rfl, r, some rm, hmu, by (show (wset w1 r _).heap[r]? = _); rw [hbk]; simp, q1.symm, rfl⟩, rfl, fun i d v hd => by simp at hd⟩
    rw [hsb]
    refine hK _ _ (h1 i e.born _ _ hbi hin.2 hk hvv _ _ ⟨F, μ, p1, ?_, (hr.step.trans s2).trans p2, (hr.fr.trans s3).trans p3, hr.col, by rw [put_size]; exact hr.size, by rw [put_defers]; exact hr.defers.step (s2.trans p2)⟩)
    refine env_put (C := C) (st := ⟨env, ob.set id (.oth (.iter (some mid) since (seen ++ [e.born]) clock) [])⟩) hr.size (fun t => ((hr.env t).step s2).step p2) o.dst hd (.tup rfl fun j d v hd hv => ?_)
    rcases j with _ | _ | _ | j <;> simp at hd hv
    · subst hd; subst hv; exact .bool
    · subst hd; subst hv; exact (rk.step s2).step p2
    · subst hd; subst hv; exact (rv.step s2).step p2
end Go.VL
end
section
set_option linter.unusedSimpArgs false
set_option linter.unusedVariables false
namespace Go.VL
open Go

theorem SWops.eqNil {C : Ctx} {L : Lay} (hL : LayOk C.P L) {ops : Array Oper} {rest : List Oper} {o : Oper} {env : List (Nat × DV)} {ob : List Ob} {K : XE → St → Prop} {x y : Operand} {t t' c k : Nat} {xs : List DV}
    (hd : dstOk C.n [o] = true) (hg : gd ops env o = some true) (ho : o.op = .binOp .eql t x y t') (ht : ∃ ti e, L t = some ti ∧ ti.d = .slice e) (hx : ev env x = .vec c k xs) (hy : ev env y = .nils)
    (h : ∀ b, (0 < xs.length → b = false) → SWops C ops rest ⟨upo env o.dst (.bool b), ob⟩ K) : SWops C ops (o :: rest) ⟨env, ob⟩ K := by
  replace hd : ∀ t, o.dst = some t → t < C.n := fun t ht => by
    simp only [dstOk, List.all_cons, ht, List.all_nil, Bool.and_true, decide_eq_true_eq] at hd
    exact hd
  rintro a w ⟨F, μ, hr⟩
  refine wpListIn_step fun K' hK => ?_
  rw [if_pos (gd_wanted hr hg)]
  have hv := rep_ev hr x
  have hv2 := rep_ev hr y
  rw [hx] at hv
  rw [hy] at hv2
  obtain ⟨A, cap, hev, hA⟩ : ∃ A cap, a.eval x = .slice A xs.length cap ∧ (0 < xs.length → A.isNone = false) := by
    generalize a.eval x = v at hv
    cases hv with
    | vec u hc hm ha hk hr => exact ⟨_, _, rfl, fun h0 => by obtain ⟨a, rfl, _⟩ := ha h0; rfl⟩
  have hev2 : a.eval y = .slice none 0 0 := by
    generalize a.eval y = v at hv2
    cases hv2 with
    | nils => rfl
  obtain ⟨ti, e, ht, hte⟩ := ht
  obtain ⟨desc, hu, hds⟩ := (hL _ _ ht).und
  rw [hte] at hds
  cases hds
  have he : (Op.equal t (.slice A xs.length cap) (.slice none 0 0)).run C.P w = .ok A.isNone w := by
    have key : ∀ n, (Op.equalIn (n + 1) t (.slice A xs.length cap) (.slice none 0 0)).run C.P w = .ok A.isNone w := fun n => by
      simp only [Op.equalIn, Sem.run_bind, run_underlying hu, Result.andThen_ok]
      cases A <;> rfl
    exact key 9999
  have hgd : (eqGuard .eql t x y (.slice A xs.length cap) (.slice none 0 0)).run C.P w = .ok () w := rfl
  have hrun : (do eqGuard .eql t x y (a.eval x) (a.eval y); binOp .eql t (a.eval x) (a.eval y) : Sem Value).run C.P w = .ok (.bool A.isNone) w := by
    rw [hev, hev2, Sem.run_bind, hgd, Result.andThen_ok]
    simp [binOp, he]
  have hex : (execOp a.eval o).run C.P w = .ok (.value (.bool A.isNone)) w := by
    simp only [execOp, ho]
    rw [Sem.run_bind, hrun]
    rfl
  refine wpIn_of_wp (.inr fun c hc => by rw [ho] at hc; cases hc) ?_
  unfold Oper.wp
  rw [hex]
  exact hK _ _ (h A.isNone (fun h0 => hA h0) _ _ ⟨F, μ, hr.hr, env_put (C := C) (st := ⟨env, ob⟩) hr.size hr.env o.dst hd .bool, hr.step, hr.fr, hr.col, by rw [put_size]; exact hr.size, by rw [put_defers]; exact hr.defers⟩)

/-- A nil slice that lies in a variable becomes an object of one's own. -/
theorem Ghost.newNilIn (m i e ke : Nat) {C : Ctx} {env : List (Nat × DV)} {ob : List Ob} {t k : Nat} {cs : List DV} (ho : ob[m]? = some (.arr t k [.agg cs])) (hc : cs[i]? = some .nils) :
    Ghost C ⟨env, ob⟩ ⟨env, ob.set m (.arr t k [.agg (cs.set i (.sl ob.length 0 0 0))]) ++ [.arr e ke []]⟩ := by
  rintro a w ⟨F, μ, h⟩
  obtain ⟨h1, h2⟩ := h.hr.pushNil e ke
  have hml := (List.getElem?_eq_some_iff.1 ho).1
  have hil := (List.getElem?_eq_some_iff.1 hc).1
  have ho' : (ob ++ [Ob.arr e ke []])[m]? = some (.arr t k [.agg cs]) := by rw [List.getElem?_append_left hml]; exact ho
  obtain ⟨hk, hor⟩ := h1.obj _ _ ho'
  rcases hor with ⟨he, _⟩ | ⟨b, cur, fr, hb, hh, hfr, hcells⟩
  · cases he
  have hnew : ∀ v, Rep w F μ (ob ++ [.arr e ke []]) .nils v → Rep w F μ (ob ++ [.arr e ke []]) (.sl ob.length 0 0 0) v := by
    intro v hv
    cases hv
    exact .sl ⟨e, ke, [], by simp, by omega, by simp, by omega, by simp [maxLen], fun _ => .inl ⟨rfl, rfl, rfl, h.hr.out _ (Nat.le_refl _)⟩⟩
  have hkc := hk (.agg cs) (by simp)
  simp only [DV.cells] at hkc
  obtain ⟨p1, p2, p3⟩ := h1.write (ys := [.agg (cs.set i (.sl ob.length 0 0 0))]) (cur' := cur) ho' hb hh hfr rfl (Nat.le_refl _) (fun y hy => by
    rw [List.mem_singleton.1 hy]
    simpa [DV.cells] using hkc) (fun j q y d hy hd => by
    match j, hy with
    | 0, hy =>
      simp only [List.getElem?_cons_zero, Option.some.injEq] at hy
      subst hy
      simp only [DV.cells] at hd
      rw [List.getElem?_set] at hd
      split at hd
      · rename_i e1
        subst e1
        cases hd
        obtain ⟨v, g1, g2⟩ := hcells 0 i (.agg cs) .nils rfl hc
        exact ⟨v, g1, hnew v g2⟩
      · exact hcells 0 q (.agg cs) d rfl hd
    | j + 1, hy => simp at hy)
  rw [wset_same hh, List.set_append_left _ _ hml] at p1 p2
  exact ⟨F, μ, p1, fun t => ((h.env t).step h2).step p2, (h.step.trans h2).trans p2, h.fr, h.col, h.size, (h.defers.step h2).step p2⟩
end Go.VL
end
section
set_option linter.unusedSimpArgs false
set_option linter.unusedVariables false
namespace Go.VL
open Go

/-- One's own list, the n-th object, given up: a value that nobody writes. -/
theorem Ghost.giveAt (c s n : Nat) {C : Ctx} {env : List (Nat × DV)} {σ X : List Ob} {t k : Nat} {xs : List DV} (l : List (Nat × DV)) (hσ : C.σ0 = σ) (hf : Fixed σ) (hX : X[n]? = some (.arr t k xs)) (hl : agree env ((s, .sl (σ.length + n) xs.length 0 xs.length) :: l)) (he : envNoId (σ.length + n) l)
    (ho : obsNoId (σ.length + n) X) (hx : ∀ x ∈ xs, NoId (σ.length + n) x) (hdd : C.dd = [] := by assumption) : Ghost C ⟨env, σ ++ X⟩ ⟨(s, .vec c k xs) :: l, σ ++ X.set n .dead⟩ := by
  refine Ghost.trans (Ghost.weak (Weak.of_agree rfl hl)) ?_
  have hg : (σ ++ X)[σ.length + n]? = some (.arr t k xs) := by rw [List.getElem?_append_right (by omega), show σ.length + n - σ.length = n by omega]; exact hX
  refine Ghost.trans (Ghost.kill (id := σ.length + n) (t := t) (k := k) (xs := xs) c hg (by rw [hσ]; omega) hx (by rw [hdd]; trivial)) ?_
  have e1 : fzE (σ.length + n) xs.length (asVec c k xs) ((s, .sl (σ.length + n) xs.length 0 xs.length) :: l) = (s, .vec c k xs) :: l := by
    have := envNoId_fz he xs.length (asVec c k xs)
    unfold fzE at this ⊢
    rw [List.map_cons, this]
    simp [fz, asVec]
  have e2 : (σ ++ X).map (fzOb (σ.length + n) xs.length (asVec c k xs)) = σ ++ X := obs_fix (fun N r => hf _ (by omega) N r) ho _ _
  rw [e1, e2, List.set_append_right _ _ (by omega), show σ.length + n - σ.length = n by omega]
  exact Ghost.refl _ _
theorem obNoId_fix {id : Nat} {o : Ob} (h : ObNoId id o) (N : Nat) (r : Nat → Nat → DV) : fzOb id N r o = o := by
  have := obs_fix (σ := []) (fun _ _ => rfl) (own := [o]) ⟨h, trivial⟩ N r
  simpa using this
theorem obsNoId_get {id : Nat} : ∀ {X : List Ob} {j : Nat} {o : Ob}, obsNoId id X → X[j]? = some o → ObNoId id o
  | [], _, _, _, h => by cases h
  | x :: r, 0, o, h, e => by cases e; exact h.1
  | x :: r, j + 1, o, h, e => obsNoId_get h.2 e
/-- One's own list that a variable refers to, given up. -/
theorem Ghost.giveIn (c m i n : Nat) {C : Ctx} {env : List (Nat × DV)} {σ X : List Ob} {t k t' k' : Nat} {xs cs : List DV} (l : List (Nat × DV)) (hσ : C.σ0 = σ) (hf : Fixed σ) (hX : X[n]? = some (.arr t k xs)) (hm : X[m]? = some (.arr t' k' [.agg cs])) (hi : cs[i]? = some (.sl (σ.length + n) xs.length 0 xs.length))
    (hl : agree env l) (he : envNoId (σ.length + n) l) (ho : obsNoId (σ.length + n) (X.set m .dead)) (hc : ∀ x ∈ cs.set i .undef, NoId (σ.length + n) x) (hx : ∀ x ∈ xs, NoId (σ.length + n) x) (hdd : C.dd = [] := by assumption) :
    Ghost C ⟨env, σ ++ X⟩ ⟨l, σ ++ (X.set m (.arr t' k' [.agg (cs.set i (.vec c k xs))])).set n .dead⟩ := by
  refine Ghost.trans (Ghost.weak (Weak.of_agree rfl hl)) ?_
  have hg : (σ ++ X)[σ.length + n]? = some (.arr t k xs) := by rw [List.getElem?_append_right (by omega), show σ.length + n - σ.length = n by omega]; exact hX
  refine Ghost.trans (Ghost.kill (id := σ.length + n) (t := t) (k := k) (xs := xs) c hg (by rw [hσ]; omega) hx (by rw [hdd]; trivial)) ?_
  have hml := (List.getElem?_eq_some_iff.1 hm).1
  have hil := (List.getElem?_eq_some_iff.1 hi).1
  have e1 : fzE (σ.length + n) xs.length (asVec c k xs) l = l := envNoId_fz he _ _
  have e3 : cs.map (fz (σ.length + n) xs.length (asVec c k xs)) = cs.set i (.vec c k xs) := by
    apply List.ext_getElem?
    intro j
    rw [List.getElem?_map, List.getElem?_set]
    by_cases hj : i = j
    · subst hj
      rw [if_pos rfl, if_pos hil, hi]
      simp [fz, asVec]
    · rw [if_neg hj]
      cases hcj : cs[j]? with
      | none => rfl
      | some x =>
        have : (cs.set i .undef)[j]? = some x := by rw [List.getElem?_set, if_neg hj]; exact hcj
        simp only [Option.map_some]
        rw [hc x (List.mem_of_getElem? this)]
  have e2 : (σ ++ X).map (fzOb (σ.length + n) xs.length (asVec c k xs)) = σ ++ X.set m (.arr t' k' [.agg (cs.set i (.vec c k xs))]) := by
    rw [List.map_append, hf _ (by omega)]
    congr 1
    apply List.ext_getElem?
    intro j
    rw [List.getElem?_map, List.getElem?_set]
    by_cases hj : m = j
    · subst hj
      rw [if_pos rfl, if_pos hml, hm]
      simp only [Option.map_some, fzOb, fzL_map, List.map_cons, List.map_nil, fz, e3]
    · rw [if_neg hj]
      cases hcj : X[j]? with
      | none => rfl
      | some o =>
        have : (X.set m .dead)[j]? = some o := by rw [List.getElem?_set, if_neg hj]; exact hcj
        simp only [Option.map_some]
        rw [obNoId_fix (obsNoId_get ho this)]
  rw [e1, e2, List.set_append_right _ _ (by omega), show σ.length + n - σ.length = n by omega]
  exact Ghost.refl _ _
end Go.VL
end
section
set_option linter.unusedSimpArgs false
set_option linter.unusedVariables false
namespace Go.VL
open Go

theorem SWops.entry {C : Ctx} {ops : Array Oper} {rest : List Oper} {o : Oper} {env : List (Nat × DV)} {ob : List Ob} {K : XE → St → Prop} {x : Operand} {id mid since clock i b : Nat} {seen bs : List Nat} {ds es : List DV} {k v : DV}
    (hd : dstOk C.n [o] = true) (hg : gd ops env o = some true) (ho : o.op = .entry x) (hx : ev env x = .it id) (hi : ob[id]? = some (.oth (.iter (some mid) since (seen ++ [b]) clock) es)) (hm : ob[mid]? = some (.oth (.map bs clock) ds))
    (hn : bs.Nodup) (hb : bs[i]? = some b) (hk : ds[2 * i]? = some k) (hv : ds[2 * i + 1]? = some v)
    (h : SWops C ops rest ⟨upo env o.dst (.tup [k, v]), ob⟩ K) : SWops C ops (o :: rest) ⟨env, ob⟩ K := by
  replace hd : ∀ t, o.dst = some t → t < C.n := fun t ht => by
    simp only [dstOk, List.all_cons, ht, List.all_nil, Bool.and_true, decide_eq_true_eq] at hd
    exact hd
  rintro a w ⟨F, μ, hr⟩
  refine wpListIn_step fun K' hK => ?_
  rw [if_pos (gd_wanted hr hg)]
  have hvx := rep_ev hr x
  rw [hx] at hvx
  obtain ⟨r, hmu, hev⟩ : ∃ r, μ id = some r ∧ a.eval x = .pointer (some ⟨r, 0, none⟩) := by
    generalize a.eval x = v at hvx
    cases hvx with
    | it h _ => exact ⟨_, h, rfl⟩
  obtain ⟨_, vs, ⟨rfl, r', mo, g1, g2, rfl, g4⟩, hes, _⟩ := hr.hr.obj _ _ hi
  rw [hmu] at g1
  cases g1
  obtain ⟨_, vs', ⟨rm, me, q1, q2, q3, rfl⟩, q4, q5⟩ := hr.hr.obj _ _ hm
  rw [q1] at g2
  have hie : ∃ e, me.toList[i]? = some e ∧ e.born = b := by
    rw [← q3, List.getElem?_map] at hb
    obtain ⟨e, he, rfl⟩ := Option.map_eq_some_iff.1 hb
    exact ⟨e, he, rfl⟩
  obtain ⟨e, hie, rfl⟩ := hie
  have hfl := flatE_get me.toList i
  rw [hie] at hfl
  simp only [Option.map_some] at hfl
  have rk := q5 _ _ _ hk hfl.1
  have rv := q5 _ _ _ hv hfl.2
  have hg2 : w.heap[r]? = some (.mapIter (some rm) since (seen.toArray.push e.born) clock) := by
    have : (seen ++ [e.born]).toArray = seen.toArray.push e.born := by simp
    rw [← this]
    exact g2
  have hrun := run_entry_at (P := C.P) w r rm since seen.toArray me clock e hg2 q2 (List.mem_of_getElem? hie) (by rw [q3]; exact hn)
  have hop : (execOp a.eval o).run C.P w = .ok (.value (.tuple #[e.key, e.val])) w := by
    unfold execOp
    rw [ho]
    simp only [hev, Sem.run_bind, hrun, Result.andThen_ok, Sem.run_pure]
  refine wpIn_of_wp (.inr fun c hc => by rw [ho] at hc; cases hc) ?_
  unfold Oper.wp
  rw [hop]
  refine hK _ _ (h _ _ ⟨F, μ, hr.hr, ?_, hr.step, hr.fr, hr.col, by rw [put_size]; exact hr.size, by rw [put_defers]; exact hr.defers⟩)
  refine env_put (C := C) (st := ⟨env, ob⟩) hr.size hr.env o.dst hd (.tup rfl fun j d v hd hv => ?_)
  rcases j with _ | _ | j <;> simp at hd hv
  · subst hd; subst hv; exact rk
  · subst hd; subst hv; exact rv
/-- A call that does not look at what is undefined. -/
theorem Ok.less {P : Program} {f : FuncId} {args args' : List DV} {σ σ' : List Ob} {o : Out} (h : Ok P f args σ o σ') (hl : args.length = args'.length) (ha : ∀ (w : World) (F : Nat → Nat → Prop) (μ : Nat → Option Nat) (i : Nat) (d d' : DV) (v : Value), args[i]? = some d → args'[i]? = some d' → Rep w F μ σ d' v → Rep w F μ σ d v) : Ok P f args' σ o σ' :=
  ⟨h.enters, fun w F μ vs hr hv => h.calls w F μ vs hr ⟨hl.trans hv.1, fun i d v hd hv' => by
    have hi := (List.getElem?_eq_some_iff.1 hd).1
    exact ha w F μ i d _ v hd (List.getElem?_eq_getElem (by omega)) (hv.2 i _ v (List.getElem?_eq_getElem (by omega)) hv')⟩⟩
def unseen (seen : List Nat) : List Nat → Nat
  | [] => 0
  | x :: r => (if x ∈ seen then 0 else 1) + unseen seen r
theorem unseen_le (seen : List Nat) (b : Nat) : ∀ (l : List Nat), unseen (seen ++ [b]) l ≤ unseen seen l
  | [] => Nat.le_refl _
  | x :: r => by
    have ih := unseen_le seen b r
    unfold unseen
    by_cases h1 : x ∈ seen
    · rw [if_pos h1, if_pos (List.mem_append_left _ h1)]; omega
    · rw [if_neg h1]
      split <;> omega
theorem unseen_lt (seen : List Nat) (b : Nat) (hb : b ∉ seen) : ∀ (l : List Nat), b ∈ l → unseen (seen ++ [b]) l < unseen seen l
  | [], h => nomatch h
  | x :: r, h => by
    unfold unseen
    by_cases hx : x = b
    · subst hx
      have := unseen_le seen x r
      rw [if_neg hb, if_pos (List.mem_append_right _ (List.mem_singleton.2 rfl))]
      omega
    · have hr : b ∈ r := by
        rcases List.mem_cons.1 h with e | e
        · exact absurd e.symm hx
        · exact e
      have ih := unseen_lt seen b hb r hr
      by_cases h1 : x ∈ seen
      · rw [if_pos h1, if_pos (List.mem_append_left _ h1)]; omega
      · rw [if_neg h1, if_neg (fun e => by
          rcases List.mem_append.1 e with e | e
          · exact h1 e
          · exact hx (List.mem_singleton.1 e))]
        omega
end Go.VL
end
section
set_option linter.unusedSimpArgs false
set_option linter.unusedVariables false
set_option maxRecDepth 10000
namespace Go.VL
open Go Go.Proofs Go.Shelf

/-- Sorted as the library's pdqsort lays them. -/
noncomputable def sortF (cf : DV → DV → Int) (ds : List DV) : List DV :=
  if h : 0 < ds.length then
    letI : Inhabited (_root_.Fin ds.length) := ⟨⟨0, h⟩⟩
    (Sort.pdq (ltOf fun i j : _root_.Fin ds.length => cf ds[i] ds[j]) (Array.ofFn fun i => i) 0 ds.length (Lib.bitLen ds.length) true true).toList.map fun i => ds[i]
  else []
section
variable {P : Program} {ρ : Ren}
theorem Ok.sort (L : SlLaysF0.n6 P ρ) (he : ∀ vs w, (callFunc (ρ.f 6) vs).run P w = .ok (.enter (ρ.f 6) vs) w) (k : Nat) (hk0 : 0 < k) (aE : ∀ w, (isAgg (ρ.t 24)).run P w = .ok true w) (zE : ∀ w, (Go.sizeOf (ρ.t 24)).run P w = .ok k w)
    {g : FuncId} {cf : DV → DV → Int} {ds : List DV} (hO : ∀ (h : 0 < ds.length), Sort.SWO (ltOf fun i j : _root_.Fin ds.length => cf ds[i] ds[j]))
    (hg : ∀ x ∈ ds, ∀ y ∈ ds, Ok P g [x, y] [] (.ret (.int .i64 (cf x y))) []) (hds : ∀ x ∈ ds, ∃ cs : List DV, x = .agg cs ∧ cs.length = k ∧ ∀ d ∈ cs, Low 0 d ∧ d.one = true)
    {m t : Nat} {σ : List Ob} (hm : σ[m]? = some (.arr t k ds)) (hn : 0 < ds.length) (hsz : ds.length < 4611686018427387904) :
    Ok P (ρ.f 6) [.sl m ds.length 0 ds.length, .fn g []] σ (.ret (.tup [])) (σ.set m (.arr t k (sortF cf ds))) := by
  refine ⟨he, fun w F μ vs hr hv => ?_⟩
  obtain ⟨hl, hv⟩ := hv
  obtain ⟨v1, v2, rfl⟩ : ∃ v1 v2, vs = [v1, v2] := by
    match vs, hl with
    | [a, b], _ => exact ⟨a, b, rfl⟩
  have r1 := hv 0 _ v1 rfl rfl
  have r2 := hv 1 _ v2 rfl rfl
  have hob := hr.obj m _ hm
  obtain ⟨hcl, hob⟩ := hob
  rcases hob with ⟨h0, _⟩ | ⟨b, cur, fr, hb, hheap, hfr, hcur⟩
  · rw [h0] at hn; exact absurd hn (Nat.lt_irrefl 0)
  -- the slice
  obtain ⟨cap, rfl, hcap⟩ : ∃ cap, v1 = .slice (some ⟨b, 0, none⟩) ds.length cap ∧ ds.length * k ≤ cur.size := by
    cases r1 with
    | @sl _ _ _ _ A cap h =>
      obtain ⟨t', k', xs, ho, q1, q2, q3, q4, q5⟩ := h
      rw [hm] at ho
      cases ho
      rcases q5 rfl with ⟨e, _⟩ | ⟨b', cur', fr', f1, f2, f3, f4, f5⟩
      · omega
      · rw [hb] at f1
        cases f1
        rw [hheap] at f2
        cases f2
        have := f5 (.inl hn)
        rw [Nat.zero_mul] at this
        refine ⟨cap, by rw [this], Nat.le_trans (Nat.mul_le_mul_right _ q3) ?_⟩
        rw [Nat.zero_add] at f3
        exact f3
  obtain rfl : v2 = .func (.func g) #[] #[] := by
    cases r2 with
    | @fn _ caps vs hl' h =>
      cases vs with
      | nil => rfl
      | cons => cases hl'
  letI : Inhabited (_root_.Fin ds.length) := ⟨⟨0, hn⟩⟩
  obtain ⟨enc, henc⟩ : ∃ enc : _root_.Fin ds.length → List Value, enc = fun j => (List.range k).map fun i => (cur[j.val * k + i]?).getD Go.undef := ⟨_, rfl⟩
  have hlen : ∀ x, (enc x).length = k := fun x => by rw [henc]; simp
  have hlt : ∀ (j : _root_.Fin ds.length) i, i < k → j.val * k + i < cur.size := fun j i hi => by
    have := Nat.mul_le_mul_right k j.isLt
    rw [Nat.succ_mul] at this
    omega
  have eget : ∀ (j : _root_.Fin ds.length) i, i < k → (enc j)[i]? = cur[j.val * k + i]? := fun j i hi => by
    rw [henc]
    simp only [List.getElem?_map, List.getElem?_range hi, Option.map_some]
    rw [Array.getElem?_eq_getElem (hlt j i hi)]
    rfl
  have eget! : ∀ (j : _root_.Fin ds.length) i, i < k → cur[j.val * k + i]? = some (enc j)[i]! := fun j i hi => by
    rw [← eget j i hi, List.getElem!_eq_getElem?_getD, List.getElem?_eq_getElem (by rw [hlen]; exact hi)]
    rfl
  -- each cell of an element stands for something
  have ecell : ∀ (j : _root_.Fin ds.length) i, i < k → ∃ cs d v, ds[j] = .agg cs ∧ cs.length = k ∧ cs[i]? = some d ∧ (enc j)[i]? = some v ∧ Rep w F μ σ d v ∧ Low 0 d ∧ d.one = true := by
    intro j i hi
    obtain ⟨cs, e1, e2, e3⟩ := hds ds[j] (List.getElem_mem _)
    have hci : cs[i]? = some (cs[i]'(by omega)) := List.getElem?_eq_getElem _
    obtain ⟨v, f1, f2⟩ := hcur j.val i (.agg cs) _ (by rw [← e1]; exact List.getElem?_eq_getElem j.isLt) hci
    obtain ⟨g1, g2⟩ := e3 _ (List.getElem_mem (by omega : i < cs.length))
    exact ⟨cs, _, v, e1, e2, hci, by rw [eget j i hi]; exact f1, f2, g1, g2⟩
  obtain ⟨cf', hcf'⟩ : ∃ cf' : _root_.Fin ds.length → _root_.Fin ds.length → Int, cf' = fun i j => cf ds[i] ds[j] := ⟨_, rfl⟩
  have h1 : ∀ x, ∀ v ∈ enc x, v.oneCell' = true := by
    intro x v hv
    obtain ⟨i, hi⟩ := List.getElem?_of_mem hv
    have hik : i < k := by
      have := (List.getElem?_eq_some_iff.1 hi).1
      rwa [hlen] at this
    obtain ⟨cs, d, u, _, _, _, g1, g2, _, g3⟩ := ecell x i hik
    rw [hi] at g1
    cases g1
    exact (rep_one g2 g3).2
  obtain ⟨d0, hd0⟩ : ∃ d0 : Array (_root_.Fin ds.length), d0 = Array.ofFn fun i => i := ⟨_, rfl⟩
  have hs0 : d0.size = ds.length := by rw [hd0]; simp
  have hsf0 : sortF cf ds = (Sort.pdq (ltOf cf') d0 0 d0.size (Lib.bitLen d0.size) true true).toList.map fun i => ds[i] := by
    subst hcf'; subst hd0
    unfold sortF
    rw [dif_pos hn]
    simp only [Array.size_ofFn]
  have hH : Sort.HoldsK enc k w b 0 d0 := by
    intro q hq
    rw [Sort.size_flatK, hs0] at hq
    have hqk : q / k < ds.length := Nat.div_lt_of_lt_mul (by rw [Nat.mul_comm]; exact hq)
    have hqc : q < cur.size := by omega
    rw [Sort.get_flatK _ _ _ _ (by rw [hs0]; exact hq)]
    have e0 : d0[q / k]! = ⟨q / k, hqk⟩ := by
      rw [getElem!_pos d0 (q / k) (by rw [hs0]; exact hqk)]
      simp [hd0]
    have e1 := eget! ⟨q / k, hqk⟩ (q % k) (Nat.mod_lt _ hk0)
    rw [show (⟨q / k, hqk⟩ : _root_.Fin ds.length).val * k + q % k = q from Nat.div_add_mod' q k] at e1
    rw [e0, Nat.zero_add]
    refine ⟨?_, ?_⟩
    · simp only [World.cell?, hheap, id]
      exact e1
    · simp only [World.frozen?, hheap]
      exact hfr.get q hqc
  have hbw := hr.lt m b hb
  have wheap : ∀ (q : Nat) (dk : Array (_root_.Fin ds.length)) (os : Array Obj) (b' : Nat), b' < w.heap.size → b' ≠ b → (sortWorldK enc k w b 0 q dk os).heap[b']? = w.heap[b']? := by
    intro q dk os b' hb' hne
    simp only [sortWorldK, Sort.grow, Sort.putRowK, Sort.putRow, Sort.mapBlock, Sort.ahead]
    rw [Array.getElem?_append_left (by simpa using hb'), Array.getElem?_modify, if_neg (fun e => hne e.symm)]
  have wsize : ∀ (q : Nat) (dk : Array (_root_.Fin ds.length)) (os : Array Obj), w.heap.size ≤ (sortWorldK enc k w b 0 q dk os).heap.size := by
    intro q dk os
    simp only [sortWorldK, Sort.grow, Sort.putRowK, Sort.putRow, Sort.mapBlock, Sort.ahead, Array.size_append, Array.size_modify]
    omega
  have hcmp : CmpLays P g #[] enc k cf' b 0 d0.size w := by
    intro q os dk hdk x y
    obtain ⟨W1, hW1⟩ : ∃ W1, W1 = sortWorldK enc k w b 0 q dk os := ⟨_, rfl⟩
    have hFw : ∀ c b', F c b' → W1.heap[b']? = w.heap[b']? := fun c b' h => by
      rw [hW1]
      exact wheap q dk os b' (hr.col c b' h).1 (fun e => (hr.col c b' h).2 m (e ▸ hb))
    have hsw : w.heap.size ≤ W1.heap.size := by rw [hW1]; exact wsize q dk os
    rw [← hW1]
    have hst : Step w F (fun _ => none) [] W1 F (fun _ => none) [] := ⟨hFw, fun _ _ h => h, fun _ _ h => (nomatch h), fun _ _ _ _ _ h => (nomatch h), fun _ _ _ h => (nomatch h)⟩
    have hrep : ∀ x : _root_.Fin ds.length, Rep W1 F (fun _ => none) [] ds[x] (.agg (enc x).toArray) := by
      intro x
      obtain ⟨cs, e1, e2, e3⟩ := hds ds[x] (List.getElem_mem _)
      rw [e1]
      refine Rep.agg (by rw [hlen, e2]) fun i d v hd hv => ?_
      have hik : i < k := by
        have := (List.getElem?_eq_some_iff.1 hd).1
        omega
      obtain ⟨cs', d', v', g0, _, g1, g2, g3, g4, _⟩ := ecell x i hik
      rw [e1] at g0
      cases g0
      rw [hd] at g1
      cases g1
      rw [hv] at g2
      cases g2
      exact (Rep.low0 (μ' := fun _ => none) (σ' := []) g3 g4).step hst
    have hr1 : HR W1 F (fun _ => none) [] := ⟨fun _ _ h => (nomatch h), fun _ _ => rfl, fun _ _ _ h => (nomatch h), fun _ _ h => (nomatch h), fun c b' h => ⟨Nat.lt_of_lt_of_le (hr.col c b' h).1 hsw, fun _ e => (nomatch e)⟩⟩
    refine ((hg ds[x] (List.getElem_mem _) ds[y] (List.getElem_mem _)).calls W1 F (fun _ => none) [.agg (enc x).toArray, .agg (enc y).toArray] hr1 ⟨rfl, fun i d v hd hv => ?_⟩).mono ?_
    · match i, hd, hv with
      | 0, hd, hv => cases hd; cases hv; exact hrep x
      | 1, hd, hv => cases hd; cases hv; exact hrep y
      | i + 2, hd, _ => simp at hd
    · rintro e w' ⟨F', μ', v, haf, rfl, hv⟩
      cases hv
      refine ⟨by rw [hcf'], w'.drawn - W1.drawn, w'.heap.extract W1.heap.size w'.heap.size, ?_⟩
      have hh : w'.heap = W1.heap ++ w'.heap.extract W1.heap.size w'.heap.size := by
        apply Array.ext_getElem?
        intro i
        rcases Nat.lt_or_ge i W1.heap.size with h | h
        · rw [Array.getElem?_append_left h]
          exact haf.fr.keep i h fun _ e => by cases e
        · rw [Array.getElem?_append_right h, Array.getElem?_extract]
          have := haf.fr.size
          by_cases h' : i < w'.heap.size
          · rw [if_pos (by omega), show W1.heap.size + (i - W1.heap.size) = i by omega]
          · rw [if_neg (by omega), Array.getElem?_eq_none (by omega)]
      have hd := haf.fr.drawn
      have e1 := haf.fr.os
      have e2 := haf.fr.tape
      have e3 := haf.fr.output
      unfold Sort.grow World.drewN
      cases w' with
      | mk heap tape drawn os' output =>
        simp only at hh hd e1 e2 e3 ⊢
        rw [← hh, ← e1, ← e2, ← e3]
        congr 1
        omega
  have hO' : Sort.SWO (ltOf cf') := by rw [hcf']; exact hO hn
  have eg := (hg ds[0] (List.getElem_mem _) ds[0] (List.getElem_mem _)).enters
  have hcon := AnyQ.slices_SortFunc_eq L k aE zE enc hlen h1 cf' hO' g #[] b 0 cap d0 w eg hcmp hH hbw (by rw [hs0]; exact hsz)
  have hps := (Sort.pdq_sorts (ltOf cf') hO' d0 0 d0.size (Lib.bitLen d0.size) true true (Nat.zero_le _) (Nat.le_refl _) (Or.inl rfl)).1.1
  obtain ⟨D, hD⟩ : ∃ D, D = Sort.pdq (ltOf cf') d0 0 d0.size (Lib.bitLen d0.size) true true := ⟨_, rfl⟩
  rw [← hD] at hcon hps
  have hsf := hsf0
  rw [← hD] at hsf
  rw [hs0] at hcon
  have hDl : D.toList.length = ds.length := by rw [Array.length_toList]; exact hps.trans hs0
  refine hcon.mono ?_
  rintro e w2 ⟨rfl, n, os, rfl⟩
  obtain ⟨cur', hcur'⟩ : ∃ cur', cur' = Sort.putCells id 0 (Sort.flatK enc k D) cur := ⟨_, rfl⟩
  have hc's : cur'.size = cur.size := by rw [hcur']; simp [Sort.putCells]
  obtain ⟨w1, hw1⟩ : ∃ w1 : World, w1 = { w with drawn := w.drawn + n } := ⟨_, rfl⟩
  have hr1 : HR w1 F μ σ := by rw [hw1]; exact hr.drew _
  have st1 : Step w F μ σ w1 F μ σ := by rw [hw1]; exact step_drew _ _ _ _ _
  have fr1 : Fr w μ w1 μ := by rw [hw1]; exact ⟨rfl, rfl, rfl, Nat.le_refl _, fun _ _ _ => rfl, fun _ _ h => .inl h, Nat.le_add_right _ _⟩
  have hh1 : w1.heap[b]? = some (.cells cur t fr) := by rw [hw1]; exact hheap
  have hwr := hr1.write (ys := sortF cf ds) (cur' := cur') (fr2 := fr) hm hb hh1 hfr hc's (Nat.le_of_eq ((congrArg List.length hsf).trans ((List.length_map _).trans hDl)).symm)
    (fun y hy => by
      rw [hsf] at hy
      obtain ⟨p, _, rfl⟩ := List.mem_map.1 hy
      exact hcl _ (List.getElem_mem _))
    (fun j i y d hy hd => by
      rw [hsf, List.getElem?_map] at hy
      obtain ⟨p, hp, rfl⟩ := Option.map_eq_some_iff.1 hy
      rw [Array.getElem?_toList] at hp
      have hj : j < D.size := (Array.getElem?_eq_some_iff.1 hp).1
      have hik : i < k := by
        have := (List.getElem?_eq_some_iff.1 hd).1
        have hcp := hcl ds[p] (List.getElem_mem _)
        omega
      obtain ⟨v, f1, f2⟩ := hcur p.val i ds[p] d (List.getElem?_eq_getElem p.isLt) hd
      refine ⟨v, ?_, f2.step st1⟩
      have hjN : j < ds.length := by omega
      have hq : j * k + i < ds.length * k := by
        have := Nat.mul_le_mul_right k (show j + 1 ≤ ds.length from hjN)
        rw [Nat.add_mul, Nat.one_mul] at this
        omega
      have hqs : j * k + i < (Sort.flatK enc k D).size := by rw [Sort.size_flatK, hps, hs0]; exact hq
      have q1 : (j * k + i) / k = j := by rw [Nat.mul_comm, Nat.mul_add_div hk0, Nat.div_eq_of_lt hik, Nat.add_zero]
      have q2 : (j * k + i) % k = i := by rw [Nat.mul_comm, Nat.mul_add_mod, Nat.mod_eq_of_lt hik]
      have hDj : D[j]! = p := by
        rw [getElem!_pos D j hj]
        exact (Array.getElem?_eq_some_iff.1 hp).2
      rw [hcur']
      unfold Sort.putCells
      rw [Array.getElem?_mapIdx, Array.getElem?_eq_getElem (by omega : j * k + i < cur.size), Option.map_some, if_pos ⟨Nat.zero_le _, by omega⟩, Nat.sub_zero]
      rw [Sort.get_flatK _ _ _ _ (by rw [hps, hs0]; exact hq), q1, q2, hDj]
      have := eget! p i hik
      rw [f1] at this
      exact this.symm)
  obtain ⟨hr2, st2, fr2⟩ := hwr
  have hput : Sort.putRowK enc k (Sort.ahead w n) b 0 D = wset w1 b (.cells cur' t fr) := by
    rw [hw1]
    unfold Sort.putRowK Sort.putRow Sort.mapBlock Sort.ahead wset
    congr 1
    apply Array.ext_getElem?
    intro i
    rw [Array.getElem?_modify, Array.getElem?_setIfInBounds]
    by_cases hi : b = i
    · subst hi
      rw [if_pos rfl, if_pos rfl, if_pos hbw, hheap]
      simp only [Option.map_some, Sort.onCells, hcur']
    · rw [if_neg hi, if_neg hi]
  have hks := hr2.keepAll (w' := sortWorldK enc k w b 0 n D os) (F' := F) (fun b' hb' => by
      unfold sortWorldK
      rw [hput]
      unfold Sort.grow
      rw [Array.getElem?_append_left hb']) (fun _ _ h => h) (fun _ _ h => .inl h) (by
      unfold sortWorldK
      rw [hput]
      unfold Sort.grow
      rw [Array.size_append]
      omega)
  obtain ⟨hr3, st3⟩ := hks
  have fr3 : Fr (wset w1 b (.cells cur' t fr)) μ (sortWorldK enc k w b 0 n D os) μ := by
    unfold sortWorldK
    rw [hput]
    unfold Sort.grow
    refine ⟨rfl, rfl, rfl, by rw [Array.size_append]; omega, fun b' hb' _ => ?_, fun _ _ h => .inl h, Nat.le_refl _⟩
    rw [Array.getElem?_append_left hb']
  exact ⟨F, μ, .tuple #[], ⟨hr3, (st1.trans st2).trans st3, (fr1.trans fr2).trans fr3, fun _ _ h => .inl h⟩, rfl, Rep.tup rfl (fun i d v h => by simp at h)⟩
end
end Go.VL
end
section
namespace Go.Proofs
open Go.Shelf
def Tryz.sortItem_ren : Go.Shelf.Ren := ⟨fun | 6 => 41 | 15 => 56 | 14 => 60 | 28 => 75 | 29 => 76 | 20 => 79 | 21 => 80 | 22 => 81 | 23 => 82 | 24 => 83 | 25 => 84 | 26 => 85 | 27 => 86 | 46 => 109 | 47 => 97 | 48 => 98 | 49 => 110 | 50 => 111 | 57 => 119 | n => n, fun | 22 => 22 | 24 => 27 | 25 => 97 | 3 => 3 | 39 => 77 | 0 => 0 | 53 => 130 | 55 => 25 | 4 => 4 | 46 => 123 | 45 => 122 | 50 => 127 | 5 => 5 | 9 => 9 | 66 => 144 | 70 => 148 | 76 => 160 | 77 => 161 | n => n, fun | n => n⟩
theorem Tryz.sortItem : Go.Proofs.SlLaysF0.n6 Tryz.prog Tryz.sortItem_ren := {
  mixed := by kernel_rfl
  f6 := ⟨Tryz.f41.name, by decide, Tryz.func41.trans (congrArg some (by kernel_rfl))⟩
  f14 := ⟨Tryz.f60.name, by decide, Tryz.func60.trans (congrArg some (by kernel_rfl))⟩
  f15 := Tryz.func56.trans (congrArg some (by kernel_rfl))
  f20 := ⟨Tryz.f79.name, by decide, Tryz.func79.trans (congrArg some (by kernel_rfl))⟩
  f21 := ⟨Tryz.f80.name, by decide, Tryz.func80.trans (congrArg some (by kernel_rfl))⟩
  f22 := ⟨Tryz.f81.name, by decide, Tryz.func81.trans (congrArg some (by kernel_rfl))⟩
  f23 := ⟨Tryz.f82.name, by decide, Tryz.func82.trans (congrArg some (by kernel_rfl))⟩
  f24 := ⟨Tryz.f83.name, by decide, Tryz.func83.trans (congrArg some (by kernel_rfl))⟩
  f25 := ⟨Tryz.f84.name, by decide, Tryz.func84.trans (congrArg some (by kernel_rfl))⟩
  f26 := ⟨Tryz.f85.name, by decide, Tryz.func85.trans (congrArg some (by kernel_rfl))⟩
  f27 := ⟨Tryz.f86.name, by decide, Tryz.func86.trans (congrArg some (by kernel_rfl))⟩
  f28 := Tryz.func75.trans (congrArg some (by kernel_rfl))
  f29 := Tryz.func76.trans (congrArg some (by kernel_rfl))
  f46 := ⟨Tryz.f109.name, by decide, Tryz.func109.trans (congrArg some (by kernel_rfl))⟩
  f47 := Tryz.func97.trans (congrArg some (by kernel_rfl))
  f48 := Tryz.func98.trans (congrArg some (by kernel_rfl))
  f49 := ⟨Tryz.f110.name, by decide, Tryz.func110.trans (congrArg some (by kernel_rfl))⟩
  f50 := ⟨Tryz.f111.name, by decide, Tryz.func111.trans (congrArg some (by kernel_rfl))⟩
  f57 := ⟨Tryz.f119.name, by decide, Tryz.func119.trans (congrArg some (by kernel_rfl))⟩
  t0 := Tryz.underlying0
  a0 := Tryz.isAgg0
  z0 := Tryz.sizeOf0
  v0 := Tryz.zeroValue0
  t3 := Tryz.underlying3
  a3 := Tryz.isAgg3
  z3 := Tryz.sizeOf3
  v3 := Tryz.zeroValue3
  t4 := Tryz.underlying4
  a4 := Tryz.isAgg4
  z4 := Tryz.sizeOf4
  v4 := Tryz.zeroValue4
  t5 := Tryz.underlying5
  a5 := Tryz.isAgg5
  z5 := Tryz.sizeOf5
  v5 := Tryz.zeroValue5
  t9 := Tryz.underlying9
  a9 := Tryz.isAgg9
  z9 := Tryz.sizeOf9
  v9 := Tryz.zeroValue9
  t22 := Tryz.underlying22
  a22 := Tryz.isAgg22
  z22 := Tryz.sizeOf22
  v22 := Tryz.zeroValue22
  t25 := Tryz.underlying97
  a25 := Tryz.isAgg97
  z25 := Tryz.sizeOf97
  v25 := Tryz.zeroValue97
  t39 := Tryz.underlying77
  a39 := Tryz.isAgg77
  z39 := Tryz.sizeOf77
  v39 := Tryz.zeroValue77
  t45 := Tryz.underlying122
  a45 := Tryz.isAgg122
  z45 := Tryz.sizeOf122
  v45 := Tryz.zeroValue122
  t46 := Tryz.underlying123
  a46 := Tryz.isAgg123
  z46 := Tryz.sizeOf123
  v46 := Tryz.zeroValue123
  t50 := Tryz.underlying127
  a50 := Tryz.isAgg127
  z50 := Tryz.sizeOf127
  v50 := Tryz.zeroValue127
  t53 := Tryz.underlying130
  a53 := Tryz.isAgg130
  z53 := Tryz.sizeOf130
  v53 := Tryz.zeroValue130
  t55 := Tryz.underlying25
  a55 := Tryz.isAgg25
  z55 := Tryz.sizeOf25
  v55 := Tryz.zeroValue25
  t66 := Tryz.underlying144
  a66 := Tryz.isAgg144
  z66 := Tryz.sizeOf144
  v66 := Tryz.zeroValue144
  t70 := Tryz.underlying148
  a70 := Tryz.isAgg148
  z70 := Tryz.sizeOf148
  v70 := Tryz.zeroValue148
  t76 := Tryz.underlying160
  a76 := Tryz.isAgg160
  z76 := Tryz.sizeOf160
  v76 := Tryz.zeroValue160
  t77 := Tryz.underlying161
  a77 := Tryz.isAgg161
  z77 := Tryz.sizeOf161
  v77 := Tryz.zeroValue161 }
def Tryz.sortRef_ren : Go.Shelf.Ren := ⟨fun | 6 => 58 | 15 => 56 | 14 => 77 | 28 => 75 | 29 => 76 | 20 => 101 | 21 => 102 | 22 => 103 | 23 => 104 | 24 => 105 | 25 => 106 | 26 => 107 | 27 => 108 | 46 => 116 | 47 => 97 | 48 => 98 | 49 => 117 | 50 => 118 | 57 => 121 | n => n, fun | 22 => 90 | 24 => 94 | 25 => 114 | 3 => 3 | 39 => 77 | 0 => 0 | 53 => 130 | 55 => 25 | 4 => 4 | 46 => 123 | 45 => 122 | 50 => 127 | 5 => 5 | 9 => 9 | 66 => 144 | 70 => 148 | 76 => 160 | 77 => 161 | n => n, fun | n => n⟩
theorem Tryz.sortRef : Go.Proofs.SlLaysF0.n6 Tryz.prog Tryz.sortRef_ren := {
  mixed := by kernel_rfl
  f6 := ⟨Tryz.f58.name, by decide, Tryz.func58.trans (congrArg some (by kernel_rfl))⟩
  f14 := ⟨Tryz.f77.name, by decide, Tryz.func77.trans (congrArg some (by kernel_rfl))⟩
  f15 := Tryz.func56.trans (congrArg some (by kernel_rfl))
  f20 := ⟨Tryz.f101.name, by decide, Tryz.func101.trans (congrArg some (by kernel_rfl))⟩
  f21 := ⟨Tryz.f102.name, by decide, Tryz.func102.trans (congrArg some (by kernel_rfl))⟩
  f22 := ⟨Tryz.f103.name, by decide, Tryz.func103.trans (congrArg some (by kernel_rfl))⟩
  f23 := ⟨Tryz.f104.name, by decide, Tryz.func104.trans (congrArg some (by kernel_rfl))⟩
  f24 := ⟨Tryz.f105.name, by decide, Tryz.func105.trans (congrArg some (by kernel_rfl))⟩
  f25 := ⟨Tryz.f106.name, by decide, Tryz.func106.trans (congrArg some (by kernel_rfl))⟩
  f26 := ⟨Tryz.f107.name, by decide, Tryz.func107.trans (congrArg some (by kernel_rfl))⟩
  f27 := ⟨Tryz.f108.name, by decide, Tryz.func108.trans (congrArg some (by kernel_rfl))⟩
  f28 := Tryz.func75.trans (congrArg some (by kernel_rfl))
  f29 := Tryz.func76.trans (congrArg some (by kernel_rfl))
  f46 := ⟨Tryz.f116.name, by decide, Tryz.func116.trans (congrArg some (by kernel_rfl))⟩
  f47 := Tryz.func97.trans (congrArg some (by kernel_rfl))
  f48 := Tryz.func98.trans (congrArg some (by kernel_rfl))
  f49 := ⟨Tryz.f117.name, by decide, Tryz.func117.trans (congrArg some (by kernel_rfl))⟩
  f50 := ⟨Tryz.f118.name, by decide, Tryz.func118.trans (congrArg some (by kernel_rfl))⟩
  f57 := ⟨Tryz.f121.name, by decide, Tryz.func121.trans (congrArg some (by kernel_rfl))⟩
  t0 := Tryz.underlying0
  a0 := Tryz.isAgg0
  z0 := Tryz.sizeOf0
  v0 := Tryz.zeroValue0
  t3 := Tryz.underlying3
  a3 := Tryz.isAgg3
  z3 := Tryz.sizeOf3
  v3 := Tryz.zeroValue3
  t4 := Tryz.underlying4
  a4 := Tryz.isAgg4
  z4 := Tryz.sizeOf4
  v4 := Tryz.zeroValue4
  t5 := Tryz.underlying5
  a5 := Tryz.isAgg5
  z5 := Tryz.sizeOf5
  v5 := Tryz.zeroValue5
  t9 := Tryz.underlying9
  a9 := Tryz.isAgg9
  z9 := Tryz.sizeOf9
  v9 := Tryz.zeroValue9
  t22 := Tryz.underlying90
  a22 := Tryz.isAgg90
  z22 := Tryz.sizeOf90
  v22 := Tryz.zeroValue90
  t25 := Tryz.underlying114
  a25 := Tryz.isAgg114
  z25 := Tryz.sizeOf114
  v25 := Tryz.zeroValue114
  t39 := Tryz.underlying77
  a39 := Tryz.isAgg77
  z39 := Tryz.sizeOf77
  v39 := Tryz.zeroValue77
  t45 := Tryz.underlying122
  a45 := Tryz.isAgg122
  z45 := Tryz.sizeOf122
  v45 := Tryz.zeroValue122
  t46 := Tryz.underlying123
  a46 := Tryz.isAgg123
  z46 := Tryz.sizeOf123
  v46 := Tryz.zeroValue123
  t50 := Tryz.underlying127
  a50 := Tryz.isAgg127
  z50 := Tryz.sizeOf127
  v50 := Tryz.zeroValue127
  t53 := Tryz.underlying130
  a53 := Tryz.isAgg130
  z53 := Tryz.sizeOf130
  v53 := Tryz.zeroValue130
  t55 := Tryz.underlying25
  a55 := Tryz.isAgg25
  z55 := Tryz.sizeOf25
  v55 := Tryz.zeroValue25
  t66 := Tryz.underlying144
  a66 := Tryz.isAgg144
  z66 := Tryz.sizeOf144
  v66 := Tryz.zeroValue144
  t70 := Tryz.underlying148
  a70 := Tryz.isAgg148
  z70 := Tryz.sizeOf148
  v70 := Tryz.zeroValue148
  t76 := Tryz.underlying160
  a76 := Tryz.isAgg160
  z76 := Tryz.sizeOf160
  v76 := Tryz.zeroValue160
  t77 := Tryz.underlying161
  a77 := Tryz.isAgg161
  z77 := Tryz.sizeOf161
  v77 := Tryz.zeroValue161 }
def Tryz.sortSpan_ren : Go.Shelf.Ren := ⟨fun | 6 => 52 | 15 => 56 | 14 => 66 | 28 => 75 | 29 => 76 | 20 => 88 | 21 => 89 | 22 => 90 | 23 => 91 | 24 => 92 | 25 => 93 | 26 => 94 | 27 => 95 | 46 => 112 | 47 => 97 | 48 => 98 | 49 => 113 | 50 => 114 | 57 => 120 | n => n, fun | 22 => 30 | 24 => 73 | 25 => 109 | 3 => 3 | 39 => 77 | 0 => 0 | 53 => 130 | 55 => 25 | 4 => 4 | 46 => 123 | 45 => 122 | 50 => 127 | 5 => 5 | 9 => 9 | 66 => 144 | 70 => 148 | 76 => 160 | 77 => 161 | n => n, fun | n => n⟩
theorem Tryz.sortSpan : Go.Proofs.SlLaysF0.n6 Tryz.prog Tryz.sortSpan_ren := {
  mixed := by kernel_rfl
  f6 := ⟨Tryz.f52.name, by decide, Tryz.func52.trans (congrArg some (by kernel_rfl))⟩
  f14 := ⟨Tryz.f66.name, by decide, Tryz.func66.trans (congrArg some (by kernel_rfl))⟩
  f15 := Tryz.func56.trans (congrArg some (by kernel_rfl))
  f20 := ⟨Tryz.f88.name, by decide, Tryz.func88.trans (congrArg some (by kernel_rfl))⟩
  f21 := ⟨Tryz.f89.name, by decide, Tryz.func89.trans (congrArg some (by kernel_rfl))⟩
  f22 := ⟨Tryz.f90.name, by decide, Tryz.func90.trans (congrArg some (by kernel_rfl))⟩
  f23 := ⟨Tryz.f91.name, by decide, Tryz.func91.trans (congrArg some (by kernel_rfl))⟩
  f24 := ⟨Tryz.f92.name, by decide, Tryz.func92.trans (congrArg some (by kernel_rfl))⟩
  f25 := ⟨Tryz.f93.name, by decide, Tryz.func93.trans (congrArg some (by kernel_rfl))⟩
  f26 := ⟨Tryz.f94.name, by decide, Tryz.func94.trans (congrArg some (by kernel_rfl))⟩
  f27 := ⟨Tryz.f95.name, by decide, Tryz.func95.trans (congrArg some (by kernel_rfl))⟩
  f28 := Tryz.func75.trans (congrArg some (by kernel_rfl))
  f29 := Tryz.func76.trans (congrArg some (by kernel_rfl))
  f46 := ⟨Tryz.f112.name, by decide, Tryz.func112.trans (congrArg some (by kernel_rfl))⟩
  f47 := Tryz.func97.trans (congrArg some (by kernel_rfl))
  f48 := Tryz.func98.trans (congrArg some (by kernel_rfl))
  f49 := ⟨Tryz.f113.name, by decide, Tryz.func113.trans (congrArg some (by kernel_rfl))⟩
  f50 := ⟨Tryz.f114.name, by decide, Tryz.func114.trans (congrArg some (by kernel_rfl))⟩
  f57 := ⟨Tryz.f120.name, by decide, Tryz.func120.trans (congrArg some (by kernel_rfl))⟩
  t0 := Tryz.underlying0
  a0 := Tryz.isAgg0
  z0 := Tryz.sizeOf0
  v0 := Tryz.zeroValue0
  t3 := Tryz.underlying3
  a3 := Tryz.isAgg3
  z3 := Tryz.sizeOf3
  v3 := Tryz.zeroValue3
  t4 := Tryz.underlying4
  a4 := Tryz.isAgg4
  z4 := Tryz.sizeOf4
  v4 := Tryz.zeroValue4
  t5 := Tryz.underlying5
  a5 := Tryz.isAgg5
  z5 := Tryz.sizeOf5
  v5 := Tryz.zeroValue5
  t9 := Tryz.underlying9
  a9 := Tryz.isAgg9
  z9 := Tryz.sizeOf9
  v9 := Tryz.zeroValue9
  t22 := Tryz.underlying30
  a22 := Tryz.isAgg30
  z22 := Tryz.sizeOf30
  v22 := Tryz.zeroValue30
  t25 := Tryz.underlying109
  a25 := Tryz.isAgg109
  z25 := Tryz.sizeOf109
  v25 := Tryz.zeroValue109
  t39 := Tryz.underlying77
  a39 := Tryz.isAgg77
  z39 := Tryz.sizeOf77
  v39 := Tryz.zeroValue77
  t45 := Tryz.underlying122
  a45 := Tryz.isAgg122
  z45 := Tryz.sizeOf122
  v45 := Tryz.zeroValue122
  t46 := Tryz.underlying123
  a46 := Tryz.isAgg123
  z46 := Tryz.sizeOf123
  v46 := Tryz.zeroValue123
  t50 := Tryz.underlying127
  a50 := Tryz.isAgg127
  z50 := Tryz.sizeOf127
  v50 := Tryz.zeroValue127
  t53 := Tryz.underlying130
  a53 := Tryz.isAgg130
  z53 := Tryz.sizeOf130
  v53 := Tryz.zeroValue130
  t55 := Tryz.underlying25
  a55 := Tryz.isAgg25
  z55 := Tryz.sizeOf25
  v55 := Tryz.zeroValue25
  t66 := Tryz.underlying144
  a66 := Tryz.isAgg144
  z66 := Tryz.sizeOf144
  v66 := Tryz.zeroValue144
  t70 := Tryz.underlying148
  a70 := Tryz.isAgg148
  z70 := Tryz.sizeOf148
  v70 := Tryz.zeroValue148
  t76 := Tryz.underlying160
  a76 := Tryz.isAgg160
  z76 := Tryz.sizeOf160
  v76 := Tryz.zeroValue160
  t77 := Tryz.underlying161
  a77 := Tryz.isAgg161
  z77 := Tryz.sizeOf161
  v77 := Tryz.zeroValue161 }
def Tryz.sortSnap_ren : Go.Shelf.Ren := ⟨fun | 6 => 35 | 15 => 56 | 14 => 55 | 28 => 75 | 29 => 76 | 20 => 67 | 21 => 68 | 22 => 69 | 23 => 70 | 24 => 71 | 25 => 72 | 26 => 73 | 27 => 74 | 46 => 96 | 47 => 97 | 48 => 98 | 49 => 99 | 50 => 100 | 57 => 115 | n => n, fun | 22 => 29 | 24 => 63 | 25 => 85 | 3 => 3 | 39 => 77 | 0 => 0 | 53 => 130 | 55 => 25 | 4 => 4 | 46 => 123 | 45 => 122 | 50 => 127 | 5 => 5 | 9 => 9 | 66 => 144 | 70 => 148 | 76 => 160 | 77 => 161 | n => n, fun | n => n⟩
theorem Tryz.sortSnap : Go.Proofs.SlLaysF0.n6 Tryz.prog Tryz.sortSnap_ren := {
  mixed := by kernel_rfl
  f6 := ⟨Tryz.f35.name, by decide, Tryz.func35.trans (congrArg some (by kernel_rfl))⟩
  f14 := ⟨Tryz.f55.name, by decide, Tryz.func55.trans (congrArg some (by kernel_rfl))⟩
  f15 := Tryz.func56.trans (congrArg some (by kernel_rfl))
  f20 := ⟨Tryz.f67.name, by decide, Tryz.func67.trans (congrArg some (by kernel_rfl))⟩
  f21 := ⟨Tryz.f68.name, by decide, Tryz.func68.trans (congrArg some (by kernel_rfl))⟩
  f22 := ⟨Tryz.f69.name, by decide, Tryz.func69.trans (congrArg some (by kernel_rfl))⟩
  f23 := ⟨Tryz.f70.name, by decide, Tryz.func70.trans (congrArg some (by kernel_rfl))⟩
  f24 := ⟨Tryz.f71.name, by decide, Tryz.func71.trans (congrArg some (by kernel_rfl))⟩
  f25 := ⟨Tryz.f72.name, by decide, Tryz.func72.trans (congrArg some (by kernel_rfl))⟩
  f26 := ⟨Tryz.f73.name, by decide, Tryz.func73.trans (congrArg some (by kernel_rfl))⟩
  f27 := ⟨Tryz.f74.name, by decide, Tryz.func74.trans (congrArg some (by kernel_rfl))⟩
  f28 := Tryz.func75.trans (congrArg some (by kernel_rfl))
  f29 := Tryz.func76.trans (congrArg some (by kernel_rfl))
  f46 := ⟨Tryz.f96.name, by decide, Tryz.func96.trans (congrArg some (by kernel_rfl))⟩
  f47 := Tryz.func97.trans (congrArg some (by kernel_rfl))
  f48 := Tryz.func98.trans (congrArg some (by kernel_rfl))
  f49 := ⟨Tryz.f99.name, by decide, Tryz.func99.trans (congrArg some (by kernel_rfl))⟩
  f50 := ⟨Tryz.f100.name, by decide, Tryz.func100.trans (congrArg some (by kernel_rfl))⟩
  f57 := ⟨Tryz.f115.name, by decide, Tryz.func115.trans (congrArg some (by kernel_rfl))⟩
  t0 := Tryz.underlying0
  a0 := Tryz.isAgg0
  z0 := Tryz.sizeOf0
  v0 := Tryz.zeroValue0
  t3 := Tryz.underlying3
  a3 := Tryz.isAgg3
  z3 := Tryz.sizeOf3
  v3 := Tryz.zeroValue3
  t4 := Tryz.underlying4
  a4 := Tryz.isAgg4
  z4 := Tryz.sizeOf4
  v4 := Tryz.zeroValue4
  t5 := Tryz.underlying5
  a5 := Tryz.isAgg5
  z5 := Tryz.sizeOf5
  v5 := Tryz.zeroValue5
  t9 := Tryz.underlying9
  a9 := Tryz.isAgg9
  z9 := Tryz.sizeOf9
  v9 := Tryz.zeroValue9
  t22 := Tryz.underlying29
  a22 := Tryz.isAgg29
  z22 := Tryz.sizeOf29
  v22 := Tryz.zeroValue29
  t25 := Tryz.underlying85
  a25 := Tryz.isAgg85
  z25 := Tryz.sizeOf85
  v25 := Tryz.zeroValue85
  t39 := Tryz.underlying77
  a39 := Tryz.isAgg77
  z39 := Tryz.sizeOf77
  v39 := Tryz.zeroValue77
  t45 := Tryz.underlying122
  a45 := Tryz.isAgg122
  z45 := Tryz.sizeOf122
  v45 := Tryz.zeroValue122
  t46 := Tryz.underlying123
  a46 := Tryz.isAgg123
  z46 := Tryz.sizeOf123
  v46 := Tryz.zeroValue123
  t50 := Tryz.underlying127
  a50 := Tryz.isAgg127
  z50 := Tryz.sizeOf127
  v50 := Tryz.zeroValue127
  t53 := Tryz.underlying130
  a53 := Tryz.isAgg130
  z53 := Tryz.sizeOf130
  v53 := Tryz.zeroValue130
  t55 := Tryz.underlying25
  a55 := Tryz.isAgg25
  z55 := Tryz.sizeOf25
  v55 := Tryz.zeroValue25
  t66 := Tryz.underlying144
  a66 := Tryz.isAgg144
  z66 := Tryz.sizeOf144
  v66 := Tryz.zeroValue144
  t70 := Tryz.underlying148
  a70 := Tryz.isAgg148
  z70 := Tryz.sizeOf148
  v70 := Tryz.zeroValue148
  t76 := Tryz.underlying160
  a76 := Tryz.isAgg160
  z76 := Tryz.sizeOf160
  v76 := Tryz.zeroValue160
  t77 := Tryz.underlying161
  a77 := Tryz.isAgg161
  z77 := Tryz.sizeOf161
  v77 := Tryz.zeroValue161 }
end Go.Proofs
end
section
set_option linter.unusedSimpArgs false
set_option linter.unusedVariables false
namespace Go.VL
open Go Go.Proofs
open Nat (reduceAdd reduceEqDiff reduceSub reduceMul reduceLeDiff)

/-- A key, compared: a strict weak order. -/
theorem swo_key {n : Nat} (key : _root_.Fin n → Int) : Sort.SWO (ltOf fun i j : _root_.Fin n => if key i < key j then (-1 : Int) else if key j < key i then 1 else 0) := by
  have h : ∀ i j : _root_.Fin n, ltOf (fun i j : _root_.Fin n => if key i < key j then (-1 : Int) else if key j < key i then 1 else 0) i j = decide (key i < key j) := by
    intro i j
    unfold ltOf
    rw [decide_eq_decide]
    show (if key i < key j then (-1 : Int) else if key j < key i then 1 else 0) < 0 ↔ key i < key j
    split
    · rename_i h
      exact ⟨fun _ => h, fun _ => by decide⟩
    · rename_i h
      split
      · exact ⟨fun e => absurd e (by decide), fun e => absurd e h⟩
      · exact ⟨fun e => absurd e (by decide), fun e => absurd e h⟩
  refine ⟨fun x => ?_, fun x y z h1 h2 => ?_, fun x y z h1 h2 => ?_⟩ <;> simp only [h, decide_eq_true_eq, decide_eq_false_iff_not] at * <;> omega
theorem sortItem_ok {g : FuncId} {cf : DV → DV → Int} {ds : List DV} (hO : ∀ (h : 0 < ds.length), Sort.SWO (ltOf fun i j : _root_.Fin ds.length => cf ds[i] ds[j]))
    (hg : ∀ x ∈ ds, ∀ y ∈ ds, Ok Tryz.prog g [x, y] [] (.ret (.int .i64 (cf x y))) []) (hds : ∀ x ∈ ds, ∃ cs : List DV, x = .agg cs ∧ cs.length = 2 ∧ ∀ d ∈ cs, Low 0 d ∧ d.one = true)
    {m t : Nat} {σ : List Ob} (hm : σ[m]? = some (.arr t 2 ds)) (hn : 0 < ds.length) (hsz : ds.length < 4611686018427387904) :
    Ok Tryz.prog 41 [.sl m ds.length 0 ds.length, .fn g []] σ (.ret (.tup [])) (σ.set m (.arr t 2 (sortF cf ds))) :=
  Ok.sort Tryz.sortItem (enters_of Tryz.func41 (by kernel_rfl) rfl) 2 (by decide) (fun w => tok27.isAgg w) (fun w => tok27.size w) hO hg hds hm hn hsz
theorem sortRef_ok {g : FuncId} {cf : DV → DV → Int} {ds : List DV} (hO : ∀ (h : 0 < ds.length), Sort.SWO (ltOf fun i j : _root_.Fin ds.length => cf ds[i] ds[j]))
    (hg : ∀ x ∈ ds, ∀ y ∈ ds, Ok Tryz.prog g [x, y] [] (.ret (.int .i64 (cf x y))) []) (hds : ∀ x ∈ ds, ∃ cs : List DV, x = .agg cs ∧ cs.length = 4 ∧ ∀ d ∈ cs, Low 0 d ∧ d.one = true)
    {m t : Nat} {σ : List Ob} (hm : σ[m]? = some (.arr t 4 ds)) (hn : 0 < ds.length) (hsz : ds.length < 4611686018427387904) :
    Ok Tryz.prog 58 [.sl m ds.length 0 ds.length, .fn g []] σ (.ret (.tup [])) (σ.set m (.arr t 4 (sortF cf ds))) :=
  Ok.sort Tryz.sortRef (enters_of Tryz.func58 (by kernel_rfl) rfl) 4 (by decide) (fun w => tok94.isAgg w) (fun w => tok94.size w) hO hg hds hm hn hsz
theorem sortSpan_ok {g : FuncId} {cf : DV → DV → Int} {ds : List DV} (hO : ∀ (h : 0 < ds.length), Sort.SWO (ltOf fun i j : _root_.Fin ds.length => cf ds[i] ds[j]))
    (hg : ∀ x ∈ ds, ∀ y ∈ ds, Ok Tryz.prog g [x, y] [] (.ret (.int .i64 (cf x y))) []) (hds : ∀ x ∈ ds, ∃ cs : List DV, x = .agg cs ∧ cs.length = 2 ∧ ∀ d ∈ cs, Low 0 d ∧ d.one = true)
    {m t : Nat} {σ : List Ob} (hm : σ[m]? = some (.arr t 2 ds)) (hn : 0 < ds.length) (hsz : ds.length < 4611686018427387904) :
    Ok Tryz.prog 52 [.sl m ds.length 0 ds.length, .fn g []] σ (.ret (.tup [])) (σ.set m (.arr t 2 (sortF cf ds))) :=
  Ok.sort Tryz.sortSpan (enters_of Tryz.func52 (by kernel_rfl) rfl) 2 (by decide) (fun w => tok73.isAgg w) (fun w => tok73.size w) hO hg hds hm hn hsz
theorem sortSnap_ok {g : FuncId} {cf : DV → DV → Int} {ds : List DV} (hO : ∀ (h : 0 < ds.length), Sort.SWO (ltOf fun i j : _root_.Fin ds.length => cf ds[i] ds[j]))
    (hg : ∀ x ∈ ds, ∀ y ∈ ds, Ok Tryz.prog g [x, y] [] (.ret (.int .i64 (cf x y))) []) (hds : ∀ x ∈ ds, ∃ cs : List DV, x = .agg cs ∧ cs.length = 4 ∧ ∀ d ∈ cs, Low 0 d ∧ d.one = true)
    {m t : Nat} {σ : List Ob} (hm : σ[m]? = some (.arr t 4 ds)) (hn : 0 < ds.length) (hsz : ds.length < 4611686018427387904) :
    Ok Tryz.prog 35 [.sl m ds.length 0 ds.length, .fn g []] σ (.ret (.tup [])) (σ.set m (.arr t 4 (sortF cf ds))) :=
  Ok.sort Tryz.sortSnap (enters_of Tryz.func35 (by kernel_rfl) rfl) 4 (by decide) (fun w => tok63.isAgg w) (fun w => tok63.size w) hO hg hds hm hn hsz
end Go.VL
end
