/- Proved: the card of CheckOwn: whatever octets come in, the call returns true and they read as they did; no condition beside those the row itself lists. This text is part 8 of 17. -/
import Derived.Test.YtjfcmanopkhdkaaGreatDoorW07
section
set_option linter.unusedVariables false
set_option linter.unusedSimpArgs false
namespace Go.VL
open Go

/-- A value in memory against one without. -/
noncomputable def mz1 (f : DV → DV → Bool) (m : Mm) (c : Nat) (d D : DV) : Bool := match d, D with
  | .int k x, .int k' y => bx (Nat.beq (kidx k) (kidx k')) (eqx x y) false
  | .bool x, .bool y => bx x y (notx y)
  | .str x, .str y => eqs (mapx UInt8.toNat x.data.toList) (mapx UInt8.toNat y.data.toList)
  | .nils, .nils => true
  | .nilp, .nilp => true
  | .nili, .nili => true
  | .nilf, .nilf => true
  | .nils, .vec c' k [] => Nat.beq c c'
  | .emp, .vec c' k [] => Nat.beq c c'
  | .agg xs, .agg ys => eqds f xs ys
  | .tup xs, .tup ys => eqds f xs ys
  | .fn g xs, .fn g' ys => bx (Nat.beq g g') (eqds f xs ys) false
  | .iface t x, .iface t' y => bx (Nat.beq t t') (f x y) false
  | .sl id g off l, .vec c' k ys => bx (Nat.beq c c') (match m.t.get id with
    | some (.arr _ k' ln _ xs) => bx (Nat.beq k k') (bx (Nat.beq g ln) (eqds (fun x y => eqds f x.cells y.cells) (taken l (dropn off xs)) ys) false) false
    | _ => false) false
  | .ptr id g j o, .vptr c' ys => bx (Nat.beq c c') (match m.t.get id with
    | some (.arr _ k' ln _ xs) => bx (Nat.beq g ln) (match nth xs j with
      | some x => eqds f (dropn o x.cells) ys
      | none => false) false
    | _ => false) false
  | .vec c1 k xs, .vec c2 k' ys => bx (Nat.beq c1 c2) (bx (Nat.beq k k') (eqds (fun x y => eqds f x.cells y.cells) xs ys) false) false
  | _, _ => false
noncomputable def mz (n : Nat) (m : Mm) (c : Nat) : DV → DV → Bool := @Nat.rec (fun _ => DV → DV → Bool) (fun _ _ => false) (fun _ f => mz1 f m c) n

theorem eqds_all {f : DV → DV → Bool} : ∀ (a b : List DV), eqds f a b = true → a.length = b.length ∧ ∀ (i : Nat) (x y : DV), a[i]? = some x → b[i]? = some y → f x y = true
  | [], [], _ => ⟨rfl, fun i x y h => by simp at h⟩
  | [], y :: r, h => by cases h
  | x :: q, [], h => by cases h
  | x :: q, y :: r, h => by
    have h' : bx (f x y) (eqds f q r) false = true := h
    rw [bx_if] at h'
    split at h'
    · rename_i hx
      obtain ⟨h1, h2⟩ := eqds_all q r h'
      refine ⟨by simp [h1], fun i a b ha hb => ?_⟩
      cases i with
      | zero => simp at ha hb; subst ha; subst hb; exact hx
      | succ i => exact h2 i a b (by simpa using ha) (by simpa using hb)
    · cases h'

section
variable {w : World} {F F' : Nat → Nat → Prop} {μ μ' : Nat → Option Nat} {m : Mm} {σ0 : List Ob} {c : Nat}
theorem lists_rep {f : DV → DV → Bool} (hf : ∀ d D v, f d D = true → Rep w F μ m.obs d v → Rep w F' μ' σ0 D v) {xs ys : List DV} {vs : List Value} (h : eqds f xs ys = true) (hl : xs.length = vs.length)
    (hr : ∀ (i : Nat) (d : DV) (v : Value), xs[i]? = some d → vs[i]? = some v → Rep w F μ m.obs d v) : ys.length = vs.length ∧ ∀ (i : Nat) (d : DV) (v : Value), ys[i]? = some d → vs[i]? = some v → Rep w F' μ' σ0 d v := by
  obtain ⟨h1, h2⟩ := eqds_all _ _ h
  refine ⟨by omega, fun i d v hd hv => ?_⟩
  have hi := (List.getElem?_eq_some_iff.1 hd).1
  have hx : xs[i]? = some xs[i] := List.getElem?_eq_getElem (by omega)
  exact hf _ _ _ (h2 i _ _ hx hd) (hr i _ _ hx hv)
theorem mz_ok (hg : Good m) (hr : HR w F μ m.obs) (hF : ∀ c b, F c b → F' c b) (hμ : ∀ id b, μ id = some b → F' c b) : ∀ n d D v, mz n m c d D = true → Rep w F μ m.obs d v → Rep w F' μ' σ0 D v
  | 0, d, D, v, h, _ => by cases h
  | n + 1, d, D, v, h, hv => by
    have ih := mz_ok hg hr hF hμ n
    have h' : mz1 (mz n m c) m c d D = true := h
    unfold mz1 at h'
    split at h'
    · obtain ⟨h1, h2⟩ := beq2 h'
      rw [(kidx_iff _ _).1 h1, (eqx_iff _ _).1 h2] at hv
      cases hv; exact .int
    · rename_i x y
      have : x = y := by
        revert h'
        cases x <;> cases y <;> intro h' <;> first | rfl | cases h'
      subst this
      cases hv; exact .bool
    · rename_i x y
      have := (eqs_iff _ _).1 h'
      rw [mapx_eq, mapx_eq] at this
      have h2 : x.data.toList = y.data.toList := (List.map_inj_right (fun a b e => UInt8.toNat_inj.1 e)).1 this
      have : x = y := by
        cases x; cases y
        congr 1
        exact Array.ext' h2
      subst this
      cases hv; exact .str
    · cases hv; exact .nils
    · cases hv; exact .nilp
    · cases hv; exact .nili
    · cases hv; exact .nilf
    · cases hv
      exact .vec (A := none) (cap := 0) (fun _ _ => undef) (by simp) (by simp) (fun h => by simp at h) (fun x hx => by simp at hx) (fun j i x d hx => by simp at hx)
    · cases hv
      exact .vec (cap := 0) (fun _ _ => undef) (by simp) (by simp) (fun h => by simp at h) (fun x hx => by simp at hx) (fun j i x d hx => by simp at hx)
    · cases hv with
      | agg hl hh =>
        obtain ⟨h1, h2⟩ := lists_rep ih h' hl hh
        exact .agg h1 h2
    · cases hv with
      | tup hl hh =>
        obtain ⟨h1, h2⟩ := lists_rep ih h' hl hh
        exact .tup h1 h2
    · obtain ⟨e, h2⟩ := beq2 h'
      replace h' := h2; clear h2
      subst e
      cases hv with
      | fn hl hh =>
        obtain ⟨h1, h2⟩ := lists_rep ih h' hl hh
        exact .fn h1 h2
    · obtain ⟨e, h2⟩ := beq2 h'
      replace h' := h2; clear h2
      subst e
      cases hv with
      | iface hh => exact .iface (ih _ _ _ h' hh)
    · -- a slice
      rename_i id g off l c' k ys
      obtain ⟨e, h2⟩ := beq2 h'
      replace h' := h2; clear h2
      subst e
      split at h' <;> try cases h'
      rename_i t k' ln on xs ho
      obtain ⟨e, h2⟩ := beq2 h'
      replace h' := h2; clear h2
      subst e
      obtain ⟨e, h2⟩ := beq2 h'
      replace h' := h2; clear h2
      subst e
      rw [taken_eq, dropn_eq] at h'
      obtain ⟨ho1, hln⟩ := MmOf.arr hg ho
      obtain ⟨e1, e2⟩ := eqds_all _ _ h'
      cases hv with
      | @sl _ _ _ _ A cap hs =>
        obtain ⟨t2, k2, xs2, ho2, q1, q2, q3, q4, q5⟩ := hs
        rw [ho1] at ho2
        cases ho2
        have hlen : ys.length = l := by
          rw [← e1]; simp; omega
        obtain ⟨hk1, hor⟩ := hr.obj _ _ ho1
        rcases q5 hln with ⟨g0, rfl, rfl, hmu⟩ | ⟨b, cur, fr, hmu, hh, hsz, hAs, hA⟩
        · have : l = 0 := by omega
          subst this
          have hy : ys = [] := List.length_eq_zero_iff.1 hlen
          subst hy
          exact .vec (A := none) (cap := 0) (fun _ _ => undef) (by simp) (by simp) (fun h => by simp at h) (fun x hx => by simp at hx) (fun j i x d hx => by simp at hx)
        · rcases hor with ⟨rfl, hmu'⟩ | ⟨b', cur', fr', hmu', hh', hfr', hcells⟩
          · rw [hmu] at hmu'; cases hmu'
          rw [hmu] at hmu'; cases hmu'
          rw [hh] at hh'; cases hh'
          have key : ∀ (j i : Nat) (y D : DV), ys[j]? = some y → y.cells[i]? = some D → ∃ x d, xs[off + j]? = some x ∧ x.cells.length = y.cells.length ∧ x.cells[i]? = some d ∧ mz n m c d D = true := by
            intro j i y D hy hD
            have hj := (List.getElem?_eq_some_iff.1 hy).1
            have hx : ((xs.drop off).take l)[j]? = some (((xs.drop off).take l)[j]'(by omega)) := List.getElem?_eq_getElem _
            have hxy := e2 j _ _ hx hy
            obtain ⟨f1, f2⟩ := eqds_all _ _ hxy
            have hi := (List.getElem?_eq_some_iff.1 hD).1
            refine ⟨_, _, ?_, f1, List.getElem?_eq_getElem (by omega), f2 i _ _ (List.getElem?_eq_getElem (by omega)) hD⟩
            rw [List.getElem?_take, if_pos (by omega), List.getElem?_drop] at hx
            exact hx
          have := Rep.vec (w := w) (F := F') (μ := μ') (σ := σ0) (c := c) (k := k) (xs := ys) (A := A) (cap := cap) (fun j i => (cur[(off + j) * k + i]?).getD undef) (by omega) q4 (fun h0 => by
            refine ⟨_, hA (.inl (by omega)), hμ _ _ hmu, fun j i hj hi => ?_⟩
            have hy : ys[j]? = some ys[j] := List.getElem?_eq_getElem hj
            have hx : ((xs.drop off).take l)[j]? = some (((xs.drop off).take l)[j]'(by omega)) := List.getElem?_eq_getElem _
            have hxk := hk1 _ (List.mem_of_mem_drop (List.mem_of_mem_take (List.mem_of_getElem? hx)))
            rw [List.getElem?_take, if_pos (by omega), List.getElem?_drop] at hx
            obtain ⟨vv, g1, g2⟩ := hcells (off + j) i _ _ hx (List.getElem?_eq_getElem (show i < _ by rw [hxk]; exact hi))
            rw [g1]
            rw [add_mk]
            unfold World.cell?
            rw [hh]
            dsimp only
            rw [show off * k + (j * k + i) = (off + j) * k + i by rw [Nat.add_mul]; omega, g1]
            rfl) (fun y hy => by
            obtain ⟨j, hj⟩ := List.getElem?_of_mem hy
            have hjl := (List.getElem?_eq_some_iff.1 hj).1
            have hx : ((xs.drop off).take l)[j]? = some (((xs.drop off).take l)[j]'(by omega)) := List.getElem?_eq_getElem _
            rw [← (eqds_all _ _ (e2 j _ _ hx hj)).1]
            exact hk1 _ (List.mem_of_mem_drop (List.mem_of_mem_take (List.mem_of_getElem? hx)))) (fun j i y D hy hD => by
            obtain ⟨x, d, f1, f2, f3, f4⟩ := key j i y D hy hD
            obtain ⟨vv, g1, g2⟩ := hcells (off + j) i x d f1 f3
            rw [g1]
            exact ih _ _ _ f4 g2)
          rwa [hlen] at this
    · -- a pointer
      rename_i id g j o c' ys
      obtain ⟨e, h2⟩ := beq2 h'
      replace h' := h2; clear h2
      subst e
      split at h' <;> try cases h'
      rename_i t k' ln on xs ho
      obtain ⟨e, h2⟩ := beq2 h'
      replace h' := h2; clear h2
      subst e
      split at h' <;> try cases h'
      rename_i x hx
      rw [nth_eq] at hx
      rw [dropn_eq] at h'
      obtain ⟨ho1, hln⟩ := MmOf.arr hg ho
      obtain ⟨e1, e2⟩ := eqds_all _ _ h'
      cases hv with
      | @ptr _ _ _ _ a hp =>
        obtain ⟨t2, k2, xs2, ho2, q1, q2⟩ := hp
        rw [ho1] at ho2
        cases ho2
        obtain ⟨b, hb, rfl⟩ := q2 hln
        obtain ⟨hk1, hor⟩ := hr.obj _ _ ho1
        rcases hor with ⟨rfl, hmu'⟩ | ⟨b', cur, fr, hmu', hh, hfr, hcells⟩
        · rw [hb] at hmu'; cases hmu'
        rw [hb] at hmu'; cases hmu'
        have key : ∀ (i : Nat) (D : DV), ys[i]? = some D → ∃ d, x.cells[o + i]? = some d ∧ mz n m c d D = true := by
          intro i D hD
          have hi := (List.getElem?_eq_some_iff.1 hD).1
          have hd : (x.cells.drop o)[i]? = some ((x.cells.drop o)[i]'(by omega)) := List.getElem?_eq_getElem _
          refine ⟨_, ?_, e2 i _ _ hd hD⟩
          rw [List.getElem?_drop] at hd
          exact hd
        refine .vptr (fun i => (cur[j * k' + (o + i)]?).getD undef) (hμ _ _ hb) (fun i hi => ?_) (fun i D hD => ?_)
        · obtain ⟨d, f1, _⟩ := key i _ (List.getElem?_eq_getElem hi)
          obtain ⟨vv, g1, _⟩ := hcells j (o + i) x d hx f1
          rw [g1, add_mk]
          unfold World.cell?
          rw [hh]
          dsimp only
          rw [Nat.add_assoc, g1]
          rfl
        · obtain ⟨d, f1, f2⟩ := key i D hD
          obtain ⟨vv, g1, g2⟩ := hcells j (o + i) x d hx f1
          rw [g1]
          exact ih _ _ _ f2 g2
    · -- what nobody writes
      rename_i c1 k xs c2 k' ys
      obtain ⟨e, h2⟩ := beq2 h'
      replace h' := h2; clear h2
      subst e
      obtain ⟨e, h2⟩ := beq2 h'
      replace h' := h2; clear h2
      subst e
      obtain ⟨e1, e2⟩ := eqds_all _ _ h'
      cases hv with
      | @vec _ _ _ A cap u hc hm ha hk hrr =>
        have := Rep.vec (w := w) (F := F') (μ := μ') (σ := σ0) (c := c1) (k := k) (xs := ys) (A := A) (cap := cap) u (by omega) hm (fun h0 => by
          obtain ⟨a, f1, f2, f3⟩ := ha (by omega)
          exact ⟨a, f1, hF _ _ f2, fun j i hj hi => f3 j i (by omega) hi⟩) (fun y hy => by
          obtain ⟨j, hj⟩ := List.getElem?_of_mem hy
          have hjl := (List.getElem?_eq_some_iff.1 hj).1
          have hx : xs[j]? = some (xs[j]'(by omega)) := List.getElem?_eq_getElem _
          rw [← (eqds_all _ _ (e2 j _ _ hx hj)).1]
          exact hk _ (List.mem_of_getElem? hx)) (fun j i y D hy hD => by
          have hjl := (List.getElem?_eq_some_iff.1 hy).1
          have hx : xs[j]? = some (xs[j]'(by omega)) := List.getElem?_eq_getElem _
          obtain ⟨f1, f2⟩ := eqds_all _ _ (e2 j _ _ hx hy)
          have hi := (List.getElem?_eq_some_iff.1 hD).1
          have hd : (xs[j]'(by omega)).cells[i]? = some ((xs[j]'(by omega)).cells[i]'(by omega)) := List.getElem?_eq_getElem _
          exact ih _ _ _ (f2 i _ _ hd hD) (hrr j i _ _ hx hd))
        rwa [← e1] at this
    · cases h'
end

/-! ### Among other objects -/
theorem HR.empty {w : World} {F : Nat → Nat → Prop} {μ : Nat → Option Nat} {σ : List Ob} (hr : HR w F μ σ) : HR w F (fun _ => none) [] :=
  ⟨fun id o h => (by simp at h), fun _ _ => rfl, fun _ _ _ h => (by cases h), fun _ _ h => (by cases h), fun c b h => ⟨(hr.col c b h).1, fun _ e => (by cases e)⟩⟩
theorem low_cells {n : Nat} {x : DV} (h : Low n x) {i : Nat} {d : DV} (hd : x.cells[i]? = some d) : Low n d := by
  cases x with
  | agg cs => exact (low_agg cs).1 h d (List.mem_of_getElem? hd)
  | _ =>
    cases i with
    | zero => simp only [DV.cells, List.getElem?_cons_zero, Option.some.injEq] at hd; subst hd; exact h
    | succ i => simp [DV.cells] at hd
theorem Rep.low0 {w : World} {F : Nat → Nat → Prop} {μ μ' : Nat → Option Nat} {σ σ' : List Ob} {d : DV} {v : Value} (h : Rep w F μ σ d v) : Low 0 d → Rep w F μ' σ' d v := by
  induction h with
  | int => intro _; exact .int
  | bool => intro _; exact .bool
  | str => intro _; exact .str
  | vec u hc hm ha hk hr ih =>
    intro hl
    exact .vec u hc hm ha hk fun j i x d hx hd => ih j i x d hx hd (low_cells ((low_vec _ _ _).1 hl x (List.mem_of_getElem? hx)) hd)
  | agg hl h ih => intro h0; exact .agg hl fun i d v hd hv => ih i d v hd hv ((low_agg _).1 h0 d (List.mem_of_getElem? hd))
  | tup hl h ih => intro h0; exact .tup hl fun i d v hd hv => ih i d v hd hv ((low_tup _).1 h0 d (List.mem_of_getElem? hd))
  | ptr h => intro h0; exact absurd ((low_ptr _ _ _ _).1 h0) (by omega)
  | vptr u hF hu hr ih => intro h0; exact .vptr u hF hu fun i d hd => ih i d hd ((low_vptr _ _).1 h0 d (List.mem_of_getElem? hd))
  | sl h => intro h0; exact absurd ((low_sl _ _ _ _).1 h0) (by omega)
  | nils => intro _; exact .nils
  | nilp => intro _; exact .nilp
  | fn hl h ih => intro h0; exact .fn hl fun i d v hd hv => ih i d v hd hv ((low_fn _ _).1 h0 d (List.mem_of_getElem? hd))
  | nilf => intro _; exact .nilf
  | iface h ih => intro h0; exact .iface (ih ((low_iface _ _).1 h0))
  | nili => intro _; exact .nili
  | mp h ho => intro h0; exact absurd ((low_mp _).1 h0) (by omega)
  | it h ho => intro h0; exact absurd ((low_it _).1 h0) (by omega)
  | yld h ho => intro h0; exact absurd ((low_yld _).1 h0) (by omega)
  | emp => intro _; exact .emp
  | undef => intro _; exact .undef
  | skip => intro _; exact .skip
/-- What was not touched stands. -/
theorem HR.keepAll {w w' : World} {F F' : Nat → Nat → Prop} {μ : Nat → Option Nat} {σ : List Ob} (hr : HR w F μ σ) (hk : ∀ b, b < w.heap.size → w'.heap[b]? = w.heap[b]?) (hF : ∀ c b, F c b → F' c b) (hF' : ∀ c b, F' c b → F c b ∨ (w.heap.size ≤ b ∧ b < w'.heap.size)) (hs : w.heap.size ≤ w'.heap.size) :
    HR w' F' μ σ ∧ Step w F μ σ w' F' μ σ := by
  have hst : Step w F μ σ w' F' μ σ := by
    refine ⟨fun c b h => hk b (hr.col c b h).1, hF, fun id o h => ⟨o, h, Ob.ext_refl o⟩, fun id t k xs ys h h' hl => ⟨rfl, fun b cur fr hm hh => ⟨cur, fr, by rw [hk b (hr.lt _ _ hm)]; exact hh, rfl⟩⟩, fun _ _ _ _ => rfl⟩
  refine ⟨⟨fun id o h => ?_, hr.out, hr.inj, fun id b h => Nat.lt_of_lt_of_le (hr.lt id b h) hs, fun c b h => ?_⟩, hst⟩
  · have := hr.obj id o h
    cases o with
    | arr t k xs =>
      refine ⟨this.1, ?_⟩
      rcases this.2 with ⟨e1, e2⟩ | ⟨b, cu, fr, hb, hh, hfr, hcc⟩
      · exact .inl ⟨e1, e2⟩
      · refine .inr ⟨b, cu, fr, hb, by rw [hk b (hr.lt _ _ hb)]; exact hh, hfr, fun j q x d hx hd => ?_⟩
        obtain ⟨v, h1, h2⟩ := hcc j q x d hx hd
        exact ⟨v, h1, h2.step hst⟩
    | oth t ds => exact ObjRep.keep this hst h fun b hb => hk b (hr.lt _ _ hb)
    | dead => exact this
  · rcases hF' c b h with h | ⟨h1, h2⟩
    · exact ⟨Nat.lt_of_lt_of_le (hr.col c b h).1 hs, (hr.col c b h).2⟩
    · exact ⟨h2, fun id e => by have := hr.lt id b e; omega⟩
/-- A call where no objects are, among objects; its result's objects are given up. -/
theorem Ok.freeze {P : Program} {f : FuncId} {args : List DV} {d D : DV} {m : Mm} (h : Ok P f args [] (.ret d) m.obs) (hg : Good m) {n c : Nat} (hz : mz n m c d D = true) (ha : ∀ x ∈ args, Low 0 x) (σ : List Ob) : Ok P f args σ (.ret D) σ := by
  refine ⟨h.enters, fun w F μ vs hr hv => ?_⟩
  have hv0 : Reps w F (fun _ => none) [] args vs := ⟨hv.1, fun i d v hd hv' => (hv.2 i d v hd hv').low0 (ha d (List.mem_of_getElem? hd))⟩
  refine (h.calls w F _ vs hr.empty hv0).mono fun e w' he => ?_
  obtain ⟨F1, μ1, v, haf, rfl, hrep⟩ := he
  have hk : ∀ b, b < w.heap.size → w'.heap[b]? = w.heap[b]? := fun b hb => haf.fr.keep b hb fun _ e => by cases e
  have hnew : ∀ id b, μ1 id = some b → w.heap.size ≤ b := fun id b e => by
    rcases haf.fr.new id b e with e | e
    · cases e
    · exact e
  obtain ⟨k1, k2⟩ := hr.keepAll (F' := fun c' b => F1 c' b ∨ (c' = c ∧ ∃ id, μ1 id = some b)) hk (fun c b h => .inl (haf.step.col c b h)) (fun c' b h => by
    rcases h with h | ⟨_, id, h⟩
    · rcases haf.col c' b h with h2 | h2
      · exact .inl h2
      · exact .inr ⟨h2, (haf.hr.col c' b h).1⟩
    · exact .inr ⟨hnew id b h, haf.hr.lt id b h⟩) haf.fr.size
  refine ⟨_, μ, v, ⟨k1, k2, ⟨haf.fr.os, haf.fr.tape, haf.fr.output, haf.fr.size, fun b hb _ => hk b hb, fun id b e => .inl e, haf.fr.drawn⟩, fun c' b h => ?_⟩, rfl, ?_⟩
  · rcases h with h | ⟨_, id, h⟩
    · exact haf.col c' b h
    · exact .inr (hnew id b h)
  · exact mz_ok hg haf.hr (fun c b h => .inl h) (fun id b e => .inr ⟨rfl, id, e⟩) n d D v hz hrep
end Go.VL
end
section
set_option linter.unusedVariables false
set_option linter.unusedSimpArgs false
namespace Go.VL
open Go

theorem OpRun.capNil {P : Program} {L : Lay} (hL : LayOk P L) {o : Oper} {st : St} {x : Operand} {t e : TypeId} {q : Bool} {k b : Nat} {z : DV} (ho : o.op = .call { callee := .builtin .cap, args := #[x], argTypes := #[t] }) (ht : L t = some ⟨q, k, b, .slice e, z⟩) (hx : ev st.env x = .nils) :
    OpRun P o st (.int .i64 0) st.ob := by
  refine OpRun.pure fun a w F μ hr he => ?_
  have hv := he x
  rw [hx] at hv
  obtain ⟨desc, hu, rfl⟩ := (hL _ _ ht).und
  generalize hq : a.eval x = v at hv
  cases hv
  refine ⟨.int .i64 0, ?_, .int⟩
  simp [execOp, ho, resolve, Sem.run_bind, Sem.run_pure, Result.andThen_ok, invoke, Go.builtin, Builtin.cap_, run_underlying hu, goInt, hq]

/-- An object in hand is cut to nothing: its slice keeps its room. -/
theorem GhostV.trunc {C : Ctx} {σ : List Ob} {t k : Nat} {xs : List DV} (hσ : C.σ0 = σ) (hf : Fixed σ) (hdd : C.dd = [] := by assumption) : GhostV C (.sl σ.length xs.length 0 0) (σ ++ [.arr t k xs]) (.sl σ.length 0 0 0) (σ ++ [.arr t k []]) := by
  intro a w v F μ h r
  have hno : ∀ d v, NoId σ.length d → Rep w F μ (σ ++ [.arr t k xs]) d v → Rep w F μ (σ ++ [.arr t k []]) d v := by
    intro d v hn h
    have := Rep.fz (F' := F) (μ' := μ) (σ' := σ ++ [.arr t k []]) (id := σ.length) (N := xs.length) (r := fun _ _ => .undef) (fun _ _ => rfl) (fun _ _ h => h) (fun _ _ => rfl) (fun i o hi ho => by
      rw [push_get, if_neg hi] at ho
      exact ⟨o, by rw [push_get, if_neg hi]; exact ho, by
        cases o with
        | arr t k xs => exact ⟨xs, rfl, rfl⟩
        | oth t ds => exact ⟨ds, rfl⟩
        | dead => rfl⟩) (fun _ _ _ _ _ => .undef) h
    rwa [hn] at this
  have hst : ∀ (i : Nat) (o : Ob), σ[i]? = some o → (σ ++ [Ob.arr t k []])[i]? = some o := fun i o ho => by
    have := (List.getElem?_eq_some_iff.1 ho).1
    rw [push_get, if_neg (by omega)]; exact ho
  have hob : HR w F μ (σ ++ [.arr t k []]) := by
    refine ⟨fun i o ho => ?_, fun i hi => h.hr.out i (by simp at hi ⊢; omega), h.hr.inj, h.hr.lt, h.hr.col⟩
    rw [push_get] at ho
    by_cases hi : i = σ.length
    · rw [if_pos hi] at ho
      cases ho
      subst hi
      obtain ⟨_, h2⟩ := h.hr.obj σ.length (.arr t k xs) (by rw [push_get, if_pos rfl])
      refine ⟨by simp, ?_⟩
      rcases h2 with ⟨_, hmu⟩ | ⟨b, cur, fr, h3, h4, h5, _⟩
      · exact .inl ⟨rfl, hmu⟩
      · exact .inr ⟨b, cur, fr, h3, h4, h5, fun j i x d hx => by simp at hx⟩
    · rw [if_neg hi] at ho
      have hil := (List.getElem?_eq_some_iff.1 ho).1
      have hold := h.hr.obj i o (by rw [push_get, if_neg hi]; exact ho)
      have hfo : ∀ N r, fzOb σ.length N r o = o := fun N r => by
        have := congrArg (fun l => l[i]?) (hf σ.length (Nat.le_refl _) N r)
        simp only [List.getElem?_map, ho, Option.map_some, Option.some.injEq] at this
        exact this
      cases o with
      | arr t' k' zs =>
        have hz : ∀ x ∈ zs, NoId σ.length x := obNoId_arr.1 hfo
        refine ⟨hold.1, ?_⟩
        rcases hold.2 with e | ⟨b, cur, fr, h3, h4, h5, h6⟩
        · exact .inl e
        · refine .inr ⟨b, cur, fr, h3, h4, h5, fun j i x d hx hd => ?_⟩
          obtain ⟨v, g1, g2⟩ := h6 j i x d hx hd
          refine ⟨v, g1, hno d v ?_ g2⟩
          have hxn := hz x (List.mem_of_getElem? hx)
          cases x with
          | agg cs => exact (noId_agg cs).1 hxn d (List.mem_of_getElem? hd)
          | _ =>
            cases i with
            | zero => simp only [DV.cells, List.getElem?_cons_zero, Option.some.injEq] at hd; subst hd; exact hxn
            | succ i => simp [DV.cells] at hd
      | oth t' ds =>
        have hz : ∀ x ∈ ds, NoId σ.length x := obNoId_oth.1 hfo
        obtain ⟨h1, vs, h2, h3, h4⟩ := hold
        refine ⟨fun q hq => ?_, vs, h2, h3, fun q d v hd hv => hno d v (hz d (List.mem_of_getElem? hd)) (h4 q d v hd hv)⟩
        obtain ⟨t2, es, g⟩ := h1 q hq
        rw [push_get] at g
        by_cases hqs : q = σ.length
        · rw [if_pos hqs] at g; cases g
        · rw [if_neg hqs] at g
          exact ⟨t2, es, hst _ _ g⟩
      | dead => exact hold
  refine ⟨F, μ, ⟨hob, fun _ => .undef, ⟨h.step.imm, h.step.col, fun i o ho => ?_, fun i t' k' zs ys hz hy he => ?_, fun i tt es hi => h.step.othsame i tt es hi⟩, h.fr, h.col, h.size, ?_⟩, ?_⟩
  · rw [hσ] at ho
    exact ⟨o, hst i o ho, Ob.ext_refl o⟩
  · have hz' := hz
    rw [hσ] at hz'
    have hil := (List.getElem?_eq_some_iff.1 hz').1
    refine h.step.same i t' k' zs ys hz ?_ he
    rw [push_get, if_neg (by omega)] at hy ⊢
    exact hy
  · rw [hdd]
    have := h.defers
    rw [hdd] at this
    exact this
  · cases r with
    | @sl _ _ _ _ A cap hs =>
      refine .sl ?_
      obtain ⟨t2, k2, xs2, ho2, q1, q2, q3, q4, q5⟩ := hs
      rw [push_get, if_pos rfl] at ho2
      cases ho2
      refine ⟨t, k, [], by rw [push_get, if_pos rfl], by omega, by omega, q3, q4, fun _ => ?_⟩
      rcases q5 rfl with ⟨_, f2, f3, f4⟩ | ⟨b, cur, fr, f1, f2, f3, f4, f5⟩
      · exact .inl ⟨rfl, f2, f3, f4⟩
      · exact .inr ⟨b, cur, fr, f1, f2, f3, f4, f5⟩

/-- slices.Grow of nil. -/
noncomputable def growX (e : Nat) (args : List DV) (m : Mm) : Option (Out × Mm) := match args with
  | [.nils, .int .i64 (.ofNat n)] => bx (Nat.beq n 0) (some (.ret .nils, m)) (bx (Nat.ble n 1048576) (some (.ret (.sl m.n 0 0 0), pushX m (.arr e 1 0 true []))) none)
  | _ => none
theorem growX_ok {P : Program} {f e : Nat} (h0 : ∀ σ, Ok P f [.nils, .int .i64 0] σ (.ret .nils) σ) (h1 : ∀ (n : Nat) σ, 0 < n → n ≤ 1048576 → Ok P f [.nils, .int .i64 (n : Int)] σ (.ret (.sl σ.length 0 0 0)) (σ ++ [.arr e 1 []])) {args : List DV} {m m' : Mm} {out : Out}
    (h : growX e args m = some (out, m')) (hm : Good m) : Good m' ∧ Ok P f args m.obs out m'.obs := by
  unfold growX at h
  split at h
  · rename_i n
    rw [beq_if] at h
    split at h
    · rename_i hn
      subst hn
      cases h
      exact ⟨hm, h0 _⟩
    · rename_i hn
      rw [ble_if] at h
      split at h <;> cases h
      rename_i hle
      have hp := MmOf.push hm (x := .arr e 1 0 true []) ⟨rfl, fun _ => rfl⟩
      refine ⟨hp.goodm, ?_⟩
      have := h1 n m.obs (by omega) hle
      rw [show m.n = m.obs.length from MmOf.n hm]
      rw [show (pushX m (.arr e 1 0 true [])).obs = m.obs ++ [.arr e 1 []] from hp.obs.symm]
      exact this
  · cases h

/-- A function whose runs are known where its arguments are these. -/
noncomputable def knownX (tab : List (List DV × DV)) (args : List DV) (m : Mm) : Option (Out × Mm) := @List.rec (List DV × DV) (fun _ => Option (Out × Mm)) none (fun p _ ih => bx (eqds (eqd 9) args p.1) (some (.ret p.2, m)) ih) tab
theorem knownX_ok {P : Program} {f : Nat} : ∀ (tab : List (List DV × DV)), (∀ p ∈ tab, ∀ σ, Ok P f p.1 σ (.ret p.2) σ) → ∀ {args : List DV} {m m' : Mm} {out : Out}, knownX tab args m = some (out, m') → Good m → Good m' ∧ Ok P f args m.obs out m'.obs
  | [], _, args, m, m', out, h, _ => by cases h
  | p :: tab, ht, args, m, m', out, h, hm => by
    have h' : bx (eqds (eqd 9) args p.1) (some (Out.ret p.2, m)) (knownX tab args m) = some (out, m') := h
    rw [bx_if] at h'
    split at h'
    · rename_i he
      cases h'
      rw [eqds_ok (eqd_ok 9) _ _ he]
      exact ⟨hm, ht p (List.mem_cons_self ..) _⟩
    · exact knownX_ok tab (fun q hq => ht q (List.mem_cons_of_mem _ hq)) h' hm
end Go.VL
end
section
set_option linter.unusedVariables false
set_option linter.unusedSimpArgs false
namespace Go.VL
open Go

def TrAll {α : Type} (p : Nat → α → Prop) : Tr α → (Nat → Nat) → Prop
  | .e, _ => True
  | .n o l r, g => p (g 0) o ∧ TrAll p l (fun j => g (2 * j + 1)) ∧ TrAll p r (fun j => g (2 * j + 2))
theorem TrAll.get {α : Type} {p : Nat → α → Prop} : ∀ (t : Tr α) (g : Nat → Nat), TrAll p t g → ∀ (i : Nat) (x : α), t.get i = some x → p (g i) x
  | .e, g, _, i, x, h => by cases h
  | .n o l r, g, ⟨h0, h1, h2⟩, i, x, h => by
    rw [Tr.get_n] at h
    by_cases hi : i = 0
    · subst hi
      rw [if_pos rfl] at h
      cases h
      exact h0
    · rw [if_neg hi] at h
      by_cases hm : i % 2 = 1
      · rw [if_pos hm] at h
        have := TrAll.get l _ h1 _ x h
        simpa only [show 2 * (i / 2) + 1 = i by omega] using this
      · rw [if_neg hm] at h
        have := TrAll.get r _ h2 _ x h
        simpa only [show 2 * (i / 2 - 1) + 2 = i by omega] using this
/-- What a table's entry says. -/
def FtOk (P : Program) (f : Nat) : FT → Prop
  | .code x => FnOk P f x
  | .nat g => ∀ (args : List DV) (m : Mm) (out : Out) (m' : Mm), g args m = some (out, m') → Good m → Good m' ∧ Ok P f args m.obs out m'.obs
  | .none => True
noncomputable def tabOf (t : Tr FT) : Nat → FT := fun f => match t.get f with
  | some x => x
  | none => .none
theorem tabOf_ok {P : Program} {t : Tr FT} (h : TrAll (FtOk P) t (fun j => j)) : TabOk P (tabOf t) := by
  refine ⟨fun f x hx => ?_, fun f g args m out m' hg hr hm => ?_⟩
  · unfold tabOf at hx
    split at hx
    · rename_i y hy
      subst hx
      exact TrAll.get t _ h f _ hy
    · cases hx
  · unfold tabOf at hg
    split at hg
    · rename_i y hy
      subst hg
      exact TrAll.get t _ h f _ hy args m out m' hr hm
    · cases hg
noncomputable def layOf (t : Tr (Option TI)) : Lay := fun k => match t.get k with
  | some (some i) => some i
  | _ => none
theorem layOf_ok {P : Program} {t : Tr (Option TI)} (h : TrAll (fun k (i : Option TI) => ∀ x, i = some x → TOk P k x) t (fun j => j)) : LayOk P (layOf t) := by
  intro k i hk
  unfold layOf at hk
  split at hk
  · rename_i y hy
    cases hk
    exact TrAll.get t _ h k _ hy i rfl
  · cases hk
theorem tabOk_over {P : Program} {T : Nat → FT} (hT : TabOk P T) {f : Nat} {x : FT} (hx : FtOk P f x) : TabOk P (fun g => bx (Nat.beq g f) x (T g)) := by
  have key : ∀ g, FtOk P g (bx (Nat.beq g f) x (T g)) := fun g => by
    rw [beq_if]
    split
    · rename_i e; rw [e]; exact hx
    · generalize hq : T g = q
      cases q with
      | code y => exact hT.code g y hq
      | nat h => exact fun args m out m' => hT.nat g h args m out m' hq
      | none => trivial
  refine ⟨fun g y hy => ?_, fun g h args m out m' hg hr hm => ?_⟩
  · have := key g
    rw [hy] at this
    exact this
  · have := key g
    rw [hg] at this
    exact this args m out m' hr hm
def zsec (n : Nat) : DV := .vec 0 1 (List.replicate n (.int .u8 0))
def oct (l : List Nat) : DV := .vec 0 1 (l.map fun n => .int .u8 (Int.ofNat n))
/-- A call that was run, its result's objects given up. -/
noncomputable def runs (L : Lay) (T : Nat → FT) (fuel : Nat) (f : Nat) (args : List DV) (D : DV) : Bool := match call1 L T (xexec L T fuel) (.fn f []) args ⟨.e, 0⟩ with
  | .ok (.ret d) m => mz 12 m 0 d D
  | _ => false
theorem good0 : Good ⟨.e, 0⟩ := by
  have h : MmOf ⟨.e, 0⟩ [] := ⟨rfl, rfl, fun i => rfl, fun i o h => by cases h⟩
  exact h.goodm
theorem obs0 : (⟨.e, 0⟩ : Mm).obs = [] := rfl
theorem runs_ok {P : Program} {L : Lay} {T : Nat → FT} (hL : LayOk P L) (hmx : P.follows .mixedOrders = true) (hT : TabOk P T) {fuel f : Nat} {args : List DV} {D : DV} (h : runs L T fuel f args D = true) (ha : ∀ x ∈ args, Low 0 x) (σ : List Ob) : Ok P f args σ (.ret D) σ := by
  unfold runs at h
  split at h
  · rename_i d m hk
    obtain ⟨g1, g2⟩ := ok_of_call hL hmx hT fuel hk good0
    rw [obs0] at g2
    exact Ok.freeze g2 g1 h ha σ
  · cases h
end Go.VL
end
section
set_option linter.unusedVariables false
set_option linter.unusedSimpArgs false
namespace Go.VL
open Go

theorem SWops.opdo {C : Ctx} {ops : Array Oper} {rest : List Oper} {o : Oper} {st : St} {K : XE → St → Prop} {d : DV} {ob' : List Ob} (hg : gd ops st.env o = some true) (hd : dstOk C.n [o] = true) (hop : OpDo C.P o st (.ret d) ob')
    (h : SWops C ops rest ⟨upo st.env o.dst d, ob'⟩ K) : SWops C ops (o :: rest) st K := by
  rintro a w ⟨F, μ, hr⟩
  refine wpListIn_step fun K' hK => ?_
  rw [if_pos (gd_wanted hr hg)]
  exact hop C.rd a w F μ K' _ hr.hr (rep_ev hr) fun v w' F' μ' haf hrep => hK _ _ (h _ _ ⟨F', μ', rel0_after (C := C) (dd := C.dd) hr haf (dst_lt hd).1 hrep⟩)
theorem SWops.yield {C : Ctx} {P : Program} {ops : Array Oper} {rest : List Oper} {o : Oper} {st : St} {K : XE → St → Prop} {g : Operand} {xs : Array Operand} {ts : Array TypeId} {id : Nat} {args : List DV} {d : DV} {σ' : List Ob} (hP : C.P = P) (hd : dstOk C.n [o] = true)
    (hc : CallDo P (.yld id) args st.ob (.ret d) σ') (hg : gd ops st.env o = some true) (ho : o.op = .call { callee := .value g, args := xs, argTypes := ts }) (hf : ev st.env g = .yld id) (ha : xs.toList.map (ev st.env) = args)
    (h : SWops C ops rest ⟨upo st.env o.dst d, σ'⟩ K) : SWops C ops (o :: rest) st K :=
  SWops.opdo hg hd (by rw [hP]; exact hc o st g xs ts ho hf ha rfl) h
/-- One operation. -/
theorem SWops.one {C : Ctx} {L : Lay} (hL : LayOk C.P L) {ops : Array Oper} {rest : List Oper} {o : Oper} {st : St} {K : XE → St → Prop} (hd : dstOk C.n [o] = true)
    (h : match gd ops st.env o with
      | some true => (match sop L st o.op with
        | some (d, ob') => SWops C ops rest ⟨upo st.env o.dst d, ob'⟩ K
        | none => False)
      | some false => SWops C ops rest ⟨upo st.env o.dst .skip, st.ob⟩ K
      | none => False) : SWops C ops (o :: rest) st K := by
  split at h
  · rename_i hg
    split at h
    · rename_i d ob' hs
      exact SWops.op hg (dst_lt hd).1 (OpRun.of_sop (o := o) hL hs) h
    · exact h.elim
  · rename_i hg
    exact SWops.pass hg (dst_lt hd).1 h
  · exact h.elim
/-- A walk that ends in one way. -/
def EndK (C : Ctx) (e : XE) (st' : St) : XE → St → Prop := fun e' s => e' = e ∧ Ghost C s st'
theorem Does.of_sw {C : Ctx} {c : Code} {st st' : St} {e : XE} {dd : List DD} (he : ∀ d, e ≠ .panic d) (h : SW (C.at dd) c st (EndK (C.at dd) e st')) : Does C c st dd e st' dd := by
  intro a w hr
  refine wpIn_mono (h a w hr) fun ex a w hq => ?_
  cases ex with
  | normal => obtain ⟨s, ⟨rfl, hg⟩, hr⟩ := hq; exact ⟨rfl, hg a w hr⟩
  | exit i => obtain ⟨s, ⟨rfl, hg⟩, hr⟩ := hq; exact ⟨rfl, hg a w hr⟩
  | ret => obtain ⟨s, ⟨rfl, hg⟩, hr⟩ := hq; exact ⟨rfl, hg a w hr⟩
  | panic ch => obtain ⟨s, d, v, F, μ, ⟨e1, _⟩, _⟩ := hq; exact absurd e1.symm (he d)
  | goto l => exact hq.elim
  | outgrown => exact hq.elim

theorem Does.part {C : Ctx} {P : Program} {n : Nat} (hP : C.P = P) (hn : C.n = n) {c : Code} {st st' : St} {e : XE} {dd : List DD} (he : ∀ d, e ≠ .panic d) (h : ∀ D : Ctx, D.P = P → D.n = n → SW D c st (EndK D e st')) : Does C c st dd e st' dd := Does.of_sw he (h (C.at dd) hP hn)
theorem Does.range {C : Ctx} (hrd : C.rd = none) {st st' : St} {dd : List DD} {g : Operand} {ps : Array Tmp} {asg bo : Code} {f : FuncId} {caps : List DV} {fid : Nat} {ts : List DV} (hg : ev st.env g = .fn f caps)
    (hts : ts.length = C.n) (hti : ∀ i, i < C.n → ts[i]? = some (lk st.env i)) {out : Out} {σ2 : List Ob}
    (hok : Ok C.P f ([.yld (st.ob.length + 1)] ++ caps) ((st.ob ++ [Ob.oth .defd []]) ++ [Ob.oth (.loop .ready none fid ps.toList asg bo st.ob.length) ts]) out σ2) {e : XE}
    (hend : (∃ d stt q f1 p1 a1 b1 d1 e1, out = .ret d ∧ σ2[st.ob.length + 1]? = some (.oth (.loop stt q f1 p1 a1 b1 d1) e1) ∧ stt ≠ .busy ∧ jumpOf e = some q ∧ st' = ⟨st.env, σ2.set (st.ob.length + 1) (.oth (.loop .exhausted q f1 p1 a1 b1 d1) e1)⟩) ∨
      (∃ d, out = .pan d ∧ e = .panic d ∧ st' = ⟨st.env, σ2⟩)) : Does C (.rangeFunc g ps asg bo) st dd e st' (.col st.ob.length :: dd) := by
  intro a w hr
  have hfe : C.fe = Fence.wide := by
    show { Fence.wide with round := C.rd } = Fence.wide
    rw [hrd]; rfl
  rw [hfe]
  obtain ⟨F, μ, hr⟩ := hr
  have hv := rep_ev hr g
  rw [hg] at hv
  have hcap : ∃ vs : List Value, a.eval g = .func (.func f) #[] ⟨vs⟩ ∧ Reps w F μ st.ob caps vs := by
    generalize a.eval g = v at hv
    cases hv with
    | fn hl hh => exact ⟨_, rfl, hl, hh⟩
  obtain ⟨cvs, hge, hcr⟩ := hcap
  refine wpIn_rangeFunc fun fn _ => ?_
  have hh : HR w F μ st.ob := hr.hr
  obtain ⟨u1, u2, u3⟩ := hh.pushAny (.deferred (some [])) (.oth .defd []) fun hst h1 h2 => ⟨fun i hi => by simp [OT.refs] at hi, [], ⟨_, _, h1, h2, fun _ => rfl⟩, rfl, fun i d v hd _ => by simp at hd⟩
  obtain ⟨w1, hw1⟩ : ∃ w1, w1 = w.alloc (.deferred (some [])) := ⟨_, rfl⟩
  obtain ⟨μ1, hμ1⟩ : ∃ μ1, μ1 = grow μ st.ob.length w.heap.size := ⟨_, rfl⟩
  rw [← hw1, ← hμ1] at u1 u2 u3
  have hs1 : w1.heap.size = w.heap.size + 1 := by rw [hw1]; simp
  have hd1 : μ1 st.ob.length = some w.heap.size := by rw [hμ1]; simp [grow]
  obtain ⟨v1, v2, v3⟩ := u1.pushAny (.loop { state := .ready, pending := none, fn, tmps := a.tmps, params := ps, assign := asg, body := bo, defers := w.heap.size }) (.oth (.loop .ready none fid ps.toList asg bo st.ob.length) ts) fun hst h1 h2 => by
    refine ⟨fun i hi => ?_, a.tmps.toList, ⟨_, w.heap.size, fn, h1, ?_, h2⟩, ?_, fun i d v hd hv => ?_⟩
    · simp only [OT.refs, List.mem_singleton] at hi
      subst hi
      refine ⟨.defd, [], ?_⟩
      rw [push_get, if_neg (by simp), push_get, if_pos rfl]
    · have : grow μ1 (st.ob ++ [Ob.oth .defd []]).length w1.heap.size st.ob.length = μ1 st.ob.length := by
        simp only [grow]
        rw [if_neg (by simp)]
      rw [this]; exact hd1
    · have := hr.size
      rw [hts]
      simpa using this.symm
    · have hi : i < C.n := by
        have := (List.getElem?_eq_some_iff.1 hd).1
        rwa [hts] at this
      rw [hti i hi] at hd
      cases hd
      have h0 := ((hr.env i).step u2).step hst
      have : a.tmps.getD i undef = v := by
        rw [Array.getD_eq_getD_getElem?, ← Array.getElem?_toList, hv]
        rfl
      rw [this] at h0
      exact h0
  obtain ⟨w2, hw2⟩ : ∃ w2, w2 = w1.alloc (.loop { state := .ready, pending := none, fn, tmps := a.tmps, params := ps, assign := asg, body := bo, defers := w.heap.size }) := ⟨_, rfl⟩
  obtain ⟨μ2, hμ2⟩ : ∃ μ2, μ2 = grow μ1 (st.ob ++ [Ob.oth .defd []]).length w1.heap.size := ⟨_, rfl⟩
  rw [← hw2, ← hμ2] at v1 v2 v3
  have hl2 : μ2 (st.ob.length + 1) = some (w.heap.size + 1) := by rw [hμ2]; simp [grow, hs1]
  have hd2 : μ2 st.ob.length = some w.heap.size := by
    rw [hμ2]
    simp only [grow]
    rw [if_neg (by simp)]; exact hd1
  have hob2 : ((st.ob ++ [Ob.oth .defd []]) ++ [Ob.oth (.loop .ready none fid ps.toList asg bo st.ob.length) ts])[st.ob.length + 1]? = some (Ob.oth (.loop .ready none fid ps.toList asg bo st.ob.length) ts) := by
    rw [push_get, if_pos (by simp)]
  have hobd : ((st.ob ++ [Ob.oth .defd []]) ++ [Ob.oth (.loop .ready none fid ps.toList asg bo st.ob.length) ts])[st.ob.length]? = some (Ob.oth .defd []) := by
    rw [push_get, if_neg (by simp), push_get, if_pos rfl]
  refine ⟨w.heap.size + 1, [{ target := .collected w.heap.size, args := #[] }], w2, { target := .fn (.func f) ⟨cvs⟩, args := #[.func (.yield (w.heap.size + 1)) #[] #[]] }, w2, f, #[.func (.yield (w.heap.size + 1)) #[] #[]] ++ ⟨cvs⟩, w2, ?_, ?_, fun _ _ => trivial, ?_, fun e => (by cases e), ?_⟩
  · rw [hw2, hw1]; exact run_enterLoop_outer _ _ _ _ _
  · simp only [resolve, hge]
    simp [go_sem]
  · simp only [invoke]
    exact hok.enters _ _
  · refine (callsIn_wide (n := 0)).2 ?_
    have hargs : Reps w2 F μ2 ((st.ob ++ [Ob.oth .defd []]) ++ [Ob.oth (.loop .ready none fid ps.toList asg bo st.ob.length) ts]) ([.yld (st.ob.length + 1)] ++ caps) ([.func (.yield (w.heap.size + 1)) #[] #[]] ++ cvs) := by
      refine Reps.append ⟨rfl, fun i d v hd hv => ?_⟩ ((hcr.step u2).step v2)
      rcases i with _ | i <;> simp at hd hv
      subst hd; subst hv
      exact .yld hl2 ⟨_, _, hob2, rfl⟩
    have hc := hok.calls w2 F μ2 _ v1 hargs
    rw [show (#[.func (.yield (w.heap.size + 1)) #[] #[]] ++ ⟨cvs⟩ : Array Value) = ⟨[.func (.yield (w.heap.size + 1)) #[] #[]] ++ cvs⟩ by apply Array.ext'; simp]
    refine hc.mono fun ee w3 he => ?_
    obtain ⟨F3, μ3, v, haf, hout⟩ := he
    have hl3 : μ3 (st.ob.length + 1) = some (w.heap.size + 1) := (haf.step.othsame _ _ _ hob2).trans hl2
    have hrel3 : Rel0 (C.at (.col st.ob.length :: dd)) F3 μ3 ⟨st.env, σ2⟩ { a with defers := [{ target := .collected w.heap.size, args := #[] }] ++ a.defers } w3 := by
      have st3 := (u2.trans v2).trans haf.step
      refine ⟨haf.hr, fun t => (hr.env t).step st3, hr.step.trans st3, hr.fr.trans ((u3.trans v3).trans haf.fr), fun c b hb => (haf.col c b hb).elim (hr.col c b) (fun q => .inr (Nat.le_trans (hr.fr.trans (u3.trans v3)).size q)), hr.size, ?_⟩
      refine ⟨_, a.defers, rfl, ?_, DefRep.step st3 hr.defers⟩
      obtain ⟨o', ho', t', ds', rfl, hk'⟩ := haf.step.ext _ _ hobd
      obtain rfl := OT.kind_defd hk'
      exact ⟨w.heap.size, ds', (haf.step.othsame _ _ _ hobd).trans hd2, ho', rfl⟩
    rcases hend with ⟨d, stt, q, f1, p1, a1, b1, d1, e1, rfl, ho, hb, hj, rfl⟩ | ⟨d, rfl, rfl, rfl⟩
    · obtain ⟨rfl, hrep⟩ := hout
      obtain ⟨r1, dd1, fn1, vs1, n1, n2, n3, n4⟩ := loop_at haf.hr ho
      rw [hl3] at n1
      obtain rfl := Option.some.inj n1
      obtain ⟨t1, t2, t3⟩ := loop_turn (fn := fn1) (st' := .exhausted) (q' := q) haf.hr ho hl3 n2 n4
      have hrel4 : Rel (C.at (.col st.ob.length :: dd)) ⟨st.env, σ2.set (st.ob.length + 1) (.oth (.loop .exhausted q f1 p1 a1 b1 d1) e1)⟩ { a with defers := [{ target := .collected w.heap.size, args := #[] }] ++ a.defers } _ :=
        ⟨F3, μ3, t1, fun t => (hrel3.env t).step t2, hrel3.step.trans t2, hrel3.fr.trans t3, hrel3.col, hrel3.size, DefRep.step t2 hrel3.defers⟩
      refine ⟨q, _, run_endLoop n3 hb, ?_⟩
      cases e with
      | normal => cases hj; exact ⟨rfl, hrel4⟩
      | ret => cases hj; exact wpIn_ret ⟨rfl, hrel4⟩
      | exit i => cases hj; exact wpIn_exit ⟨rfl, hrel4⟩
      | panic d => cases hj
    · obtain ⟨rfl, hrep⟩ := hout
      exact ⟨d, v, F3, μ3, rfl, rfl, hrel3, hrep⟩

theorem round_do {P : Program} {n : Nat} {σ : List Ob} {id : Nat} {args ds : List DV} {st0 : LoopState} {q0 : Option Code} {fid : FuncId} {ps : List Tmp} {asg bo : Code} {did : Nat} {p : List (Nat × DV)} (ho : σ[id]? = some (.oth (.loop st0 q0 fid ps asg bo did) ds)) (hlen : ds.length = n)
    (hp : setl n ps args (slots 0 ds) = some p) {st1 : St} {dd1 : List DD} (hasg : ∀ C : Ctx, C.P = P → C.n = n → Does C asg ⟨p, σ⟩ [] .normal st1 dd1) {q1 : Option Code} {f1 : FuncId} {p1 : List Tmp} {a1 b1 : Code} {d1 : Nat} {e1 : List DV}
    (ho1 : st1.ob[id]? = some (.oth (.loop .ready q1 f1 p1 a1 b1 d1) e1)) {e : XE} {st2 : St} {dd2 : List DD} (hbo : ∀ C : Ctx, C.P = P → C.n = n → Does C bo ⟨st1.env, st1.ob.set id (.oth (.loop .busy q1 f1 p1 a1 b1 d1) e1)⟩ dd1 e st2 dd2)
    {st2' : LoopState} {q2 : Option Code} {f2 : FuncId} {p2 : List Tmp} {a2 b2 : Code} {d2 : Nat} {e2 : List DV} (ho2 : st2.ob[id]? = some (.oth (.loop st2' q2 f2 p2 a2 b2 d2) e2)) {j : Option Code} (hj : jumpOf e = some j) :
    CallDo P (.yld id) args σ (.ret (.bool j.isNone)) (st2.ob.set id (.oth (.loop (if j.isNone then .ready else .done) j f2 p2 a2 b2 d2) e2)) := by
  intro o st gop xs ts hop hg hargs hob ro a w F μ K' Q hh he hk
  rw [hob] at hh he hk
  have hv := he gop
  rw [hg] at hv
  obtain ⟨r, d, fn', vs, k1, k2, k3, k4⟩ := loop_at hh ho
  have hge : a.eval gop = .func (.yield r) #[] #[] := by
    generalize a.eval gop = v at hv
    cases hv with
    | yld h _ => rw [k1] at h; cases h; rfl
  have hrm : Reps w F μ σ args (xs.toList.map a.eval) := by
    subst hargs
    refine ⟨by simp, fun i d v hd hv => ?_⟩
    rw [List.getElem?_map] at hd hv
    cases hx : xs.toList[i]? with
    | none => simp [hx] at hd
    | some x =>
      simp only [hx, Option.map_some, Option.some.injEq] at hd hv
      subst hd; subst hv
      exact he x
  have hvs : vs.length = n := by rw [← k4.1]; exact hlen
  obtain ⟨l1, l2, l3⟩ := setl_ok (w := w) (F := F) (μ := μ) (σ := σ) ps args (slots 0 ds) p (xs.toList.map a.eval) ⟨vs⟩ hp hrm (by simpa using hvs) (fun t => by
    rw [lk_slots, if_pos (Nat.zero_le t), Nat.sub_zero]
    rcases Nat.lt_or_ge t ds.length with ht | ht
    · rw [List.getElem?_eq_getElem ht, Option.getD_some]
      have ht' : t < vs.length := by rw [← k4.1]; exact ht
      have : (⟨vs⟩ : Array Value).getD t undef = vs[t] := by
        rw [Array.getD_eq_getD_getElem?]
        simp [ht']
      rw [this]
      exact k4.2 t _ _ (List.getElem?_eq_getElem ht) (List.getElem?_eq_getElem ht')
    · rw [List.getElem?_eq_none ht]
      exact .undef)
  have hsz : (xs.map a.eval).size = ps.length := by simpa using l1
  have hmap : xs.map a.eval = ⟨xs.toList.map a.eval⟩ := by apply Array.ext'; simp
  have hrunop : (execOp a.eval o).run P w = .ok (.round r fn' ((ps.zip (xs.toList.map a.eval)).foldl (fun tmps (t, a) => tmps.setIfInBounds t a) ⟨vs⟩) asg bo) w := by
    unfold execOp
    rw [hop]
    dsimp only [resolve]
    rw [hge]
    simp only [Deferred.ofValue, Sem.run_bind, Sem.run_pure, Result.andThen_ok, invoke, Array.empty_append, Array.append_empty]
    have := run_yield (P := P) (args := xs.map a.eval) k3 hsz
    rw [hmap] at this ⊢
    rw [this, fold_zip]
  refine ⟨fun _ _ => trivial, ?_⟩
  show o.uponIn _ 0 P a K' Q ((o.semAt ro a.eval).run P w)
  rw [Oper.semAt_eq _ _ _ (by intro c hc; rw [hop] at hc; cases hc), hrunop, Oper.uponIn_round]
  refine ⟨fun e => (by cases e), ?_⟩
  refine roundIn_of_wpIn (F := { Fence.wide with round := ro }) trivial ?_
  let C : Ctx := ⟨P, n, some r, [], w, F, μ, σ, hh.out⟩
  have hrel : Rel (C.at []) ⟨p, σ⟩ { tmps := (ps.zip (xs.toList.map a.eval)).foldl (fun tmps (t, a) => tmps.setIfInBounds t a) ⟨vs⟩, defers := [] } w :=
    ⟨F, μ, hh, l3, Step.refl .., Fr.refl .., fun _ _ h => .inl h, l2, rfl⟩
  refine wpIn_mono (hasg C rfl rfl _ w hrel) fun ex a1' w1 q => ?_
  cases ex with
  | exit i => cases q.1
  | ret => cases q.1
  | panic ch => obtain ⟨_, _, _, _, h1, _⟩ := q; cases h1
  | goto l => exact q.elim
  | outgrown => exact q.elim
  | normal =>
    obtain ⟨_, F1, μ1, hq⟩ := q
    obtain ⟨r1, dx1, fn1, vs1, n1, n2, n3, n4⟩ := loop_at hq.hr ho1
    have hr1' : r1 = r := by
      have := hq.step.othsame id _ _ ho
      rw [n1] at this
      rw [show C.μ0 = μ from rfl, k1] at this
      exact Option.some.inj this
    subst hr1'
    obtain ⟨t1, t2, t3⟩ := loop_turn (fn := fn1) (st' := .busy) (q' := q1) hq.hr ho1 n1 n2 n4
    refine ⟨_, run_beginRound n3 rfl, ?_⟩
    have hrel2 : Rel (C.at dd1) ⟨st1.env, st1.ob.set id (.oth (.loop .busy q1 f1 p1 a1 b1 d1) e1)⟩ a1' _ :=
      ⟨F1, μ1, t1, fun t => (hq.env t).step t2, hq.step.trans t2, hq.fr.trans t3, hq.col, hq.size, DefRep.step t2 hq.defers⟩
    refine wpIn_mono (hbo C rfl rfl _ _ hrel2) fun ex a2' w2 q => ?_
    have fin : ∀ {F2 : Nat → Nat → Prop} {μ2 : Nat → Option Nat} {a2' : Act} {w2 : World}, Rel0 (C.at dd2) F2 μ2 st2 a2' w2 →
        ∃ v w', (Instr.endRound r1 j).run P w2 = .ok v w' ∧ K' (a.put o.dst v) w' := by
      intro F2 μ2 a2' w2 hq2
      obtain ⟨r2, dx2, fn2, vs2, m1, m2, m3, m4⟩ := loop_at hq2.hr ho2
      have hr2' : r2 = r1 := by
        have := hq2.step.othsame id _ _ ho
        rw [m1] at this
        rw [show C.μ0 = μ from rfl, k1] at this
        exact Option.some.inj this
      subst hr2'
      obtain ⟨u1, u2, u3⟩ := loop_turn (fn := fn2) (st' := if j.isNone then .ready else .done) (q' := j) hq2.hr ho2 m1 m2 m4
      exact ⟨_, _, run_endRound j m3, hk _ _ F2 μ2 ⟨u1, hq2.step.trans u2, hq2.fr.trans u3, hq2.col⟩ .bool⟩
    cases ex with
    | normal => obtain ⟨rfl, F2, μ2, hq2⟩ := q; cases hj; exact fin hq2
    | ret => obtain ⟨rfl, F2, μ2, hq2⟩ := q; cases hj; exact fin hq2
    | exit i => obtain ⟨rfl, F2, μ2, hq2⟩ := q; cases hj; exact fin hq2
    | panic ch => obtain ⟨d, v, F2, μ2, rfl, _⟩ := q; cases hj
    | goto l => exact q.elim
    | outgrown => exact q.elim

/-! ### A function leaves over marks -/
def LeaveC (L : Lay) (rs : List ResultVar) (env : List (Nat × DV)) (out : Out) (σ' : List Ob) : List DD → Md → List Ob → Prop
  | [], .ret, σ => σ' = σ ∧ ∃ d, resDV L ⟨env, σ⟩ rs = some d ∧ out = .ret d
  | [], .pan d, σ => out = .pan d ∧ σ' = σ
  | .col D :: r, md, σ => σ[D]? = some (.oth .defd []) ∧ LeaveC L rs env out σ' r md (σ.set D (.oth .defd [.bool true]))
  | _, _, _ => False
def LvS (C : Ctx) (dd : List DD) (E : List (Nat × DV)) (σ : List Ob) (a : Act) (w : World) (u : FrameMode) (md : Md) : Prop :=
  ∃ F μ, Rel0 (C.at dd) F μ ⟨E, σ⟩ a w ∧ MdRel w F μ σ u md ∧ ∀ d, md ≠ .rcv d
theorem leaveC_ok {L : Lay} {C : Ctx} (hL : LayOk C.P L) {fn : Func} {env : List (Nat × DV)} {out : Out} {σ' : List Ob} : ∀ (dd : List DD) (md : Md) (σ : List Ob), LeaveC L fn.results.toList env out σ' dd md σ →
    ∀ (a : Act) (w : World) (u : FrameMode), LvS C dd env σ a w u md → LeavesInM Fence.wide 0 C.P fn a.tmps (OutPost out σ' C.w0 C.F0 C.μ0 C.σ0) a.defers u w
  | [], md, σ, h => by
    rintro a w u ⟨F, μ, hr, hmd, hne⟩
    have hd' : a.defers = [] := hr.defers
    rw [hd']
    cases md with
    | ret =>
      obtain rfl : u = .returning := hmd
      obtain ⟨rfl, d, hd, rfl⟩ := h
      obtain ⟨v, r1, r2⟩ := run_results (C := C.at []) hL hr (fn := fn) hd
      exact ⟨v, r1, F, μ, v, ⟨hr.hr, hr.step, hr.fr, hr.col⟩, rfl, r2⟩
    | pan d =>
      obtain ⟨v, rfl, hrep⟩ := hmd
      obtain ⟨rfl, rfl⟩ := h
      exact ⟨F, μ, v, ⟨hr.hr, hr.step, hr.fr, hr.col⟩, rfl, hrep⟩
    | rcv d => exact absurd rfl (hne d)
  | .fn f caps :: r, md, σ, h => by cases md <;> exact h.elim
  | .col D :: r, md, σ, h => by
    rintro a w u ⟨F, μ, hr, hmd, hne⟩
    have h' : σ[D]? = some (.oth .defd []) ∧ LeaveC L fn.results.toList env out σ' r md (σ.set D (.oth .defd [.bool true])) := by cases md <;> exact h
    obtain ⟨ho, h'⟩ := h'
    obtain ⟨d, ds, e1, ⟨b, es, g1, g2, g3⟩, e3⟩ := hr.defers
    obtain ⟨_, vs, hvs, hlen, _⟩ := hr.hr.obj D _ ho
    obtain ⟨b', y, q1, q2, q3⟩ := hvs
    rw [g1] at q1; cases q1
    have hv0 : vs = [] := by
      cases vs with
      | nil => rfl
      | cons v r => simp at hlen
    have hy := q3 hv0
    subst hy
    obtain ⟨t1, t2, t3⟩ := hr.hr.turn (id := D) (b := b) (t := .defd) (t' := .defd) (ds := []) (ds' := [.bool true]) (.deferred none) ho g1 rfl (fun hst hb => ⟨fun i hi => by simp [OT.refs] at hi, [.bool true], ⟨b, none, g1, hb, fun e => by cases e⟩, rfl, fun i d v hd hv => by
      rcases i with _ | i <;> simp at hd hv
      subst hd; subst hv; exact .bool⟩)
    have hu : u ≠ .run := by
      cases md with
      | ret => rw [show u = .returning from hmd]; simp
      | pan d => obtain ⟨v, e, _⟩ := hmd; rw [e]; simp
      | rcv d => exact absurd rfl (hne d)
    subst g3
    rw [e1]
    refine ⟨hu, .inl ⟨b, _, rfl, run_takeDeferred q2, leaveC_ok hL r md _ h' { a with defers := ds } _ u ⟨F, μ, ⟨t1, fun t => (hr.env t).step t2, hr.step.trans t2, hr.fr.trans t3, hr.col, hr.size, DefRep.step t2 e3⟩, hmd.step t2, hne⟩⟩⟩

/-- A function whose body leaves marks at the most. -/
theorem ok_of_does {P : Program} {L : Lay} (hL : LayOk P L) {f : Nat} {fn : Func} {c : Code} (hf : P.funcs[f]? = some fn) (hb : fn.body = some c) (hname : (fn.name == "runtime.NumGoroutine") = false) {args : List DV} (hlen : args.length ≤ fn.ntmps) {σ σ' : List Ob} {out : Out} {e : XE} {st1 : St} {dd1 : List DD} {md : Md}
    (hD : ∀ C : Ctx, C.P = P → C.n = fn.ntmps → C.rd = none → C.σ0 = σ → Fixed σ → Does C c ⟨slots 0 args, σ⟩ [] e st1 dd1) (he : MdOf e = some md) (hlv : LeaveC L fn.results.toList st1.env out σ' dd1 md st1.ob) : Ok P f args σ out σ' := by
  refine ⟨fun vs w => ?_, fun w F μ vs hr hv => ?_⟩
  · have hn' : ¬ fn.name = "runtime.NumGoroutine" := by simpa using hname
    simp [callFunc, program, Sem.run, hf, hn', hb]
  · let C : Ctx := ⟨P, fn.ntmps, none, [], w, F, μ, σ, hr.out⟩
    have hwp := hD C rfl rfl rfl rfl hr.fixed _ w ⟨F, μ, rel_start hr hv hlen⟩
    refine callsIn_wide.1 (callsIn_of_wp_marks hf hb trivial (n := 0) (wpIn_mono hwp fun ex a w' hq => ?_))
    have lv : ∀ u, LvS C dd1 st1.env st1.ob a w' u md → LeavesInM Fence.wide 0 P fn a.tmps (OutPost out σ' w F μ σ) a.defers u w' :=
      fun u h => leaveC_ok (C := C) hL dd1 md st1.ob hlv a w' u h
    cases ex with
    | normal => obtain ⟨rfl, F', μ', hq⟩ := hq; cases he; exact lv .returning ⟨F', μ', hq, rfl, fun d h => by cases h⟩
    | ret => obtain ⟨rfl, F', μ', hq⟩ := hq; cases he; exact lv .returning ⟨F', μ', hq, rfl, fun d h => by cases h⟩
    | exit i => obtain ⟨rfl, _⟩ := hq; cases he
    | panic ch =>
      obtain ⟨d, v, F', μ', rfl, rfl, h1, h2⟩ := hq
      cases he
      exact lv _ ⟨F', μ', h1, ⟨v, rfl, h2⟩, fun d h => by cases h⟩
    | goto l => exact hq.elim
    | outgrown => exact hq.elim
end Go.VL
end
section
set_option linter.unusedSimpArgs false
set_option linter.unusedVariables false
namespace Go.VL
open Go

/-- A value without colour c, that leads to no object of K. -/
inductive Cl (c : Nat) (K : Nat → Prop) : DV → Prop
  | int {k n} : Cl c K (.int k n)
  | bool {b} : Cl c K (.bool b)
  | str {s} : Cl c K (.str s)
  | vec {c' k xs} (h : c' ≠ c) (hx : ∀ x ∈ xs, Cl c K x) : Cl c K (.vec c' k xs)
  | agg {cs : List DV} (h : ∀ x ∈ cs, Cl c K x) : Cl c K (.agg cs)
  | tup {cs : List DV} (h : ∀ x ∈ cs, Cl c K x) : Cl c K (.tup cs)
  | ptr {id g j o} (h : ¬ K id) : Cl c K (.ptr id g j o)
  | vptr {c'} {cs : List DV} (h : c' ≠ c) (hx : ∀ x ∈ cs, Cl c K x) : Cl c K (.vptr c' cs)
  | sl {id g off len} (h : ¬ K id) : Cl c K (.sl id g off len)
  | nils : Cl c K .nils
  | nilp : Cl c K .nilp
  | fn {f} {cs : List DV} (h : ∀ x ∈ cs, Cl c K x) : Cl c K (.fn f cs)
  | nilf : Cl c K .nilf
  | iface {t x} (h : Cl c K x) : Cl c K (.iface t x)
  | nili : Cl c K .nili
  | emp : Cl c K .emp
  | undef : Cl c K .undef
  | skip : Cl c K .skip
theorem Cl.cells {c : Nat} {K : Nat → Prop} {x : DV} (h : Cl c K x) {i : Nat} {d : DV} (hd : x.cells[i]? = some d) : Cl c K d := by
  have one : ∀ {y : DV}, Cl c K y → [y][i]? = some d → Cl c K d := by
    intro y hy e
    cases i with
    | zero => simp only [List.getElem?_cons_zero, Option.some.injEq] at e; rw [← e]; exact hy
    | succ i => simp at e
  cases h with
  | agg h => exact h d (List.mem_of_getElem? hd)
  | int => exact one .int hd
  | bool => exact one .bool hd
  | str => exact one .str hd
  | vec h hx => exact one (.vec h hx) hd
  | tup h => exact one (.tup h) hd
  | ptr h => exact one (.ptr h) hd
  | vptr h hx => exact one (.vptr h hx) hd
  | sl h => exact one (.sl h) hd
  | nils => exact one .nils hd
  | nilp => exact one .nilp hd
  | fn h => exact one (.fn h) hd
  | nilf => exact one .nilf hd
  | iface h => exact one (.iface h) hd
  | nili => exact one .nili hd
  | emp => exact one .emp hd
  | undef => exact one .undef hd
  | skip => exact one .skip hd

theorem Rep.back {w : World} {F F3 : Nat → Nat → Prop} {μ μ3 : Nat → Option Nat} {σ σ3 : List Ob} {c : Nat} {K : Nat → Prop} (hF : ∀ c' b, c' ≠ c → F c' b → F3 c' b)
    (hσ : ∀ (id t k : Nat) (xs : List DV), ¬ K id → σ[id]? = some (.arr t k xs) → σ3[id]? = some (.arr t k xs) ∧ μ3 id = μ id) {d : DV} {v : Value} (h : Rep w F μ σ d v) : Cl c K d → Rep w F3 μ3 σ3 d v := by
  induction h with
  | int => intro _; exact .int
  | bool => intro _; exact .bool
  | str => intro _; exact .str
  | vec u hc hm ha hk hr ih =>
    intro hl
    cases hl with
    | vec h hx =>
      refine .vec u hc hm (fun h0 => ?_) hk (fun j i x d hj hi => ih j i x d hj hi ((hx x (List.mem_of_getElem? hj)).cells hi))
      obtain ⟨a, e, hFa, hcell⟩ := ha h0
      exact ⟨a, e, hF _ _ h hFa, hcell⟩
  | agg hl h ih => intro hc; cases hc with | agg h' => exact .agg hl fun i d v hd hv => ih i d v hd hv (h' d (List.mem_of_getElem? hd))
  | tup hl h ih => intro hc; cases hc with | tup h' => exact .tup hl fun i d v hd hv => ih i d v hd hv (h' d (List.mem_of_getElem? hd))
  | ptr h =>
    intro hc
    cases hc with
    | ptr hk =>
      obtain ⟨t, k, xs, ho, hg, hb⟩ := h
      obtain ⟨e1, e2⟩ := hσ _ _ _ _ hk ho
      exact .ptr ⟨t, k, xs, e1, hg, by rw [e2]; exact hb⟩
  | vptr u hFa hu hr ih =>
    intro hc
    cases hc with
    | vptr h hx => exact .vptr u (hF _ _ h hFa) hu fun i d hd => ih i d hd (hx d (List.mem_of_getElem? hd))
  | sl h =>
    intro hc
    cases hc with
    | sl hk =>
      obtain ⟨t, k, xs, ho, h1, h2, h3, h4, hb⟩ := h
      obtain ⟨e1, e2⟩ := hσ _ _ _ _ hk ho
      exact .sl ⟨t, k, xs, e1, h1, h2, h3, h4, by rw [e2]; exact hb⟩
  | nils => intro _; exact .nils
  | nilp => intro _; exact .nilp
  | fn hl h ih => intro hc; cases hc with | fn h' => exact .fn hl fun i d v hd hv => ih i d v hd hv (h' d (List.mem_of_getElem? hd))
  | nilf => intro _; exact .nilf
  | iface h ih => intro hc; cases hc with | iface h' => exact .iface (ih h')
  | nili => intro _; exact .nili
  | mp _ _ => intro hc; cases hc
  | it _ _ => intro hc; cases hc
  | yld _ _ => intro hc; cases hc
  | emp => intro _; exact .emp
  | undef => intro _; exact .undef
  | skip => intro _; exact .skip

/-- The one object there is, lent. -/
theorem Ok.lend {P : Program} {f : FuncId} {t c : Nat} {xs : List DV} {o : DV} {σ2 σ3 : List Ob} {K : Nat → Prop} (hN : 0 < xs.length) (hs : ∀ x ∈ xs, ∃ k n, x = .int k n)
    (h : Ok P f [.vec c 1 xs] [.dead] (.ret o) σ2) (h3 : σ3[0]? = some (.arr t 1 xs)) (hK0 : ¬ K 0) (hlen : σ3.length = σ2.length)
    (hk : ∀ id, K id → ∀ x, σ3[id]? = some x → x = .dead)
    (hk' : ∀ id, ¬ K id → id ≠ 0 → ∀ x, σ3[id]? = some x → σ2[id]? = some x ∧ ((∃ t k ys, x = .arr t k ys ∧ ∀ y ∈ ys, Cl c K y) ∨ x = .dead))
    (ho : Cl c K o) : Ok P f [.sl 0 xs.length 0 xs.length] [.arr t 1 xs] (.ret o) σ3 := by
  refine ⟨h.enters, fun w F μ vs hr hv => ?_⟩
  obtain ⟨hl, hv⟩ := hv
  obtain ⟨v, rfl⟩ : ∃ v, vs = [v] := by
    cases vs with
    | nil => cases hl
    | cons v r => cases r with
      | nil => exact ⟨v, rfl⟩
      | cons => simp at hl
  have hv0 := hv 0 _ v rfl rfl
  have hob := hr.obj 0 _ rfl
  obtain ⟨hcl, hob⟩ := hob
  rcases hob with ⟨h0, _⟩ | ⟨b, cur, fr, hb, hheap, hfr, hcur⟩
  · rw [h0] at hN; exact absurd hN (Nat.lt_irrefl 0)
  have hno : ∀ x ∈ xs, NoId 0 x := by
    intro x hx
    obtain ⟨k, n, rfl⟩ := hs x hx
    exact (noId_int k n).2 trivial
  obtain ⟨k1, k2, _⟩ := hr.kill c (id := 0) (t := t) (k := 1) (xs := xs) rfl hno
  have ev : fz 0 xs.length (asVec c 1 xs) (.sl 0 xs.length 0 xs.length) = .vec c 1 xs := by
    simp only [fz, if_true, asVec, List.drop_zero, List.take_length]
  have kv := k2 _ v hv0
  rw [ev] at kv
  refine (h.calls w _ _ [v] k1 ⟨rfl, fun i d u hd hu => ?_⟩).mono ?_
  · cases i with
    | zero =>
      simp only [List.getElem?_cons_zero, Option.some.injEq] at hd hu
      rw [← hd, ← hu]; exact kv
    | succ i => simp at hd
  rintro e w' ⟨F2, μ2, u, haf, he, hu⟩
  have hF1 : frozenIn F c (μ 0) c b := .inr ⟨rfl, hb⟩
  have hblk : w'.heap[b]? = w.heap[b]? := haf.step.imm c b hF1
  have hF2 : F2 c b := haf.step.col c b hF1
  have hbw := hr.lt 0 b hb
  have honly : ∀ c', F2 c' b → c' = c := by
    intro c' h'
    rcases haf.col c' b h' with h' | h'
    · rcases h' with h' | h'
      · exact absurd hb ((hr.col c' b h').2 0)
      · exact h'.1
    · omega
  obtain ⟨F3, hF3⟩ : ∃ F3 : Nat → Nat → Prop, F3 = fun c' b' => F2 c' b' ∧ b' ≠ b := ⟨_, rfl⟩
  obtain ⟨D, hD⟩ : ∃ D : Nat → Bool, ∀ id, D id = true ↔ K id := by
    classical exact ⟨fun id => decide (K id), fun id => by simp⟩
  obtain ⟨μ3, hμ3⟩ : ∃ μ3 : Nat → Option Nat, μ3 = fun id => if id = 0 then some b else if D id = true then none else μ2 id := ⟨_, rfl⟩
  have m0 : μ3 0 = some b := by rw [hμ3]; rfl
  have mk : ∀ id, K id → id ≠ 0 → μ3 id = none := fun id hk h0 => by rw [hμ3]; simp only [if_neg h0, if_pos ((hD id).2 hk)]
  have mn : ∀ id, ¬ K id → id ≠ 0 → μ3 id = μ2 id := fun id hk h0 => by rw [hμ3]; simp only [if_neg h0, if_neg (fun e => hk ((hD id).1 e))]
  have dead0 : ∀ o', σ2[0]? = some o' → o' = .dead := by
    intro o' h'
    obtain ⟨o'', e1, e2⟩ := haf.step.ext 0 .dead rfl
    rw [h'] at e1
    cases e1
    exact e2
  have hσ : ∀ (id t k : Nat) (ys : List DV), ¬ K id → σ2[id]? = some (.arr t k ys) → σ3[id]? = some (.arr t k ys) ∧ μ3 id = μ2 id := by
    intro id t k ys hk h2
    have h0 : id ≠ 0 := by rintro rfl; cases dead0 _ h2
    have hlt := (List.getElem?_eq_some_iff.1 h2).1
    have e3 : σ3[id]? = some (σ3[id]'(by omega)) := List.getElem?_eq_getElem _
    have := (hk' id hk h0 _ e3).1
    rw [h2] at this
    rw [e3, ← this]
    exact ⟨rfl, mn id hk h0⟩
  have back : ∀ d v, Cl c K d → Rep w' F2 μ2 σ2 d v → Rep w' F3 μ3 σ3 d v := fun d v hc hd => Rep.back (fun c' b' hne hb' => by
    rw [hF3]
    exact ⟨hb', fun e => hne (honly c' (e ▸ hb'))⟩) hσ hd hc
  refine ⟨F3, μ3, u, ⟨⟨?_, ?_, ?_, ?_, ?_⟩, ⟨?_, ?_, ?_, ?_, ?_⟩, ?_, ?_⟩, he, back _ _ ho hu⟩
  · intro id x hx
    by_cases h0 : id = 0
    · subst h0
      rw [h3] at hx
      cases hx
      refine ⟨hcl, .inr ⟨b, cur, fr, m0, hblk.trans hheap, hfr, fun j i x d hj hi => ?_⟩⟩
      obtain ⟨v, e1, e2⟩ := hcur j i x d hj hi
      refine ⟨v, e1, ?_⟩
      obtain ⟨k, n, rfl⟩ := hs x (List.mem_of_getElem? hj)
      cases i with
      | zero =>
        simp only [DV.cells, List.getElem?_cons_zero, Option.some.injEq] at hi
        subst hi
        cases e2
        exact .int
      | succ i => simp [DV.cells] at hi
    · by_cases hK : K id
      · rw [hk id hK x hx]
        exact mk id hK h0
      · obtain ⟨g1, g2⟩ := hk' id hK h0 x hx
        have hx2 := haf.hr.obj id x g1
        rcases g2 with ⟨t', k', ys, rfl, hys⟩ | rfl
        · obtain ⟨q1, q2⟩ := hx2
          refine ⟨q1, ?_⟩
          rw [mn id hK h0]
          rcases q2 with q2 | ⟨b', cur', fr', q3, q4, q5, q6⟩
          · exact .inl q2
          · refine .inr ⟨b', cur', fr', q3, q4, q5, fun j i x d hj hi => ?_⟩
            obtain ⟨v, e1, e2⟩ := q6 j i x d hj hi
            exact ⟨v, e1, back _ _ ((hys x (List.mem_of_getElem? hj)).cells hi) e2⟩
        · exact (mn id hK h0).trans hx2
  · intro id hid
    have h0 : id ≠ 0 := by
      rintro rfl
      rw [List.getElem?_eq_none hid] at h3
      cases h3
    by_cases hK : K id
    · exact mk id hK h0
    · rw [mn id hK h0]
      exact haf.hr.out id (by omega)
  · intro i j b' hi hj
    have key : ∀ i, i ≠ 0 → μ3 i = some b' → μ2 i = some b' := by
      intro i h0 hi
      by_cases hK : K i
      · rw [mk i hK h0] at hi; cases hi
      · rw [mn i hK h0] at hi; exact hi
    have nob : ∀ i, i ≠ 0 → μ3 i = some b → False := by
      intro i h0 hi
      by_cases hK : K i
      · rw [mk i hK h0] at hi; cases hi
      · rw [mn i hK h0] at hi; exact (haf.hr.col c b hF2).2 i hi
    by_cases h0 : i = 0
    · subst h0
      rw [m0] at hi
      cases hi
      by_cases h0 : j = 0
      · exact h0.symm
      · exact (nob j h0 hj).elim
    · by_cases h1 : j = 0
      · subst h1
        rw [m0] at hj
        cases hj
        exact (nob i h0 hi).elim
      · exact haf.hr.inj i j b' (key i h0 hi) (key j h1 hj)
  · intro id b' hid
    by_cases h0 : id = 0
    · subst h0
      rw [m0] at hid
      cases hid
      exact Nat.lt_of_lt_of_le hbw haf.fr.size
    · by_cases hK : K id
      · rw [mk id hK h0] at hid; cases hid
      · rw [mn id hK h0] at hid; exact haf.hr.lt id b' hid
  · intro c' b' hc
    rw [hF3] at hc
    refine ⟨(haf.hr.col c' b' hc.1).1, fun id hid => ?_⟩
    by_cases h0 : id = 0
    · subst h0
      rw [m0] at hid
      cases hid
      exact hc.2 rfl
    · by_cases hK : K id
      · rw [mk id hK h0] at hid; cases hid
      · rw [mn id hK h0] at hid; exact (haf.hr.col c' b' hc.1).2 id hid
  · exact fun c' b' hc => haf.step.imm c' b' (.inl hc)
  · intro c' b' hc
    rw [hF3]
    exact ⟨haf.step.col c' b' (.inl hc), by rintro rfl; exact (hr.col c' _ hc).2 0 hb⟩
  · intro id x hx
    cases id with
    | zero =>
      simp only [List.getElem?_cons_zero, Option.some.injEq] at hx
      subst hx
      exact ⟨_, h3, xs, rfl, Nat.le_refl _⟩
    | succ id => simp at hx
  · intro id t' k' ys zs hy hz he
    cases id with
    | zero =>
      refine ⟨m0.trans hb.symm, fun b' cur' fr' hb' hc' => ?_⟩
      rw [hb] at hb'
      cases hb'
      exact ⟨cur', fr', hblk.trans hc', rfl⟩
    | succ id => simp at hy
  · intro id t' ds hy
    cases id with
    | zero => simp at hy
    | succ id => simp at hy
  · refine ⟨haf.fr.os, haf.fr.tape, haf.fr.output, haf.fr.size, fun b' hb' hn => haf.fr.keep b' hb' fun id e => ?_, fun id b' hid => ?_, haf.fr.drawn⟩
    · simp only [without] at e
      split at e
      · cases e
      · exact hn id e
    · by_cases h0 : id = 0
      · subst h0
        rw [m0] at hid
        cases hid
        exact .inl hb
      · by_cases hK : K id
        · rw [mk id hK h0] at hid; cases hid
        · rw [mn id hK h0] at hid
          rcases haf.fr.new id b' hid with e | e
          · simp only [without] at e
            split at e
            · cases e
            · exact .inl e
          · exact .inr e
  · intro c' b' hc
    rw [hF3] at hc
    rcases haf.col c' b' hc.1 with e | e
    · rcases e with e | ⟨_, e⟩
      · exact .inl e
      · rw [hb] at e
        cases e
        exact absurd rfl hc.2
    · exact .inr e
end Go.VL
end
