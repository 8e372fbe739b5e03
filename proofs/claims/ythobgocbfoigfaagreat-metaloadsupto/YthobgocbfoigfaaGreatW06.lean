/- Proved: MetaLoads: whatever items and data come in (together of bulk at most 1048576), the call returns true and they read as they did; no other condition. This text is part 6 of 15. -/
import Derived.Test.YthobgocbfoigfaaGreatW05
section
set_option linter.unusedVariables false
set_option linter.unusedSimpArgs false
namespace Go.VL
open Go

theorem draw_any2 {C : Ctx} {L : Lay} (hL : LayOk C.P L) {ops : Array Oper} {φ : List (List Ob)} {a : Nat} {I : List DI} {K : XE → St → Prop} {E : Nat → List (Nat × DV)} {ds : Nat → DV}
    (hsz : ops.size = I.length) (hdst0 : ∀ i, dstAt ops i = (I.getD i .none).dst) (hdir0 : ∀ i, dirs ops i = (I.getD i .none).dir) (hB : drawA I C.n a = true)
    (hE : ∀ k, k < ops.size → E (k + 1) = upo (E k) (dstAt ops k) (ds k) ∧ (isAl L ops φ a I ds k ∨ isRet2 C ops φ a I E ds k ∨ isPan2 C ops φ a I K (E 0) E k))
    (hK : K .normal ⟨E ops.size, φ.getD (nEff I (fun _ => true) ops.size) []⟩ ∨ ∃ k, k < ops.size ∧ isPan2 C ops φ a I K (E 0) E k) :
    ∀ (fuel : Nat) (listed : Array Bool) (act : Act) (w : World), listed.size = ops.size →
      (∀ i, i < ops.size → listed.getD i false = true → (∀ j ∈ (I.getD i .none).pre, listed.getD j false = true) ∧ ¬ isPan2 C ops φ a I K (E 0) E i) →
      cnt (fun i => listed.getD i false) ops.size ≤ fuel →
      (∃ env F μ, Rel0 C F μ ⟨env, φ.getD (nEff I (vis I (fun i => listed.getD i false) a) ops.size) []⟩ act w ∧
        (∀ t, (pend I (fun i => listed.getD i false) a → dstAt ops a ≠ some t) → lk env t = vAt ops (E 0) ds (vis I (fun i => listed.getD i false) a) ops.size t) ∧
        (pend I (fun i => listed.getD i false) a → ∃ t ti, (∃ o, ops[a]? = some o ∧ o.op = .alloc t) ∧ L t = some ti ∧ PendOk C (dstAt ops a) t ti F μ act w)) →
      wpAnyIn C.fe 0 C.P .any ops (Post C K) fuel listed act w := by
  simp only [drawA, List.all_eq_true, List.mem_range, Bool.and_eq_true] at hB
  rw [← hsz] at hB
  have hdstf : (fun i => (I.getD i .none).dst) = dstAt ops := by funext i; exact (hdst0 i).symm
  have hdirf : (fun i => (I.getD i .none).dir) = dirs ops := by funext i; exact (hdir0 i).symm
  rw [hdstf, hdirf] at hB
  have hdirs : ∀ i, i < ops.size → ∀ j ∈ dirs ops i, j < i := fun i hi j hj => by
    have := (hB i hi).1.1.1.1
    simp only [preB, Bool.and_eq_true, List.all_eq_true, decide_eq_true_eq] at this
    exact this.1 j hj
  have hprelt : ∀ i, i < ops.size → ∀ j ∈ (I.getD i .none).pre, j < i := fun i hi j hj => by
    have := (hB i hi).1.1.1.1
    simp only [preB, Bool.and_eq_true, List.all_eq_true, decide_eq_true_eq] at this
    exact (this.2 j hj).1
  have hpre : ∀ i, i < ops.size → ∀ j ∈ (I.getD i .none).pre, j ∈ dirs ops i ∨ ∃ k ∈ dirs ops i, j ∈ (I.getD k .none).pre := fun i hi j hj => by
    have := (hB i hi).1.1.1.1
    simp only [preB, Bool.and_eq_true, List.all_eq_true, decide_eq_true_eq, Bool.or_eq_true, List.any_eq_true, List.contains_iff_mem] at this
    exact (this.2 j hj).2
  have hlon : ∀ i, i < ops.size → a ∈ (I.getD i .none).pre → ∀ j, j < a → (I.getD j .none).eff = true → j ∈ (I.getD i .none).pre := fun i hi hia j hj he => by
    have hlt := hprelt i hi a hia
    have := (hB i hi).1.2
    simp only [lonA, Bool.or_eq_true, Nat.ble_eq, List.all_eq_true, List.mem_range, List.contains_iff_mem, Bool.not_eq_true', List.contains_eq_mem, decide_eq_false_iff_not, decide_eq_true_eq] at this
    rcases this with (h | h) | h
    · omega
    · exact absurd hia h
    · rcases h j hj with h | h
      · rw [he] at h; cases h
      · exact h
  have hpair : ∀ i j, j < i → i < ops.size → (rdDst (dstAt ops j) (I.getD i .none).rd = true ∨ rdDst (dstAt ops i) (I.getD j .none).rd = true ∨ sameDst (dstAt ops j) (dstAt ops i) = true ∨ ((I.getD i .none).eff = true ∧ (I.getD j .none).eff = true ∧ i ≠ a)) → j ∈ (I.getD i .none).pre := fun i j hj hi h => by
    have := (hB i hi).2 j hj
    simp only [pairA, Bool.or_eq_true, Bool.not_eq_true', Bool.or_eq_false_iff, Bool.and_eq_false_iff, List.contains_iff_mem] at this
    rcases this with ⟨⟨⟨h1, h2⟩, h3⟩, h4⟩ | h
    · rcases h with h | h | h | ⟨h, h', hne⟩
      · rw [h1] at h; cases h
      · rw [h2] at h; cases h
      · rw [h3] at h; cases h
      · rcases h4 with (h4 | h4) | h4
        · rw [h4] at h; cases h
        · rw [h4] at h'; cases h'
        · simp only [Bool.not_eq_false', Nat.beq_eq_true_eq] at h4
          exact absurd (Nat.eq_of_beq_eq_true h4) hne
    · exact h
  have hdst : ∀ i, i < ops.size → ∀ t, dstAt ops i = some t → t < C.n := fun i hi t ht => by
    have := (hB i hi).1.1.2
    simp only [dstB, ht, decide_eq_true_eq] at this
    exact this
  have post : ∀ (listed : Array Bool) (act : Act) (w : World),
      (∀ i, i < ops.size → listed.getD i false = true → (∀ j ∈ (I.getD i .none).pre, listed.getD j false = true) ∧ ¬ isPan2 C ops φ a I K (E 0) E i) →
      (∃ env F μ, Rel0 C F μ ⟨env, φ.getD (nEff I (vis I (fun i => listed.getD i false) a) ops.size) []⟩ act w ∧
        (∀ t, (pend I (fun i => listed.getD i false) a → dstAt ops a ≠ some t) → lk env t = vAt ops (E 0) ds (vis I (fun i => listed.getD i false) a) ops.size t)) →
      (∀ i, i < ops.size → listed.getD i false = true) → listed.size = ops.size → Post C K .normal act w := by
    intro listed act w hinv ⟨env, F, μ, hrel, henv⟩ hall hls
    have hal : ∀ j, j < ops.size → vis I (fun i => listed.getD i false) a j = true := fun j hj => by
      by_cases hja : j = a
      · subst hja
        rw [vis_at, hall j hj, Bool.true_and]
        exact below_iff.2 fun k hk _ => hall k (by omega)
      · rw [vis_ne hja]; exact hall j hj
    have hnp : ¬ pend I (fun i => listed.getD i false) a := by
      rintro ⟨h1, h2⟩
      have ha : a < ops.size := by
        rcases Nat.lt_or_ge a ops.size with h | h
        · exact h
        · dsimp only at h1
          rw [Array.getD_eq_getD_getElem?, Array.getElem?_eq_none (by omega)] at h1
          cases h1
      have := hal a ha
      rw [vis_at, h2, Bool.and_false] at this
      cases this
    rcases hK with hK | ⟨k, hk, hp⟩
    · refine ⟨_, hK, Rel.weak ⟨F, μ, hrel⟩ ⟨?_, fun t => .inr ?_⟩⟩
      · dsimp only
        rw [nEff_congr (f := vis I (fun i => listed.getD i false) a) (g := fun _ => true) _ fun j hj _ => hal j hj]
      · dsimp only
        rw [henv t (fun h => absurd h hnp), vAt_congr (g := fun _ => true) _ fun j hj _ => hal j hj]
        exact (vAt_all rfl _ (fun k hk => (hE k hk).1) t).symm
    · exact absurd hp (hinv k hk (hall k hk)).2
  intro fuel
  induction fuel with
  | zero =>
    intro listed act w hs hinv hc hrel
    have hall := cnt_zero ops.size (by omega : cnt (fun i => listed.getD i false) ops.size = 0)
    obtain ⟨env, F, μ, h1, h2, _⟩ := hrel
    refine ⟨List.eq_nil_iff_forall_not_mem.2 fun i hi => ?_, post listed act w hinv ⟨env, F, μ, h1, h2⟩ hall hs⟩
    obtain ⟨h1, h2, _⟩ := mem_ready.1 hi
    have := hall i h1
    rw [getD_any (by omega) true false] at h2
    rw [h2] at this
    cases this
  | succ fuel ih =>
    intro listed act w hs hinv hc hrel
    obtain ⟨env, F, μ, hr, henv, hpd⟩ := hrel
    refine ⟨fun hrd => post listed act w hinv ⟨env, F, μ, hr, henv⟩ ?_ hs, fun i hi => ?_⟩
    · intro i
      induction i using Nat.strongRecOn with
      | _ i ihi =>
        intro hlt
        cases hf : listed.getD i false with
        | true => rfl
        | false =>
          have hmem : i ∈ Region.ready .any ops listed := by
            refine mem_ready.2 ⟨hlt, by rw [getD_any (by omega) true false]; exact hf, ops[i], Array.getElem?_eq_getElem hlt, fun e he hb => ?_⟩
            have hd : e.on ∈ dirs ops i := by
              simp only [dirs, dirsO, Array.getElem?_eq_getElem hlt]
              exact List.mem_map.2 ⟨e, List.mem_filter.2 ⟨he, hb⟩, rfl⟩
            exact ihi e.on (hdirs i hlt _ hd) (Nat.lt_trans (hdirs i hlt _ hd) hlt)
          rw [hrd] at hmem
          cases hmem
    · obtain ⟨hlt, hl, o, ho, haft⟩ := mem_ready.1 hi
      rw [getD_any (by omega) true false] at hl
      obtain ⟨f, hf⟩ : ∃ f : Nat → Bool, f = fun i => listed.getD i false := ⟨_, rfl⟩
      have hfe : ∀ k, listed.getD k false = f k := fun k => by rw [hf]
      rw [← hf] at hr henv hpd hc
      have hlf : f i = false := by rw [← hfe]; exact hl
      have hinvf : ∀ i, i < ops.size → f i = true → (∀ j ∈ (I.getD i .none).pre, f j = true) ∧ ¬ isPan2 C ops φ a I K (E 0) E i := fun i hi h => by
        have := hinv i hi (by rw [hfe]; exact h)
        exact ⟨fun j hj => by rw [← hfe]; exact this.1 j hj, this.2⟩
      have hfout : ∀ k, ops.size ≤ k → f k = false := fun k hk => by
        rw [← hfe, Array.getD_eq_getD_getElem?, Array.getElem?_eq_none (by omega)]; rfl
      have hdl : ∀ j ∈ dirs ops i, f j = true := by
        intro j hj
        simp only [dirs, dirsO, ho] at hj
        obtain ⟨e, he, rfl⟩ := List.mem_map.1 hj
        obtain ⟨he, hb⟩ := List.mem_filter.1 he
        rw [← hfe]
        exact haft e he hb
      have hpl : ∀ j ∈ (I.getD i .none).pre, f j = true := by
        intro j hj
        rcases hpre i hlt j hj with h | ⟨k, hk, h⟩
        · exact hdl j h
        · exact (hinvf k (Nat.lt_trans (hdirs i hlt k hk) hlt) (hdl k hk)).1 j h
      have hlate : ∀ j, j < ops.size → i ∈ (I.getD j .none).pre → f j = false := by
        intro j hj hm
        cases hf : f j with
        | false => rfl
        | true =>
          have := (hinvf j hj hf).1 i hm
          rw [hlf] at this
          cases this
      have hda : dstAt ops i = o.dst := by simp [dstAt, ho]
      -- what is ahead in every order is seen
      have hplv : ∀ j ∈ (I.getD i .none).pre, vis I f a j = true := by
        intro j hj
        by_cases hja : j = a
        · subst hja
          rw [vis_at, hpl j hj, Bool.true_and]
          exact below_iff.2 fun k hk he => hpl k (hlon i hlt hj k hk he)
        · rw [vis_ne hja]; exact hpl j hj
      have hrd : ∀ t ∈ (I.getD i .none).rd, lk env t = lk (E i) t := by
        intro t ht
        have hnp : pend I f a → dstAt ops a ≠ some t := by
          rintro ⟨p1, p2⟩ hda
          have ha : a < ops.size := by
            rcases Nat.lt_or_ge a ops.size with h | h
            · exact h
            · rw [hfout a h] at p1; cases p1
          rcases Nat.lt_trichotomy i a with h | h | h
          · have := (hinvf a ha p1).1 i (hpair a i h ha (.inr (.inl (by simp only [rdDst, hda]; exact List.contains_iff_mem.2 ht))))
            rw [hlf] at this; cases this
          · subst h; rw [hlf] at p1; cases p1
          · have hap := hpair i a h hlt (.inl (by simp only [rdDst, hda]; exact List.contains_iff_mem.2 ht))
            have : below I f a = true := below_iff.2 fun k hk he => hpl k (hlon i hlt hap k hk he)
            rw [p2] at this; cases this
        rw [henv t hnp, vAt_cut (i := i) _ (by omega), vAt_congr (g := fun _ => true), vAt_all rfl _ fun k hk => (hE k (by omega)).1]
        · intro j hj hd
          exact hplv j (hpair i j hj hlt (.inl (by simp only [rdDst, hd]; exact List.contains_iff_mem.2 ht)))
        · intro j hj hj' hd
          rcases Nat.eq_or_lt_of_le hj with rfl | hj
          · exact vis_not hlf
          · exact vis_not (hlate j hj' (hpair j i hj hj' (.inr (.inl (by simp only [rdDst, hd]; exact List.contains_iff_mem.2 ht)))))
      have hw : Weak ⟨env, φ.getD (nEff I (vis I f a) ops.size) []⟩ ⟨rst (E i) (I.getD i .none).rd, φ.getD (nEff I (vis I f a) ops.size) []⟩ :=
        Weak.of_agree rfl (agree_of hrd)
      have hr2 := hr.weak hw
      have heff : (I.getD i .none).eff = true → (i = a → below I f a = true) → nEff I (vis I f a) ops.size = nEff I (fun _ => true) i := by
        intro he hia
        refine nEff_at _ (by omega) (fun j hj hej => ?_) fun j hj hj' hej => ?_
        · by_cases hi : i = a
          · subst hi
            rw [vis_ne (by omega)]
            exact below_iff.1 (hia rfl) j hj hej
          · exact hplv j (hpair i j hj hlt (.inr (.inr (.inr ⟨he, hej, hi⟩))))
        · rcases Nat.eq_or_lt_of_le hj with rfl | hj
          · exact vis_not hlf
          · by_cases hja : j = a
            · subst hja
              rw [vis_at]
              have : below I f j = false := by
                cases hb : below I f j with
                | false => rfl
                | true => have := below_iff.1 hb i hj he; rw [hlf] at this; cases this
              rw [this, Bool.and_false]
            · exact vis_not (hlate j hj' (hpair j i hj hj' (.inr (.inr (.inr ⟨hej, he, hja⟩)))))
      have hd0 : ∀ t, o.dst = some t → t < C.n := fun t ht => hdst i hlt t (hda.trans ht)
      obtain ⟨f', hf'⟩ : ∃ f' : Nat → Bool, f' = fun k => decide (k = i) || f k := ⟨_, rfl⟩
      have hget : (fun k => (listed.setIfInBounds i true).getD k false) = f' := by
        rw [hf']
        funext k
        simp only [Array.getD_eq_getD_getElem?, Array.getElem?_setIfInBounds]
        by_cases hk : i = k
        · subst hk
          simp [hs, hlt]
        · rw [← hfe k, Array.getD_eq_getD_getElem?]
          simp [hk, show ¬ k = i from fun e => hk e.symm]
      have hf'i : f' i = true := by rw [hf']; simp
      have hf'k : ∀ k, k ≠ i → f' k = f k := fun k hk => by rw [hf']; simp [hk]
      have hbel : below I f a = true → below I f' a = true := fun h => below_iff.2 fun k hk he => by
        by_cases hki : k = i
        · rw [hki]; exact hf'i
        · rw [hf'k k hki]; exact below_iff.1 h k hk he
      -- the last part of a step
      have last : ∀ (act' : Act) (w' : World), ¬ isPan2 C ops φ a I K (E 0) E i →
          (∃ env F μ, Rel0 C F μ ⟨env, φ.getD (nEff I (vis I f' a) ops.size) []⟩ act' w' ∧
            (∀ t, (pend I f' a → dstAt ops a ≠ some t) → lk env t = vAt ops (E 0) ds (vis I f' a) ops.size t) ∧
            (pend I f' a → ∃ t ti, (∃ o, ops[a]? = some o ∧ o.op = .alloc t) ∧ L t = some ti ∧ PendOk C (dstAt ops a) t ti F μ act' w')) →
          wpAnyIn C.fe 0 C.P .any ops (Post C K) fuel (listed.setIfInBounds i true) act' w' := by
        intro act' w' hnp h
        refine ih _ _ _ (by simp [hs]) ?_ ?_ (by rw [hget]; exact h)
        · intro k hk hfk
          have e : ∀ k, (listed.setIfInBounds i true).getD k false = f' k := fun k => congrFun hget k
          rw [e] at hfk
          by_cases hki : k = i
          · subst hki
            refine ⟨fun j hj => ?_, hnp⟩
            rw [e]
            by_cases hjk : j = k
            · rw [hjk]; exact hf'i
            · rw [hf'k j hjk]; exact hpl j hj
          · rw [hf'k k hki] at hfk
            refine ⟨fun j hj => ?_, (hinvf k hk hfk).2⟩
            rw [e]
            by_cases hji : j = i
            · rw [hji]; exact hf'i
            · rw [hf'k j hji]; exact (hinvf k hk hfk).1 j hj
        · rw [hget, hf']
          have := cnt_set (f := f) hlf ops.size
          rw [if_pos hlt] at this
          omega
      have hveq : (i = a → below I f a = true) → (pend I f a → below I f' a = false) → vis I f' a = fun k => decide (k = i) || vis I f a k := by
        intro hia hpb
        funext k
        by_cases hka : k = a
        · subst hka
          rw [vis_at, vis_at]
          by_cases hki : k = i
          · rw [hki, hf'i]
            simp only [decide_true, Bool.true_or, Bool.true_and]
            rw [← hki]
            exact hbel (hia hki.symm)
          · rw [hf'k k hki]
            simp only [hki, decide_false, Bool.false_or]
            cases hfk : f k with
            | false => rfl
            | true =>
              simp only [Bool.true_and]
              cases hb : below I f k with
              | true => exact hbel hb
              | false => exact hpb ⟨hfk, hb⟩
        · rw [vis_ne hka, vis_ne hka, hf']
      have hpend : pend I f' a → (i = a → below I f a = true) → pend I f a ∧ below I f' a = false := by
        rintro ⟨h1, h2⟩ hia
        have hb : below I f a = false := by
          cases hb : below I f a with
          | false => rfl
          | true => rw [hbel hb] at h2; cases h2
        refine ⟨⟨?_, hb⟩, h2⟩
        by_cases hai : a = i
        · have := hia hai.symm
          rw [hb] at this; cases this
        · rwa [hf'k a hai] at h1
      -- what follows an operation that was done
      have next : ∀ (v : Value) (w' : World) (d : DV) (F' : Nat → Nat → Prop) (μ' : Nat → Option Nat), ¬ isPan2 C ops φ a I K (E 0) E i → (i = a → below I f a = true) → d = ds i →
          Rel0 C F' μ' ⟨upo env o.dst d, φ.getD (nEff I (fun k => decide (k = i) || vis I f a k) ops.size) []⟩ (act.put o.dst v) w' →
          (pend I f a → ∃ t ti, (∃ o, ops[a]? = some o ∧ o.op = .alloc t) ∧ L t = some ti ∧ PendOk C (dstAt ops a) t ti F' μ' (act.put o.dst v) w') →
          wpAnyIn C.fe 0 C.P .any ops (Post C K) fuel (listed.setIfInBounds i true) (act.put o.dst v) w' := by
        rintro v w' _ F' μ' hnp hia rfl hrel' hpd'
        refine last _ _ hnp ?_
        have hset : ∀ t, (pend I f a → dstAt ops a ≠ some t) → lk (upo env o.dst (ds i)) t = vAt ops (E 0) ds (fun k => decide (k = i) || vis I f a k) ops.size t := by
          intro t ht
          rw [vAt_set _ hlt (fun j hj hj' hd hd' => vis_not (hlate j hj' (hpair j i hj hj' (.inr (.inr (.inl (by simp only [sameDst, hd', hd]; exact beq_self_eq_true _))))))), lk_upo, hda, henv t ht]
        by_cases hpb : pend I f a ∧ below I f' a = true
        · -- the allocation's block becomes an object
          obtain ⟨hp, hb'⟩ := hpb
          have ha : a < ops.size := by
            rcases Nat.lt_or_ge a ops.size with h | h
            · exact h
            · have h9 := hp.1; rw [hfout a h] at h9; cases h9
          have hia' : i ≠ a := fun e => by rw [e] at hlf; rw [hp.1] at hlf; cases hlf
          have hila : i < a ∧ (I.getD i .none).eff = true := by
            cases hb0 : below I f a with
            | true => rw [hp.2] at hb0; cases hb0
            | false =>
              refine Decidable.byContradiction fun hcon => ?_
              have : below I f a = true := below_iff.2 fun k hk he => by
                have := below_iff.1 hb' k hk he
                rwa [hf'k k (fun e => hcon ⟨by omega, by rw [← e]; exact he⟩)] at this
              rw [hb0] at this; cases this
          have hlate2 : ∀ j, j < ops.size → a ∈ (I.getD j .none).pre → f j = false := fun j hj haj => hlate j hj (hlon j hj haj i hila.1 hila.2)
          obtain ⟨_, hal⟩ := hE a ha
          have hal : isAl L ops φ a I ds a := by
            rcases hal with h | h | h
            · exact h
            · exact absurd rfl h.1
            · exact absurd rfl h.1
          obtain ⟨_, oa, t, ti, ho', hgn, hop, ht, hk, he, hφ, hds⟩ := hal
          obtain ⟨t2, ti2, ⟨o2, ho2, hop2⟩, ht2, hpk⟩ := hpd' hp
          rw [ho'] at ho2; cases ho2
          rw [hop] at hop2; cases hop2
          rw [ht] at ht2; cases ht2
          obtain ⟨b, z, z1, z2, z3, z4, z5, z6, z7⟩ := hpk
          have hvis' : vis I f' a = fun k => decide (k = a) || (decide (k = i) || vis I f a k) := by
            funext k
            by_cases hka : k = a
            · subst hka
              rw [vis_at, hb', hf'k k (fun e => hia' e.symm), hp.1]
              simp
            · rw [vis_ne hka, vis_ne hka, hf']
              simp [hka]
          have hca : (decide (a = i) || vis I f a a) = false := by
            rw [vis_at, hp.2]
            simp only [Bool.and_false, Bool.or_false, decide_eq_false_iff_not]
            exact fun e => hia' e.symm
          have hph : nEff I (fun k => decide (k = i) || vis I f a k) ops.size = nEff I (fun _ => true) a := by
            refine nEff_at _ (by omega) (fun j hj hej => ?_) fun j hj hj' hej => ?_
            · have hjf := below_iff.1 hb' j hj hej
              by_cases hji : j = i
              · simp [hji]
              · rw [hf'k j hji] at hjf
                rw [vis_ne (by omega), hjf]
                simp
            · rcases Nat.eq_or_lt_of_le hj with rfl | hj
              · exact hca
              · have := hila.1
                rw [vis_ne (by omega), hlate2 j hj' (hpair j a hj hj' (.inr (.inr (.inr ⟨hej, he, by omega⟩))))]
                have : j ≠ i := by omega
                simp [this]
          have hadd : nEff I (vis I f' a) ops.size = nEff I (fun _ => true) a + 1 := by
            rw [hvis', nEff_set (f := fun k => decide (k = i) || vis I f a k) hca, if_pos ⟨he, ha⟩, hph]
          rw [hph] at hrel'
          obtain ⟨g1, g2⟩ := hrel'.hr.adopt (t := t) (k := ti.k) (xs := [ti.zero]) z4 (.zero _) z6 z7 (by simpa using hk) (fun j i y d hy hd => by
            cases j with
            | zero =>
              simp only [List.getElem?_cons_zero, Option.some.injEq] at hy
              subst hy
              simp only [Nat.zero_mul, Nat.zero_add]
              exact rep_cells' (by rw [← z1]; exact rep_ofVal z) (by rw [z2, hk]) i d hd
            | succ j => simp at hy)
          dsimp only at g1 g2
          rw [← hφ] at g1 g2
          rw [hadd]
          refine ⟨upo (upo env o.dst (ds i)) (dstAt ops a) (ds a), F', grow μ' (φ.getD (nEff I (fun _ => true) a) []).length b, ⟨g1, fun s => ?_, hrel'.step.trans g2, hrel'.fr.adopt z5, hrel'.col, hrel'.size, DefRep.step g2 hrel'.defers⟩, fun s _ => ?_, fun hp' => ?_⟩
          · dsimp only
            rw [lk_upo]
            split
            · rename_i hs
              rw [z3 s hs, hds, hφ]
              refine .ptr ⟨t, ti.k, [ti.zero], by simp, by simp, fun _ => ⟨b, by simp [grow], by simp⟩⟩
            · exact (hrel'.env s).step g2
          · rw [lk_upo, hvis', vAt_set (f := fun k => decide (k = i) || vis I f a k) _ ha (fun j hj hj' hd1 hd2 => ?_)]
            · split
              · rfl
              · rename_i hs
                exact hset s fun _ => hs
            · have := hila.1
              rw [vis_ne (by omega), hlate2 j hj' (hpair j a hj hj' (.inr (.inr (.inl (by simp only [sameDst, hd1, hd2]; exact beq_self_eq_true _)))))]
              have : j ≠ i := by omega
              simp [this]
          · obtain ⟨_, h2⟩ := hp'
            rw [hb'] at h2; cases h2
        · have hpb' : pend I f a → below I f' a = false := fun h => by
            cases hb : below I f' a with
            | false => rfl
            | true => exact absurd ⟨h, hb⟩ hpb
          rw [hveq hia hpb']
          exact ⟨upo env o.dst (ds i), F', μ', hrel', fun t ht => hset t (fun h => by
            by_cases hai : a = i
            · have := hia hai.symm
              rw [h.2] at this; cases this
            · exact ht ⟨by rw [hf'k a hai]; exact h.1, hpb' h⟩), fun h => hpd' (hpend h hia).1⟩
      have hpa : ∀ {w' : World} {F' : Nat → Nat → Prop} {μ' : Nat → Option Nat} {σ' : List Ob} {v : Value}, After w F μ (φ.getD (nEff I (vis I f a) ops.size) []) w' F' μ' σ' →
          (pend I f a → ∃ t ti, (∃ o, ops[a]? = some o ∧ o.op = .alloc t) ∧ L t = some ti ∧ PendOk C (dstAt ops a) t ti F' μ' (act.put o.dst v) w') := by
        intro w' F' μ' σ' v haf hp
        obtain ⟨t, ti, h1, h2, h3⟩ := hpd hp
        refine ⟨t, ti, h1, h2, h3.after haf fun s hs hd => ?_⟩
        have ha : a < ops.size := by
          rcases Nat.lt_or_ge a ops.size with h | h
          · exact h
          · have h9 := hp.1; rw [hfout a h] at h9; cases h9
        rw [← hda] at hd
        rcases Nat.lt_trichotomy i a with h | h | h
        · have := (hinvf a ha hp.1).1 i (hpair a i h ha (.inr (.inr (.inl (by simp only [sameDst, hs, hd]; exact beq_self_eq_true _)))))
          rw [hlf] at this; cases this
        · subst h; have h9 := hp.1; rw [hlf] at h9; cases h9
        · have hap := hpair i a h hlt (.inr (.inr (.inl (by simp only [sameDst, hs, hd]; exact beq_self_eq_true _))))
          have : below I f a = true := below_iff.2 fun k hk he => hpl k (hlon i hlt hap k hk he)
          rw [hp.2] at this; cases this
      simp only [wpOpIn, ho]
      by_cases hia : i = a
      · -- the allocation
        have hal : isAl L ops φ a I ds i := by
          rcases (hE i hlt).2 with h | h | h
          · exact h
          · exact absurd hia h.1
          · exact absurd hia h.1
        obtain ⟨_, oa, t, ti, ho', hgn, hop, ht, hk, he, hφ, hds⟩ := hal
        obtain rfl : o = oa := Option.some.inj (ho.symm.trans ho')
        have hnp : ¬ isPan2 C ops φ a I K (E 0) E i := fun h => h.1 hia
        have hg : gd ops (rst (E i) (I.getD i .none).rd) o = some true := by unfold gd; rw [hgn]
        rw [if_pos (gd_wanted hr2 hg)]
        cases hb : below I f a with
        | true =>
          have hph := heff he fun _ => hb
          have hdo := OpDo.of_run (OpRun.alloc (P := C.P) (o := o) (st := ⟨rst (E i) (I.getD i .none).rd, φ.getD (nEff I (fun _ => true) i) []⟩) hL hop ht hk)
          rw [hph] at hr2
          have hr' := hr
          rw [hph] at hr'
          refine hdo C.rd act w F μ _ _ hr2.hr (rep_ev hr2) fun v w' F' μ' haf hrep => next v w' _ F' μ' hnp (fun _ => hb) hds.symm ?_ ?_
          · rw [nEff_set (f := vis I f a) (vis_not hlf), if_pos ⟨he, hlt⟩, hph, hφ]
            exact ⟨haf.hr, env_put (C := C) (st := ⟨env, φ.getD (nEff I (fun _ => true) i) []⟩) hr'.size (fun t => (hr'.env t).step haf.step) o.dst hd0 hrep, hr'.step.trans haf.step, hr'.fr.trans haf.fr,
              fun c b hb => (haf.col c b hb).elim (hr'.col c b) (fun q => .inr (Nat.le_trans hr'.fr.size q)), by rw [put_size]; exact hr'.size, by rw [put_defers]; exact hr'.defers.step haf.step⟩
          · intro hp
            rw [hp.2] at hb; cases hb
        | false =>
          obtain ⟨z, hz, hzs, hzo⟩ := (hL _ _ ht).zero w
          have hrun : (execOp act.eval o).run C.P w = .ok (.value (.pointer (some ⟨w.heap.size, 0, none⟩))) (w.alloc (.cells z.cells t)) := by
            simp only [execOp, hop, Instr.alloc, Sem.run_bind, hz, Result.andThen_ok, run_newVar, Sem.run_pure]
          obtain ⟨g1, g2, g3⟩ := hr.hr.garbage (.cells z.cells t)
          refine wpIn_of_wp (.inr fun c hc => by rw [hop] at hc; cases hc) ?_
          unfold Oper.wp
          rw [hrun]
          refine last _ _ hnp ?_
          have hfa : f a = false := by rw [← hia]; exact hlf
          have hb' : below I f' a = false := by
            cases hb' : below I f' a with
            | false => rfl
            | true =>
              have : below I f a = true := below_iff.2 fun k hk he => by
                have := below_iff.1 hb' k hk he
                rwa [hf'k k (by omega)] at this
              rw [hb] at this; cases this
          have hv : vis I f' a = vis I f a := by
            funext k
            by_cases hka : k = a
            · subst hka
              rw [vis_at, vis_at, hb', hb, Bool.and_false, Bool.and_false]
            · rw [vis_ne hka, vis_ne hka, hf'k k (by omega)]
          rw [hv]
          have hnpf : ¬ pend I f a := fun h => by rw [h.1] at hfa; cases hfa
          refine ⟨upo env o.dst .undef, F, μ, ⟨g1, env_put (C := C) (st := ⟨env, _⟩) hr.size (fun t => (hr.env t).step g2) o.dst hd0 .undef, hr.step.trans g2, hr.fr.trans g3, hr.col, by rw [put_size]; exact hr.size, by rw [put_defers]; exact hr.defers.step g2⟩, fun s hs => ?_, fun _ => ?_⟩
          · have hne := hs ⟨by rw [← hia]; exact hf'i, hb'⟩
            rw [← hia, hda] at hne
            rw [lk_upo_ne hne]
            exact henv s fun h => absurd h hnpf
          · refine ⟨t, ti, ⟨o, by rw [← hia]; exact ho, hop⟩, ht, w.heap.size, z, hzo, hzs, fun s hs => ?_, ?_, hr.fr.size, fun id e => ?_, fun c e => ?_⟩
            · rw [← hia, hda] at hs
              rw [put_getD, hs]
              dsimp only
              rw [if_pos ⟨rfl, by rw [hr.size]; exact hd0 s hs⟩]
            · rw [alloc_get, if_pos rfl]
            · have := hr.hr.lt _ _ e; omega
            · have := (hr.hr.col _ _ e).1; omega
      · by_cases hpan : isPan2 C ops φ a I K (E 0) E i
        · obtain ⟨_, o', d, ho', hg, he, hdo, hk⟩ := hpan
          obtain rfl : o = o' := Option.some.inj (ho.symm.trans ho')
          rw [if_pos (gd_wanted hr2 hg)]
          have hph := heff he fun h => absurd h hia
          rw [hph] at hr2
          refine (hdo C.rd act w F μ _ _ hr2.hr (rep_ev hr2) fun v w' F' μ' haf hrep => ?_)
          refine ⟨_, d, v, F', μ', hk, rfl, ⟨haf.hr, fun t => ?_, hr2.step.trans haf.step, hr2.fr.trans haf.fr,
            fun c b hb => (haf.col c b hb).elim (hr2.col c b) (fun q => .inr (Nat.le_trans hr2.fr.size q)), hr2.size, hr2.defers.step haf.step⟩, hrep⟩
          dsimp only
          unfold outs
          rw [lk_outs (f := notDst (ops.toList.map (·.dst)))]
          split
          · rename_i hnd
            have hno : ∀ j, j < ops.size → dstAt ops j ≠ some t := by
              intro j hj hd
              simp only [notDst, List.all_eq_true, List.mem_map, bne_iff_ne, ne_eq, forall_exists_index, and_imp, forall_apply_eq_imp_iff₂] at hnd
              refine hnd ops[j] (by simp) ?_
              simpa [dstAt, hj] using hd
            have h0 : lk env t = lk (E 0) t := by
              have ha' : pend I f a → dstAt ops a ≠ some t := by
                rintro ⟨p1, _⟩
                rcases Nat.lt_or_ge a ops.size with h | h
                · exact hno a h
                · rw [hfout a h] at p1; cases p1
              rw [henv t ha', vAt_cut (i := 0) _ (Nat.zero_le _) (fun j _ hj hd => absurd hd (hno j hj))]
              rfl
            rw [← h0]
            rw [hph] at hr
            exact (hr.env t).step haf.step
          · exact .undef
        · have hret : isRet2 C ops φ a I E ds i := by
            rcases (hE i hlt).2 with h | h | h
            · exact absurd h.1 hia
            · exact h
            · exact absurd h hpan
          obtain ⟨_, o', ho', hret⟩ := hret
          obtain rfl : o = o' := Option.some.inj (ho.symm.trans ho')
          rcases hret with ⟨hg, hd, he⟩ | ⟨hg, he, hdo⟩ | ⟨hg, he, hdo⟩
          · rw [if_neg (by rw [gd_wanted hr2 hg]; simp)]
            refine ⟨fun _ _ => trivial, ?_⟩
            refine next undef w .skip F μ hpan (fun h => absurd h hia) hd.symm ?_ ?_
            · have hoo : φ.getD (nEff I (fun k => decide (k = i) || vis I f a k) ops.size) [] = φ.getD (nEff I (vis I f a) ops.size) [] := by
                rw [nEff_set (f := vis I f a) (vis_not hlf)]
                cases hq : (I.getD i .none).eff with
                | false => simp
                | true => rw [if_pos ⟨rfl, hlt⟩, heff hq (fun h => absurd h hia)]; exact he hq
              rw [hoo]
              exact ⟨hr.hr, env_put (C := C) (st := ⟨env, _⟩) hr.size hr.env o.dst hd0 .skip, hr.step, hr.fr, hr.col, by rw [put_size]; exact hr.size, by rw [put_defers]; exact hr.defers⟩
            · exact hpa ⟨hr.hr, Step.refl .., Fr.refl .., fun _ _ h => .inl h⟩
          · rw [if_pos (gd_wanted hr2 hg)]
            have hph := heff he fun h => absurd h hia
            have hpa' := @hpa
            rw [hph] at hr2 hr hpa'
            refine (hdo C.rd act w F μ _ _ hr2.hr (rep_ev hr2) fun v w' F' μ' haf hrep => next v w' _ F' μ' hpan (fun h => absurd h hia) rfl ?_ (hpa' haf))
            rw [nEff_set (f := vis I f a) (vis_not hlf), if_pos ⟨he, hlt⟩, hph]
            exact ⟨haf.hr, env_put (C := C) (st := ⟨env, φ.getD (nEff I (fun _ => true) i) []⟩) hr.size (fun t => (hr.env t).step haf.step) o.dst hd0 hrep, hr.step.trans haf.step, hr.fr.trans haf.fr,
              fun c b hb => (haf.col c b hb).elim (hr.col c b) (fun q => .inr (Nat.le_trans hr.fr.size q)), by rw [put_size]; exact hr.size, by rw [put_defers]; exact hr.defers.step haf.step⟩
          · rw [if_pos (gd_wanted hr2 hg)]
            have hph : nEff I (vis I f a) ops.size ∈ (I.getD i .none).ph := by
              have := (hB i hlt).1.1.1.2
              simp only [phB, he, Bool.false_or, List.all_eq_true, List.mem_range, Bool.or_eq_true, decide_eq_true_eq, List.contains_iff_mem] at this
              rcases this (nEff I (vis I f a) ops.size) (by have := nEff_le (I := I) (f := vis I f a) ops.size; omega) with (h | h) | h
              · refine absurd h (Nat.not_lt.2 ?_)
                exact nEff_mono _ fun j hj _ hc => hplv j (List.contains_iff_mem.1 hc)
              · refine absurd h (Nat.not_lt.2 ?_)
                refine nEff_mono _ fun j hj _ hc => ?_
                cases hq : (I.getD j .none).pre.contains i with
                | false => rfl
                | true =>
                  rw [vis_not (hlate j hj (List.contains_iff_mem.1 hq))] at hc
                  cases hc
              · exact h
            refine (hdo _ hph C.rd act w F μ _ _ hr2.hr (rep_ev hr2) fun v w' F' μ' haf hrep => next v w' _ F' μ' hpan (fun h => absurd h hia) rfl ?_ (hpa haf))
            rw [nEff_set (f := vis I f a) (vis_not hlf), if_neg (fun h => by rw [he] at h; cases h.1), Nat.add_zero]
            exact ⟨haf.hr, env_put (C := C) (st := ⟨env, _⟩) hr.size (fun t => (hr.env t).step haf.step) o.dst hd0 hrep, hr.step.trans haf.step, hr.fr.trans haf.fr,
              fun c b hb => (haf.col c b hb).elim (hr.col c b) (fun q => .inr (Nat.le_trans hr.fr.size q)), by rw [put_size]; exact hr.size, by rw [put_defers]; exact hr.defers.step haf.step⟩
end Go.VL
end
section
set_option linter.unusedVariables false
set_option linter.unusedSimpArgs false
namespace Go.VL
open Go

theorem eqds_ok {f : DV → DV → Bool} (hf : ∀ x y, f x y = true → x = y) : ∀ a b, eqds f a b = true → a = b
  | [], [], _ => rfl
  | [], y :: r, h => by cases h
  | x :: q, [], h => by cases h
  | x :: q, y :: r, h => by
    have h' : bx (f x y) (eqds f q r) false = true := h
    rw [bx_if] at h'
    split at h' <;> try cases h'
    rename_i hx
    rw [hf x y hx, eqds_ok hf q r h']
theorem beq2 {a b : Nat} {c : Bool} (h : bx (Nat.beq a b) c false = true) : a = b ∧ c = true := by
  rw [beq_if] at h
  split at h
  · rename_i e; exact ⟨e, h⟩
  · cases h
theorem eqd_ok : ∀ n a b, eqd n a b = true → a = b
  | 0, a, b, h => by cases h
  | n + 1, a, b, h => by
    have ih := eqd_ok n
    have h' : eqd1 (eqd n) a b = true := h
    unfold eqd1 at h'
    split at h'
    · obtain ⟨h1, h2⟩ := beq2 h'
      rw [(kidx_iff _ _).1 h1, (eqx_iff _ _).1 h2]
    · rename_i x y
      revert h'
      cases x <;> cases y <;> intro h' <;> first | rfl | cases h'
    · rename_i x y
      have := (eqs_iff _ _).1 h'
      rw [mapx_eq, mapx_eq] at this
      have h2 : x.data.toList = y.data.toList := by
        exact (List.map_inj_right (fun a b e => UInt8.toNat_inj.1 e)).1 this
      have : x = y := by
        cases x; cases y
        congr 1
        exact Array.ext' h2
      rw [this]
    · obtain ⟨h1, h2⟩ := beq2 h'
      obtain ⟨h3, h4⟩ := beq2 h2
      obtain ⟨h5, h6⟩ := beq2 h4
      rw [h1, h3, h5, Nat.eq_of_beq_eq_true h6]
    · obtain ⟨h1, h2⟩ := beq2 h'
      obtain ⟨h3, h4⟩ := beq2 h2
      obtain ⟨h5, h6⟩ := beq2 h4
      rw [h1, h3, h5, Nat.eq_of_beq_eq_true h6]
    all_goals first
      | rfl
      | (rw [Nat.eq_of_beq_eq_true h']; done)
      | (rw [eqds_ok ih _ _ h']; done)
      | (obtain ⟨h1, h2⟩ := beq2 h'; rw [h1, eqds_ok ih _ _ h2]; done)
      | (obtain ⟨h1, h2⟩ := beq2 h'; rw [h1, ih _ _ h2]; done)
      | (obtain ⟨h1, h2⟩ := beq2 h'; obtain ⟨h3, h4⟩ := beq2 h2; rw [h1, h3, eqds_ok ih _ _ h4]; done)
      | cases h'

section
variable {P : Program} {L : Lay} {mask : Nat} {call : DV → List DV → Mm → CR}
theorem rst_of {env : List (Nat × DV)} {mask : Nat} {s : FE} (h : ∀ t, lk env t = rd mask s t) (l : List Nat) : mapx (fun t => (t, rd mask s t)) l = rst env l := by
  rw [mapx_eq]
  unfold rst
  exact List.map_congr_left fun t _ => by rw [h t]
theorem cel_ev (env : List (Nat × DV)) (x : Operand) : (cel x).f env = ev env x := by
  rw [cel_eq]
  cases x with
  | tmp t => exact lkb_eq _ _
  | _ => rfl
theorem xlog_ok {φ : List Mm} {r : RR} : ∀ (log : List DLog) {e : XE} {s : FE}, xlog L φ r log = .ok e s → r = .ok e s ∧ ∀ g ∈ log, xlog1 L φ g = true
  | [], e, s, h => ⟨h, by simp⟩
  | g :: log, e, s, h => by
    have h' : bx (xlog1 L φ g) (xlog L φ r log) (.no g.pos) = .ok e s := h
    rw [bx_if] at h'
    split at h' <;> try cases h'
    rename_i hg
    obtain ⟨h1, h2⟩ := xlog_ok log h'
    refine ⟨h1, fun q hq => ?_⟩
    rcases List.mem_cons.1 hq with rfl | hq
    · exact hg
    · exact h2 q hq
theorem allocX_out {m m' : Mm} {t : Nat} {d : DV} (h : allocX L m t = some (d, m')) : ∃ ti, L t = some ti ∧ ti.zero.cells.length = ti.k ∧ d = .ptr m.n 1 0 0 ∧ m' = pushX m (.arr t ti.k 1 (allx DV.one ti.zero.cells) [ti.zero]) := by
  unfold allocX at h
  split at h <;> try cases h
  rename_i ti ht
  rw [beq_if, len_eq] at h
  split at h <;> cases h
  rename_i hk
  exact ⟨ti, ht, hk, rfl, rfl⟩
end

theorem xdraw_cons {L : Lay} {mask : Nat} {ops : List Oper} {call : DV → List DV → Mm → CR} {o : Oper} {rest : List Oper} {D : DI} {I' : List DI} {s : FE} :
    xdraw L mask ops call (o :: rest) (D :: I') s = match xgd ops (lkb (mapx (fun t => (t, rd mask s t)) D.rd)) o with
      | some false => bx D.eff ((xdraw L mask ops call rest I' (wr mask s o.dst .skip)).at s.m) (xdraw L mask ops call rest I' (wr mask s o.dst .skip))
      | some true => bx D.eff
          (match o.op with
          | .call { callee := .value g, args := xs, .. } => match call ((cel g).f (mapx (fun t => (t, rd mask s t)) D.rd)) (mapx (fun x => (cel x).f (mapx (fun t => (t, rd mask s t)) D.rd)) xs.toList) s.m with
            | .ok (.ret d) m' => (xdraw L mask ops call rest I' (wr mask ⟨s.l, s.p, m', s.dd⟩ o.dst d)).at s.m
            | .ok (.pan d) m' => match rest with
              | [] => ⟨.ok (.panic d) ⟨[], outs (ops.map (·.dst)) s.p, m', s.dd⟩, [s.m, m'], []⟩
              | _ => ⟨.no o.pos, [s.m], []⟩
            | .no p => ⟨.no p, [s.m], []⟩
          | op => match (cop L cel op).f (mapx (fun t => (t, rd mask s t)) D.rd) s.m with
            | some (d, m') => (xdraw L mask ops call rest I' (wr mask ⟨s.l, s.p, m', s.dd⟩ o.dst d)).at s.m
            | none => ⟨.no o.pos, [s.m], []⟩)
          (match xpure L (evl (lkb (mapx (fun t => (t, rd mask s t)) D.rd))) o.op with
          | some d => xdraw L mask ops call rest I' (wr mask s o.dst d)
          | none => match xread L (evl (lkb (mapx (fun t => (t, rd mask s t)) D.rd))) s.m o.op with
            | some d => match xdraw L mask ops call rest I' (wr mask s o.dst d) with
              | ⟨r, φ, log⟩ => ⟨r, φ, ⟨mapx (fun t => (t, rd mask s t)) D.rd, o.op, d, D.ph, o.pos⟩ :: log⟩
            | none => ⟨.no o.pos, [s.m], []⟩)
      | none => ⟨.no o.pos, [s.m], []⟩ := rfl

/-- What a drawn region's run comes to. -/
def DrK (mask : Nat) (e : XE) (s' : FE) : XE → St → Prop := fun e' st => e' = e ∧ Weak st (s'.st mask)
section
variable {C : Ctx} {L : Lay} {mask : Nat} {call : DV → List DV → Mm → CR} {arr : Array Oper} {φ : List Mm} {a : Nat} {env0 : List (Nat × DV)} {e : XE} {s' : FE}
theorem getD_obs {p : Nat} {m : Mm} (h : φ[p]? = some m) : (φ.map Mm.obs).getD p [] = m.obs := by
  rw [List.getD_eq_getElem?_getD, List.getElem?_map, h]; rfl
theorem xdraw_ok (hL : LayOk C.P L) (hc : CallOk C.P call) (hgood : ∀ m ∈ φ, Good m) : ∀ (l : List Oper) (I : List DI) (i p : Nat) (s : FE) (env : List (Nat × DV)) (k : DRun),
    xdraw L mask arr.toList call l I s = k → k.r = .ok e s' → φ.drop p = k.φ → (∀ g ∈ k.log, xlog1 L φ g = true) → Good s.m → arr.toList.drop i = l →
    (i ≤ a → a < arr.size → ∃ o D, arr.toList[a]? = some o ∧ isAlloc o = true ∧ I[a - i]? = some D ∧ D.eff = true) → (∀ t, lk env t = rd mask s t) → (∀ t, notDst (arr.toList.map (·.dst)) t = true → lk env t = lk env0 t) →
    dwalk2 C L arr (φ.map Mm.obs) a (DrK mask e s') env0 I i p l env ∧ φ[p]? = some s.m ∧ s'.dd = s.dd ∧ Good s'.m := by
  intro l
  induction l with
  | nil =>
    intro I i p s env k hk hr hφ hlog hm hl ha henv h0
    subst hk
    have hr' : RR.ok .normal ⟨[], s.p, s.m, s.dd⟩ = RR.ok e s' := hr
    cases hr'
    have hφ' : φ.drop p = [s.m] := hφ
    have hp : φ[p]? = some s.m := by
      have := congrArg List.head? hφ'
      rw [List.head?_drop] at this
      simpa using this
    refine ⟨?_, hp, rfl, hm⟩
    have hd : dwalk2 C L arr (φ.map Mm.obs) a (DrK mask .normal ⟨[], s.p, s.m, s.dd⟩) env0 I i p [] env = DrK mask .normal ⟨[], s.p, s.m, s.dd⟩ .normal ⟨env, (φ.map Mm.obs).getD p []⟩ := by cases I <;> rfl
    rw [hd, getD_obs hp]
    refine ⟨rfl, rfl, fun t => ?_⟩
    show lk (envOf mask ⟨[], s.p, s.m, s.dd⟩) t = .undef ∨ lk (envOf mask ⟨[], s.p, s.m, s.dd⟩) t = lk env t
    rw [lk_envOf, henv t]
    unfold rd
    rw [bx_if, bx_if]
    split
    · exact .inr rfl
    · exact .inl rfl
  | cons o rest ih =>
    intro I i p s env k hk hr hφ hlog hm hl ha henv h0
    cases I with
    | nil => subst hk; cases hr
    | cons D I' =>
      have ho : arr.toList[i]? = some o := by
        have := congrArg List.head? hl
        rw [List.head?_drop] at this
        simpa using this
      have hl' : arr.toList.drop (i + 1) = rest := by
        have := congrArg List.tail hl
        rwa [List.tail_drop] at this
      have ha' : i + 1 ≤ a → a < arr.size → ∃ o D, arr.toList[a]? = some o ∧ isAlloc o = true ∧ I'[a - (i + 1)]? = some D ∧ D.eff = true := by
        intro h1 h2
        obtain ⟨o', D', q1, q2, q3, q4⟩ := ha (by omega) h2
        refine ⟨o', D', q1, q2, ?_, q4⟩
        rw [show a - i = (a - (i + 1)) + 1 by omega] at q3
        simpa using q3
      have hrs := rst_of henv D.rd
      rw [xdraw_cons, hrs] at hk
      have hevl : evl (lkb (rst env D.rd)) = ev (rst env D.rd) := by
        funext x
        rw [← cel_eq, cel_ev]
      rw [hevl] at hk
      -- slots behind the operation
      have hdn : ∀ t, notDst (arr.toList.map (·.dst)) t = true → o.dst ≠ some t := by
        intro t h1 h2
        simp only [notDst, List.all_eq_true, List.mem_map, bne_iff_ne, ne_eq, forall_exists_index, and_imp, forall_apply_eq_imp_iff₂] at h1
        exact h1 o (List.mem_of_getElem? ho) h2
      have henv' : ∀ (d : DV) (m' : Mm) (t : Nat), lk (upo env o.dst d) t = rd mask (wr mask ⟨s.l, s.p, m', s.dd⟩ o.dst d) t := by
        intro d m' t
        rw [lk_upo, rd_wr, henv t]
        rfl
      have h0' : ∀ (d : DV) (t : Nat), notDst (arr.toList.map (·.dst)) t = true → lk (upo env o.dst d) t = lk env0 t := by
        intro d t ht
        rw [lk_upo_ne (hdn t ht)]
        exact h0 t ht
      have hsm : ∀ d, wr mask s o.dst d = wr mask ⟨s.l, s.p, s.m, s.dd⟩ o.dst d := fun _ => rfl
      -- an operation with an effect that gives d and m'
      have goE : ∀ {d : DV} {m' : Mm} {k1 : DRun}, xdraw L mask arr.toList call rest I' (wr mask ⟨s.l, s.p, m', s.dd⟩ o.dst d) = k1 → k = k1.at s.m → Good m' →
          dwalk2 C L arr (φ.map Mm.obs) a (DrK mask e s') env0 I' (i + 1) (p + 1) rest (upo env o.dst d) ∧ φ[p]? = some s.m ∧ φ[p + 1]? = some m' ∧ s'.dd = s.dd ∧ Good s'.m := by
        intro d m' k1 hk1 hkk hm'
        subst hkk
        have hφ' : φ.drop p = s.m :: k1.φ := hφ
        have hp : φ[p]? = some s.m := by
          have := congrArg List.head? hφ'
          rw [List.head?_drop] at this
          simpa using this
        have hφ2 : φ.drop (p + 1) = k1.φ := by
          have := congrArg List.tail hφ'
          rw [List.tail_drop] at this
          exact this
        obtain ⟨g1, g2, g3, g4⟩ := ih I' (i + 1) (p + 1) _ (upo env o.dst d) k1 hk1 hr hφ2 hlog (by rw [wr_m]; exact hm') hl' ha' (henv' d m') (h0' d)
        rw [wr_m] at g2
        rw [wr_dd] at g3
        exact ⟨g1, hp, g2, g3, g4⟩
      -- one without
      have goP : ∀ {d : DV} {k1 : DRun}, xdraw L mask arr.toList call rest I' (wr mask s o.dst d) = k1 → k.r = k1.r → k.φ = k1.φ → (∀ g ∈ k1.log, g ∈ k.log) →
          dwalk2 C L arr (φ.map Mm.obs) a (DrK mask e s') env0 I' (i + 1) p rest (upo env o.dst d) ∧ φ[p]? = some s.m ∧ s'.dd = s.dd ∧ Good s'.m := by
        intro d k1 hk1 hkr hkφ hkl
        obtain ⟨g1, g2, g3, g4⟩ := ih I' (i + 1) p _ (upo env o.dst d) k1 hk1 (by rw [← hkr]; exact hr) (by rw [← hkφ]; exact hφ) (fun g hg => hlog g (hkl g hg)) (by rw [wr_m]; exact hm) hl' ha' (henv' d s.m) (h0' d)
        rw [wr_m] at g2
        rw [wr_dd] at g3
        exact ⟨g1, g2, g3, g4⟩
      simp only [dwalk2, dop2]
      by_cases hia : i = a
      · -- the allocation
        have hasz : a < arr.size := by
          have := (List.getElem?_eq_some_iff.1 ho).1
          rw [← hia]; simpa using this
        obtain ⟨o', D', q1, q2, q3, q4⟩ := ha (by omega) hasz
        rw [← hia, ho] at q1
        cases q1
        rw [hia, Nat.sub_self] at q3
        have : D' = D := by simpa using q3.symm
        subst this
        unfold isAlloc at q2
        split at q2 <;> try cases q2
        rename_i t hop hgn
        have hg : xgd arr.toList (lkb (rst env D'.rd)) o = some true := by unfold xgd; rw [hgn]
        rw [hg] at hk
        dsimp only at hk
        rw [bx_if, if_pos q4, hop] at hk
        dsimp only at hk
        split at hk
        · rename_i d m' hk1
          have hx := cop_ok hk1
          have hx' : allocX L s.m t = some (d, m') := by
            unfold xop at hx
            simpa [xpure, xread, xeff] using hx
          obtain ⟨ti, ht, hkk, rfl, rfl⟩ := allocX_out hx'
          have hpush := hm.push (x := .arr t ti.k 1 (allx DV.one ti.zero.cells) [ti.zero]) ⟨rfl, allOne_one⟩
          obtain ⟨g1, g2, g3, g4⟩ := goE rfl hk.symm hpush.goodm
          rw [if_pos hia, if_pos q4]
          refine ⟨⟨t, ti, hgn, hop, ht, hkk, q4, ?_, ?_⟩, g2, g4⟩
          · rw [getD_obs g3, getD_obs g2]
            exact hpush.obs.symm
          · rw [getD_obs g2, ← MmOf.n hm]
            exact g1
        · subst hk; cases hr
      · rw [if_neg hia]
        have hxg : ∀ {b}, xgd arr.toList (lkb (rst env D.rd)) o = some b → gd arr (rst env D.rd) o = some b := fun h => xgd_ok (fun t => lkb_eq _ _) h
        split at hk
        · rename_i hg
          rw [hxg hg]
          dsimp only
          rw [bx_if] at hk
          split at hk
          · rename_i hE
            rw [hsm] at hk
            obtain ⟨g1, g2, g3, g4⟩ := goE rfl hk.symm hm
            rw [if_pos hE]
            refine ⟨⟨fun _ => ?_, g1⟩, g2, g4⟩
            rw [getD_obs g3, getD_obs g2]
          · rename_i hE
            obtain ⟨g1, g2, g3⟩ := goP rfl (by rw [← hk]) (by rw [← hk]) (by rw [← hk]; exact fun g h => h)
            rw [if_neg hE]
            exact ⟨⟨fun h => absurd h hE, g1⟩, g2, g3⟩
        · rename_i hg
          rw [hxg hg]
          dsimp only
          rw [bx_if] at hk
          split at hk
          · rename_i hE
            rw [if_pos hE, if_pos hE]
            split at hk
            · rename_i g xs ts hop
              have ha2 : mapx (fun x => (cel x).f (rst env D.rd)) xs.toList = xs.toList.map (ev (rst env D.rd)) := by
                rw [mapx_eq]
                exact List.map_congr_left fun x _ => cel_ev _ _
              rw [ha2, cel_ev] at hk
              split at hk
              · rename_i d m' hkc
                obtain ⟨c1, c2, _⟩ := hc _ _ _ _ _ hkc hm
                obtain ⟨g1, g2, g3, g4⟩ := goE rfl hk.symm c1
                refine ⟨⟨.ret d, ?_, g1⟩, g2, g4⟩
                rw [getD_obs g2, getD_obs g3]
                exact c2 o ⟨rst env D.rd, s.m.obs⟩ g xs ts hop rfl rfl rfl
              · rename_i d m' hkc
                obtain ⟨c1, c2, _⟩ := hc _ _ _ _ _ hkc hm
                split at hk
                · subst hk
                  have hr' : RR.ok (.panic d) ⟨[], outs (arr.toList.map (·.dst)) s.p, m', s.dd⟩ = RR.ok e s' := hr
                  cases hr'
                  have hφ' : φ.drop p = [s.m, m'] := hφ
                  have hp : φ[p]? = some s.m := by
                    have := congrArg List.head? hφ'
                    rw [List.head?_drop] at this
                    simpa using this
                  have hp1 : φ[p + 1]? = some m' := by
                    have := congrArg (fun l => l[1]?) hφ'
                    simpa [List.getElem?_drop] using this
                  refine ⟨⟨.pan d, ?_, rfl, rfl, ?_, fun t => ?_⟩, hp, rfl, c1⟩
                  · rw [getD_obs hp, getD_obs hp1]
                    exact c2 o ⟨rst env D.rd, s.m.obs⟩ g xs ts hop rfl rfl rfl
                  · rw [getD_obs hp1]; rfl
                  · show lk (envOf mask ⟨[], outs (arr.toList.map (·.dst)) s.p, m', s.dd⟩) t = .undef ∨ lk (envOf mask ⟨[], outs (arr.toList.map (·.dst)) s.p, m', s.dd⟩) t = lk (outs (arr.toList.map (·.dst)) env0) t
                    rw [lk_envOf]
                    unfold rd
                    rw [bx_if, lkb_eq, lkb_eq]
                    split
                    · rename_i hpm
                      unfold outs
                      rw [lk_outs (f := notDst (arr.toList.map (·.dst))), lk_outs (f := notDst (arr.toList.map (·.dst)))]
                      split
                      · rename_i hnd
                        right
                        rw [← h0 t hnd, henv t]
                        unfold rd
                        rw [bx_if, if_pos hpm, lkb_eq]
                      · exact .inl rfl
                    · exact .inl rfl
                · subst hk; cases hr
              · subst hk; cases hr
            · split at hk
              · rename_i d m' hk1
                have hx := cop_ok hk1
                have he : (fun x => (cel x).f (rst env D.rd)) = ev (rst env D.rd) := by funext x; exact cel_ev _ _
                rw [he] at hx
                obtain ⟨σ', c1, c2⟩ := xop_sound hL hm hx
                obtain rfl := c2.obs
                obtain ⟨g1, g2, g3, g4⟩ := goE rfl hk.symm c2.goodm
                refine ⟨⟨.ret d, ?_, g1⟩, g2, g4⟩
                rw [getD_obs g2, getD_obs g3]
                exact OpDo.of_run c1
              · subst hk; cases hr
          · rename_i hE
            rw [if_neg hE, if_neg hE]
            split at hk
            · rename_i d hx
              obtain ⟨g1, g2, g3⟩ := goP rfl (by rw [← hk]) (by rw [← hk]) (by rw [← hk]; exact fun g h => h)
              exact ⟨⟨d, fun q _ => OpDo.of_run (xpure_sound hL hx _), g1⟩, g2, g3⟩
            · split at hk
              · rename_i d hx
                obtain ⟨k1, hk1⟩ : ∃ k1, k1 = xdraw L mask arr.toList call rest I' (wr mask s o.dst d) := ⟨_, rfl⟩
                rw [← hk1] at hk
                cases k1 with
                | mk r φ1 log1 =>
                  dsimp only at hk
                  obtain ⟨g1, g2, g3⟩ := goP hk1.symm (by rw [← hk]) (by rw [← hk]) (by rw [← hk]; exact fun g h => List.mem_cons_of_mem _ h)
                  refine ⟨⟨d, fun q hq => ?_, g1⟩, g2, g3⟩
                  have hlg := hlog ⟨rst env D.rd, o.op, d, D.ph, o.pos⟩ (by rw [← hk]; exact List.mem_cons_self ..)
                  unfold xlog1 at hlg
                  rw [allx_eq, List.all_eq_true] at hlg
                  have hq' := hlg q hq
                  split at hq' <;> try cases hq'
                  rename_i mq hmq
                  rw [nth_eq] at hmq
                  split at hq' <;> try cases hq'
                  rename_i dq hdq
                  obtain rfl := eqd_ok _ _ _ hq'
                  rw [getD_obs hmq]
                  rw [hevl] at hdq
                  exact OpDo.of_run (xread_sound hL (hgood mq (List.mem_of_getElem? hmq)) hdq)
              · subst hk; cases hr
        · subst hk; cases hr
end
end Go.VL
end
section
set_option linter.unusedVariables false
set_option linter.unusedSimpArgs false
namespace Go.VL
open Go

section
variable {P : Program} {L : Lay} {mask : Nat} {call : DV → List DV → Mm → CR}
theorem xdraw_good (hL : LayOk P L) (hc : CallOk P call) {ops : List Oper} : ∀ (l : List Oper) (I : List DI) (s : FE) (k : DRun) (e : XE) (s' : FE), xdraw L mask ops call l I s = k → k.r = .ok e s' → Good s.m → ∀ m ∈ k.φ, Good m := by
  intro l
  induction l with
  | nil =>
    intro I s k e s' hk hr hm m hmm
    subst hk
    have hmm' : m ∈ [s.m] := hmm
    obtain rfl := List.mem_singleton.1 hmm'
    exact hm
  | cons o rest ih =>
    intro I s k e s' hk hr hm
    cases I with
    | nil => subst hk; cases hr
    | cons D I' =>
      rw [xdraw_cons] at hk
      have goE : ∀ {d : DV} {m' : Mm}, (xdraw L mask ops call rest I' (wr mask ⟨s.l, s.p, m', s.dd⟩ o.dst d)).at s.m = k → Good m' → ∀ m ∈ k.φ, Good m := by
        intro d m' hkk hm' m hmm
        subst hkk
        have hmm' : m ∈ s.m :: (xdraw L mask ops call rest I' (wr mask ⟨s.l, s.p, m', s.dd⟩ o.dst d)).φ := hmm
        rcases List.mem_cons.1 hmm' with rfl | hmm'
        · exact hm
        · exact ih _ _ _ _ _ rfl hr (by rw [wr_m]; exact hm') m hmm'
      split at hk
      · rw [bx_if] at hk
        split at hk
        · exact goE hk hm
        · subst hk
          exact ih _ _ _ _ _ rfl hr (by rw [wr_m]; exact hm)
      · rw [bx_if] at hk
        split at hk
        · split at hk
          · split at hk
            · rename_i d m' hkc
              exact goE hk (hc _ _ _ _ _ hkc hm).1
            · rename_i d m' hkc
              split at hk
              · subst hk
                intro m hmm
                have hmm' : m ∈ [s.m, m'] := hmm
                rcases List.mem_cons.1 hmm' with rfl | hmm'
                · exact hm
                · obtain rfl := List.mem_singleton.1 hmm'
                  exact (hc _ _ _ _ _ hkc hm).1
              · subst hk; cases hr
            · subst hk; cases hr
          · split at hk
            · rename_i d m' hk1
              have hx := cop_ok hk1
              have he : (fun x => (cel x).f (mapx (fun t => (t, rd mask s t)) D.rd)) = ev (mapx (fun t => (t, rd mask s t)) D.rd) := by funext x; exact cel_ev _ _
              rw [he] at hx
              obtain ⟨σ', c1, c2⟩ := xop_sound hL hm hx
              exact goE hk c2.goodm
            · subst hk; cases hr
        · split at hk
          · subst hk
            exact ih _ _ _ _ _ rfl hr (by rw [wr_m]; exact hm)
          · split at hk
            · rename_i d hx
              obtain ⟨k1, hk1⟩ : ∃ k1, k1 = xdraw L mask ops call rest I' (wr mask s o.dst d) := ⟨_, rfl⟩
              rw [← hk1] at hk
              cases k1 with
              | mk r φ1 log1 =>
                subst hk
                exact ih I' (wr mask s o.dst d) ⟨r, φ1, log1⟩ e s' hk1.symm hr (by rw [wr_m]; exact hm)
            · subst hk; cases hr
      · subst hk; cases hr

theorem laOf_ok {ops : List Oper} {I : List DI} (h : laOf ops I < I.length) : ∃ o D, ops[laOf ops I]? = some o ∧ isAlloc o = true ∧ I[laOf ops I]? = some D ∧ D.eff = true := by
  unfold laOf at h ⊢
  split at h
  · rename_i i hi
    have := List.find?_some hi
    simp only [Bool.and_eq_true] at this
    obtain ⟨⟨⟨h1, h2⟩, _⟩, _⟩ := this
    split at h1 <;> try cases h1
    rename_i o ho
    refine ⟨o, I[i], ho, h1, by simp [h], ?_⟩
    rw [List.getD_eq_getElem?_getD, List.getElem?_eq_getElem h] at h2
    exact h2
  · omega

theorem drawnOk (hL : LayOk P L) (hmx : P.follows .mixedOrders = true) : DrawnOk P L := by
  intro call hc x id ops I s s' e h hcode hm
  simp only [Bool.and_eq_true] at hcode
  obtain ⟨hmap, hF⟩ := hcode
  have hmap := eq_of_beq hmap
  have hsz : ops.size = I.length := by simpa using congrArg List.length hmap
  have hi : ∀ i : Nat, (ops.toList[i]?.map fun o => (o.dst, dirsO o)) = I[i]?.map fun D : DI => (D.dst, D.dir) := fun (i : Nat) => by
    have := congrArg (fun (q : List (Option Tmp × List Nat)) => q[i]?) hmap
    simpa only [List.getElem?_map] using this
  have h1 : ∀ i, dstAt ops i = (I.getD i .none).dst := by
    intro i
    have := hi i
    simp only [dstAt, ← Array.getElem?_toList, List.getD_eq_getElem?_getD]
    cases hx : ops.toList[i]? <;> cases hy : I[i]? <;> rw [hx, hy] at this <;> simp at this ⊢
    · rfl
    · exact this.1
  have h2 : ∀ i, dirs ops i = (I.getD i .none).dir := by
    intro i
    have := hi i
    simp only [dirs, ← Array.getElem?_toList, List.getD_eq_getElem?_getD]
    cases hx : ops.toList[i]? <;> cases hy : I[i]? <;> rw [hx, hy] at this <;> simp at this ⊢
    · rfl
    · exact this.2
  unfold xdrawn at h
  split at h <;> try cases h
  rename_i e1 s1 φ log hk
  obtain ⟨he, hlog⟩ := xlog_ok log h
  cases he
  have hgood : ∀ m ∈ φ, Good m := xdraw_good hL hc _ _ _ _ _ _ hk rfl hm
  have ha : laOf ops.toList I < ops.size → ∃ o D, ops.toList[laOf ops.toList I]? = some o ∧ isAlloc o = true ∧ I[laOf ops.toList I]? = some D ∧ D.eff = true := by
    intro h
    rw [hsz] at h
    exact laOf_ok h
  obtain ⟨a, hae⟩ : ∃ a, a = laOf ops.toList I := ⟨_, rfl⟩
  rw [← hae] at ha hF
  have key : ∀ C : Ctx, C.P = P → dwalk2 C L ops (φ.map Mm.obs) a (DrK x.mask e s') (envOf x.mask s) I 0 0 ops.toList (envOf x.mask s) ∧ φ[0]? = some s.m ∧ s'.dd = s.dd ∧ Good s'.m := by
    intro C hCP
    subst hCP
    exact xdraw_ok hL hc hgood ops.toList I 0 0 s (envOf x.mask s) ⟨.ok e s', φ, log⟩ hk rfl rfl hlog hm rfl (fun _ h => ha h) (fun t => lk_envOf _ _ _) fun t _ => rfl
  have hg' : Good s'.m := by
    obtain ⟨_, _, _, g⟩ := xdraw_ok (C := ⟨P, 0, none, [], default, fun _ _ => False, fun _ => none, [], fun _ _ => rfl⟩) hL hc hgood ops.toList I 0 0 s (envOf x.mask s) ⟨.ok e s', φ, log⟩ hk rfl rfl hlog hm rfl (fun _ h => ha h) (fun t => lk_envOf _ _ _) fun t _ => rfl
    exact g
  refine ⟨hg', fun C hC act w hr => ?_⟩
  obtain ⟨hdw, hφ0, hdd, _⟩ := key (C.at s.dd) hC.P
  obtain ⟨E, ds, q0, q1, q2⟩ := dwalk2_out (I := I) ops.toList 0 (envOf x.mask s) I 0 (Nat.zero_le _) rfl rfl rfl hdw
  have hf : (fun i => (Array.replicate ops.size false).getD i false) = fun _ => false := by
    funext i
    rw [Array.getD_eq_getD_getElem?]
    rw [Array.getElem?_replicate]
    split <;> rfl
  have hvf : vis I (fun _ => false) a = fun _ => false := by funext k; exact vis_not rfl
  have hn : ∀ n, nEff I (fun _ => false) n = 0 := by
    intro n
    induction n with
    | zero => rfl
    | succ n ih => simp [nEff, ih]
  have hv : ∀ n t, vAt ops (E 0) ds (fun _ => false) n t = lk (E 0) t := by
    intro n t
    induction n with
    | zero => rfl
    | succ n ih => simp [vAt, ih]
  have hCP : C.P = P := hC.P
  have hpost : (Code.region id ops true).wpIn C.fe 0 C.P (Post (C.at s.dd) (DrK x.mask e s')) act w := by
    refine wpIn_region_any (by rw [hCP]; exact hmx) ?_
    obtain ⟨F, μ, hr⟩ := Rel.drew hr (w.drawn + 1) (Nat.le_succ _)
    refine draw_any2 (C := C.at s.dd) (by show LayOk C.P L; rw [hCP]; exact hL) (I := I) (φ := φ.map Mm.obs) (a := a) (E := E) (ds := ds) hsz h1 h2 (by rw [show (C.at s.dd).n = C.n from rfl, hC.n]; exact hF)
      (fun k hk => by rw [q0]; exact q1 k (Nat.zero_le _) hk) (by rw [q0]; exact q2.imp (fun h => h) fun ⟨k, _, b, c⟩ => ⟨k, b, c⟩) _ _ act _ (by simp) ?_ ?_ ?_
    · intro i hi hl
      rw [show (Array.replicate ops.size false).getD i false = false from congrFun hf i] at hl
      cases hl
    · rw [hf]
      exact cnt_le _
    · rw [hf, hvf, hn]
      refine ⟨envOf x.mask s, F, μ, ?_, fun t _ => ?_, fun h => by cases h.1⟩
      · rw [getD_obs hφ0]
        exact hr
      · rw [hv, q0]
  refine wpIn_mono hpost fun ex act' w' hp => ?_
  cases ex with
  | normal =>
    obtain ⟨st, ⟨rfl, hw⟩, hr'⟩ := hp
    exact ⟨rfl, by rw [hdd]; exact hr'.weak hw⟩
  | exit i =>
    obtain ⟨st, ⟨rfl, hw⟩, hr'⟩ := hp
    exact ⟨rfl, by rw [hdd]; exact hr'.weak hw⟩
  | ret =>
    obtain ⟨st, ⟨rfl, hw⟩, hr'⟩ := hp
    exact ⟨rfl, by rw [hdd]; exact hr'.weak hw⟩
  | panic ch =>
    obtain ⟨st, d, v, F, μ, ⟨rfl, hw⟩, h1, h2, h3⟩ := hp
    refine ⟨d, v, F, μ, rfl, h1, ?_, ?_⟩
    · rw [hdd]; exact h2.weak hw
    · rw [hw.ob]; exact h3
  | goto l => exact hp.elim
  | outgrown => exact hp.elim
end

/-- A closed run is what the machine does. -/
theorem run_ok {P : Program} {L : Lay} {T : Nat → FT} (hL : LayOk P L) (hmx : P.follows .mixedOrders = true) (hT : TabOk P T) (n : Nat) : RunOk P (xexec L T n) ∧ CallOk P (call1 L T (xexec L T n)) := by
  have hC : CallsOk P L T := callsOk hL hT (leaveFOk hL hT) (roundsOk hT)
  have hr := xexec_ok hL (drawnOk hL hmx) rangeOk hC n
  exact ⟨hr, hC _ hr⟩
theorem ok_of_call {P : Program} {L : Lay} {T : Nat → FT} (hL : LayOk P L) (hmx : P.follows .mixedOrders = true) (hT : TabOk P T) (n : Nat) {f : Nat} {args : List DV} {m m' : Mm} {out : Out} (h : call1 L T (xexec L T n) (.fn f []) args m = .ok out m') (hm : Good m) :
    Good m' ∧ Ok P f args m.obs out m'.obs := by
  obtain ⟨g1, _, g2⟩ := (run_ok hL hmx hT n).2 _ _ _ _ _ h hm
  have := g2 f [] rfl
  rw [List.append_nil] at this
  exact ⟨g1, this⟩
end Go.VL
end
section
set_option linter.unusedVariables false
set_option linter.unusedSimpArgs false
namespace Go.VL
open Go

/-- A value in memory against one without. -/
noncomputable def mz1 (f : DV → DV → Bool) (m : Mm) (c : Nat) (d D : DV) : Bool := match d, D with
  | .int k x, .int k' y => bx (Nat.beq (kidx k) (kidx k')) (eqx x y) false
  | .bool x, .bool y => bx x y (notx y)
  | .str x, .str y => eqs (mapx UInt8.toNat x.data.toList) (mapx UInt8.toNat y.data.toList)
  | .nils, .nils => true
  | .nilp, .nilp => true
  | .nili, .nili => true
  | .nilf, .nilf => true
  | .nils, .vec c' k [] => Nat.beq c c'
  | .emp, .vec c' k [] => Nat.beq c c'
  | .agg xs, .agg ys => eqds f xs ys
  | .tup xs, .tup ys => eqds f xs ys
  | .fn g xs, .fn g' ys => bx (Nat.beq g g') (eqds f xs ys) false
  | .iface t x, .iface t' y => bx (Nat.beq t t') (f x y) false
  | .sl id g off l, .vec c' k ys => bx (Nat.beq c c') (match m.t.get id with
    | some (.arr _ k' ln _ xs) => bx (Nat.beq k k') (bx (Nat.beq g ln) (eqds (fun x y => eqds f x.cells y.cells) (taken l (dropn off xs)) ys) false) false
    | _ => false) false
  | .ptr id g j o, .vptr c' ys => bx (Nat.beq c c') (match m.t.get id with
    | some (.arr _ k' ln _ xs) => bx (Nat.beq g ln) (match nth xs j with
      | some x => eqds f (dropn o x.cells) ys
      | none => false) false
    | _ => false) false
  | .vec c1 k xs, .vec c2 k' ys => bx (Nat.beq c1 c2) (bx (Nat.beq k k') (eqds (fun x y => eqds f x.cells y.cells) xs ys) false) false
  | _, _ => false
noncomputable def mz (n : Nat) (m : Mm) (c : Nat) : DV → DV → Bool := @Nat.rec (fun _ => DV → DV → Bool) (fun _ _ => false) (fun _ f => mz1 f m c) n

theorem eqds_all {f : DV → DV → Bool} : ∀ (a b : List DV), eqds f a b = true → a.length = b.length ∧ ∀ (i : Nat) (x y : DV), a[i]? = some x → b[i]? = some y → f x y = true
  | [], [], _ => ⟨rfl, fun i x y h => by simp at h⟩
  | [], y :: r, h => by cases h
  | x :: q, [], h => by cases h
  | x :: q, y :: r, h => by
    have h' : bx (f x y) (eqds f q r) false = true := h
    rw [bx_if] at h'
    split at h'
    · rename_i hx
      obtain ⟨h1, h2⟩ := eqds_all q r h'
      refine ⟨by simp [h1], fun i a b ha hb => ?_⟩
      cases i with
      | zero => simp at ha hb; subst ha; subst hb; exact hx
      | succ i => exact h2 i a b (by simpa using ha) (by simpa using hb)
    · cases h'

section
variable {w : World} {F F' : Nat → Nat → Prop} {μ μ' : Nat → Option Nat} {m : Mm} {σ0 : List Ob} {c : Nat}
theorem lists_rep {f : DV → DV → Bool} (hf : ∀ d D v, f d D = true → Rep w F μ m.obs d v → Rep w F' μ' σ0 D v) {xs ys : List DV} {vs : List Value} (h : eqds f xs ys = true) (hl : xs.length = vs.length)
    (hr : ∀ (i : Nat) (d : DV) (v : Value), xs[i]? = some d → vs[i]? = some v → Rep w F μ m.obs d v) : ys.length = vs.length ∧ ∀ (i : Nat) (d : DV) (v : Value), ys[i]? = some d → vs[i]? = some v → Rep w F' μ' σ0 d v := by
  obtain ⟨h1, h2⟩ := eqds_all _ _ h
  refine ⟨by omega, fun i d v hd hv => ?_⟩
  have hi := (List.getElem?_eq_some_iff.1 hd).1
  have hx : xs[i]? = some xs[i] := List.getElem?_eq_getElem (by omega)
  exact hf _ _ _ (h2 i _ _ hx hd) (hr i _ _ hx hv)
theorem mz_ok (hg : Good m) (hr : HR w F μ m.obs) (hF : ∀ c b, F c b → F' c b) (hμ : ∀ id b, μ id = some b → F' c b) : ∀ n d D v, mz n m c d D = true → Rep w F μ m.obs d v → Rep w F' μ' σ0 D v
  | 0, d, D, v, h, _ => by cases h
  | n + 1, d, D, v, h, hv => by
    have ih := mz_ok hg hr hF hμ n
    have h' : mz1 (mz n m c) m c d D = true := h
    unfold mz1 at h'
    split at h'
    · obtain ⟨h1, h2⟩ := beq2 h'
      rw [(kidx_iff _ _).1 h1, (eqx_iff _ _).1 h2] at hv
      cases hv; exact .int
    · rename_i x y
      have : x = y := by
        revert h'
        cases x <;> cases y <;> intro h' <;> first | rfl | cases h'
      subst this
      cases hv; exact .bool
    · rename_i x y
      have := (eqs_iff _ _).1 h'
      rw [mapx_eq, mapx_eq] at this
      have h2 : x.data.toList = y.data.toList := (List.map_inj_right (fun a b e => UInt8.toNat_inj.1 e)).1 this
      have : x = y := by
        cases x; cases y
        congr 1
        exact Array.ext' h2
      subst this
      cases hv; exact .str
    · cases hv; exact .nils
    · cases hv; exact .nilp
    · cases hv; exact .nili
    · cases hv; exact .nilf
    · cases hv
      exact .vec (A := none) (cap := 0) (fun _ _ => undef) (by simp) (by simp) (fun h => by simp at h) (fun x hx => by simp at hx) (fun j i x d hx => by simp at hx)
    · cases hv
      exact .vec (cap := 0) (fun _ _ => undef) (by simp) (by simp) (fun h => by simp at h) (fun x hx => by simp at hx) (fun j i x d hx => by simp at hx)
    · cases hv with
      | agg hl hh =>
        obtain ⟨h1, h2⟩ := lists_rep ih h' hl hh
        exact .agg h1 h2
    · cases hv with
      | tup hl hh =>
        obtain ⟨h1, h2⟩ := lists_rep ih h' hl hh
        exact .tup h1 h2
    · obtain ⟨e, h2⟩ := beq2 h'
      replace h' := h2; clear h2
      subst e
      cases hv with
      | fn hl hh =>
        obtain ⟨h1, h2⟩ := lists_rep ih h' hl hh
        exact .fn h1 h2
    · obtain ⟨e, h2⟩ := beq2 h'
      replace h' := h2; clear h2
      subst e
      cases hv with
      | iface hh => exact .iface (ih _ _ _ h' hh)
    · -- a slice
      rename_i id g off l c' k ys
      obtain ⟨e, h2⟩ := beq2 h'
      replace h' := h2; clear h2
      subst e
      split at h' <;> try cases h'
      rename_i t k' ln on xs ho
      obtain ⟨e, h2⟩ := beq2 h'
      replace h' := h2; clear h2
      subst e
      obtain ⟨e, h2⟩ := beq2 h'
      replace h' := h2; clear h2
      subst e
      rw [taken_eq, dropn_eq] at h'
      obtain ⟨ho1, hln⟩ := MmOf.arr hg ho
      obtain ⟨e1, e2⟩ := eqds_all _ _ h'
      cases hv with
      | @sl _ _ _ _ A cap hs =>
        obtain ⟨t2, k2, xs2, ho2, q1, q2, q3, q4, q5⟩ := hs
        rw [ho1] at ho2
        cases ho2
        have hlen : ys.length = l := by
          rw [← e1]; simp; omega
        obtain ⟨hk1, hor⟩ := hr.obj _ _ ho1
        rcases q5 hln with ⟨g0, rfl, rfl, hmu⟩ | ⟨b, cur, fr, hmu, hh, hsz, hAs, hA⟩
        · have : l = 0 := by omega
          subst this
          have hy : ys = [] := List.length_eq_zero_iff.1 hlen
          subst hy
          exact .vec (A := none) (cap := 0) (fun _ _ => undef) (by simp) (by simp) (fun h => by simp at h) (fun x hx => by simp at hx) (fun j i x d hx => by simp at hx)
        · rcases hor with ⟨rfl, hmu'⟩ | ⟨b', cur', fr', hmu', hh', hfr', hcells⟩
          · rw [hmu] at hmu'; cases hmu'
          rw [hmu] at hmu'; cases hmu'
          rw [hh] at hh'; cases hh'
          have key : ∀ (j i : Nat) (y D : DV), ys[j]? = some y → y.cells[i]? = some D → ∃ x d, xs[off + j]? = some x ∧ x.cells.length = y.cells.length ∧ x.cells[i]? = some d ∧ mz n m c d D = true := by
            intro j i y D hy hD
            have hj := (List.getElem?_eq_some_iff.1 hy).1
            have hx : ((xs.drop off).take l)[j]? = some (((xs.drop off).take l)[j]'(by omega)) := List.getElem?_eq_getElem _
            have hxy := e2 j _ _ hx hy
            obtain ⟨f1, f2⟩ := eqds_all _ _ hxy
            have hi := (List.getElem?_eq_some_iff.1 hD).1
            refine ⟨_, _, ?_, f1, List.getElem?_eq_getElem (by omega), f2 i _ _ (List.getElem?_eq_getElem (by omega)) hD⟩
            rw [List.getElem?_take, if_pos (by omega), List.getElem?_drop] at hx
            exact hx
          have := Rep.vec (w := w) (F := F') (μ := μ') (σ := σ0) (c := c) (k := k) (xs := ys) (A := A) (cap := cap) (fun j i => (cur[(off + j) * k + i]?).getD undef) (by omega) q4 (fun h0 => by
            refine ⟨_, hA (.inl (by omega)), hμ _ _ hmu, fun j i hj hi => ?_⟩
            have hy : ys[j]? = some ys[j] := List.getElem?_eq_getElem hj
            have hx : ((xs.drop off).take l)[j]? = some (((xs.drop off).take l)[j]'(by omega)) := List.getElem?_eq_getElem _
            have hxk := hk1 _ (List.mem_of_mem_drop (List.mem_of_mem_take (List.mem_of_getElem? hx)))
            rw [List.getElem?_take, if_pos (by omega), List.getElem?_drop] at hx
            obtain ⟨vv, g1, g2⟩ := hcells (off + j) i _ _ hx (List.getElem?_eq_getElem (show i < _ by rw [hxk]; exact hi))
            rw [g1]
            rw [add_mk]
            unfold World.cell?
            rw [hh]
            dsimp only
            rw [show off * k + (j * k + i) = (off + j) * k + i by rw [Nat.add_mul]; omega, g1]
            rfl) (fun y hy => by
            obtain ⟨j, hj⟩ := List.getElem?_of_mem hy
            have hjl := (List.getElem?_eq_some_iff.1 hj).1
            have hx : ((xs.drop off).take l)[j]? = some (((xs.drop off).take l)[j]'(by omega)) := List.getElem?_eq_getElem _
            rw [← (eqds_all _ _ (e2 j _ _ hx hj)).1]
            exact hk1 _ (List.mem_of_mem_drop (List.mem_of_mem_take (List.mem_of_getElem? hx)))) (fun j i y D hy hD => by
            obtain ⟨x, d, f1, f2, f3, f4⟩ := key j i y D hy hD
            obtain ⟨vv, g1, g2⟩ := hcells (off + j) i x d f1 f3
            rw [g1]
            exact ih _ _ _ f4 g2)
          rwa [hlen] at this
    · -- a pointer
      rename_i id g j o c' ys
      obtain ⟨e, h2⟩ := beq2 h'
      replace h' := h2; clear h2
      subst e
      split at h' <;> try cases h'
      rename_i t k' ln on xs ho
      obtain ⟨e, h2⟩ := beq2 h'
      replace h' := h2; clear h2
      subst e
      split at h' <;> try cases h'
      rename_i x hx
      rw [nth_eq] at hx
      rw [dropn_eq] at h'
      obtain ⟨ho1, hln⟩ := MmOf.arr hg ho
      obtain ⟨e1, e2⟩ := eqds_all _ _ h'
      cases hv with
      | @ptr _ _ _ _ a hp =>
        obtain ⟨t2, k2, xs2, ho2, q1, q2⟩ := hp
        rw [ho1] at ho2
        cases ho2
        obtain ⟨b, hb, rfl⟩ := q2 hln
        obtain ⟨hk1, hor⟩ := hr.obj _ _ ho1
        rcases hor with ⟨rfl, hmu'⟩ | ⟨b', cur, fr, hmu', hh, hfr, hcells⟩
        · rw [hb] at hmu'; cases hmu'
        rw [hb] at hmu'; cases hmu'
        have key : ∀ (i : Nat) (D : DV), ys[i]? = some D → ∃ d, x.cells[o + i]? = some d ∧ mz n m c d D = true := by
          intro i D hD
          have hi := (List.getElem?_eq_some_iff.1 hD).1
          have hd : (x.cells.drop o)[i]? = some ((x.cells.drop o)[i]'(by omega)) := List.getElem?_eq_getElem _
          refine ⟨_, ?_, e2 i _ _ hd hD⟩
          rw [List.getElem?_drop] at hd
          exact hd
        refine .vptr (fun i => (cur[j * k' + (o + i)]?).getD undef) (hμ _ _ hb) (fun i hi => ?_) (fun i D hD => ?_)
        · obtain ⟨d, f1, _⟩ := key i _ (List.getElem?_eq_getElem hi)
          obtain ⟨vv, g1, _⟩ := hcells j (o + i) x d hx f1
          rw [g1, add_mk]
          unfold World.cell?
          rw [hh]
          dsimp only
          rw [Nat.add_assoc, g1]
          rfl
        · obtain ⟨d, f1, f2⟩ := key i D hD
          obtain ⟨vv, g1, g2⟩ := hcells j (o + i) x d hx f1
          rw [g1]
          exact ih _ _ _ f2 g2
    · -- what nobody writes
      rename_i c1 k xs c2 k' ys
      obtain ⟨e, h2⟩ := beq2 h'
      replace h' := h2; clear h2
      subst e
      obtain ⟨e, h2⟩ := beq2 h'
      replace h' := h2; clear h2
      subst e
      obtain ⟨e1, e2⟩ := eqds_all _ _ h'
      cases hv with
      | @vec _ _ _ A cap u hc hm ha hk hrr =>
        have := Rep.vec (w := w) (F := F') (μ := μ') (σ := σ0) (c := c1) (k := k) (xs := ys) (A := A) (cap := cap) u (by omega) hm (fun h0 => by
          obtain ⟨a, f1, f2, f3⟩ := ha (by omega)
          exact ⟨a, f1, hF _ _ f2, fun j i hj hi => f3 j i (by omega) hi⟩) (fun y hy => by
          obtain ⟨j, hj⟩ := List.getElem?_of_mem hy
          have hjl := (List.getElem?_eq_some_iff.1 hj).1
          have hx : xs[j]? = some (xs[j]'(by omega)) := List.getElem?_eq_getElem _
          rw [← (eqds_all _ _ (e2 j _ _ hx hj)).1]
          exact hk _ (List.mem_of_getElem? hx)) (fun j i y D hy hD => by
          have hjl := (List.getElem?_eq_some_iff.1 hy).1
          have hx : xs[j]? = some (xs[j]'(by omega)) := List.getElem?_eq_getElem _
          obtain ⟨f1, f2⟩ := eqds_all _ _ (e2 j _ _ hx hy)
          have hi := (List.getElem?_eq_some_iff.1 hD).1
          have hd : (xs[j]'(by omega)).cells[i]? = some ((xs[j]'(by omega)).cells[i]'(by omega)) := List.getElem?_eq_getElem _
          exact ih _ _ _ (f2 i _ _ hd hD) (hrr j i _ _ hx hd))
        rwa [← e1] at this
    · cases h'
end

/-! ### Among other objects -/
theorem HR.empty {w : World} {F : Nat → Nat → Prop} {μ : Nat → Option Nat} {σ : List Ob} (hr : HR w F μ σ) : HR w F (fun _ => none) [] :=
  ⟨fun id o h => (by simp at h), fun _ _ => rfl, fun _ _ _ h => (by cases h), fun _ _ h => (by cases h), fun c b h => ⟨(hr.col c b h).1, fun _ e => (by cases e)⟩⟩
theorem low_cells {n : Nat} {x : DV} (h : Low n x) {i : Nat} {d : DV} (hd : x.cells[i]? = some d) : Low n d := by
  cases x with
  | agg cs => exact (low_agg cs).1 h d (List.mem_of_getElem? hd)
  | _ =>
    cases i with
    | zero => simp only [DV.cells, List.getElem?_cons_zero, Option.some.injEq] at hd; subst hd; exact h
    | succ i => simp [DV.cells] at hd
theorem Rep.low0 {w : World} {F : Nat → Nat → Prop} {μ μ' : Nat → Option Nat} {σ σ' : List Ob} {d : DV} {v : Value} (h : Rep w F μ σ d v) : Low 0 d → Rep w F μ' σ' d v := by
  induction h with
  | int => intro _; exact .int
  | bool => intro _; exact .bool
  | str => intro _; exact .str
  | vec u hc hm ha hk hr ih =>
    intro hl
    exact .vec u hc hm ha hk fun j i x d hx hd => ih j i x d hx hd (low_cells ((low_vec _ _ _).1 hl x (List.mem_of_getElem? hx)) hd)
  | agg hl h ih => intro h0; exact .agg hl fun i d v hd hv => ih i d v hd hv ((low_agg _).1 h0 d (List.mem_of_getElem? hd))
  | tup hl h ih => intro h0; exact .tup hl fun i d v hd hv => ih i d v hd hv ((low_tup _).1 h0 d (List.mem_of_getElem? hd))
  | ptr h => intro h0; exact absurd ((low_ptr _ _ _ _).1 h0) (by omega)
  | vptr u hF hu hr ih => intro h0; exact .vptr u hF hu fun i d hd => ih i d hd ((low_vptr _ _).1 h0 d (List.mem_of_getElem? hd))
  | sl h => intro h0; exact absurd ((low_sl _ _ _ _).1 h0) (by omega)
  | nils => intro _; exact .nils
  | nilp => intro _; exact .nilp
  | fn hl h ih => intro h0; exact .fn hl fun i d v hd hv => ih i d v hd hv ((low_fn _ _).1 h0 d (List.mem_of_getElem? hd))
  | nilf => intro _; exact .nilf
  | iface h ih => intro h0; exact .iface (ih ((low_iface _ _).1 h0))
  | nili => intro _; exact .nili
  | mp h ho => intro h0; exact absurd ((low_mp _).1 h0) (by omega)
  | it h ho => intro h0; exact absurd ((low_it _).1 h0) (by omega)
  | yld h ho => intro h0; exact absurd ((low_yld _).1 h0) (by omega)
  | emp => intro _; exact .emp
  | undef => intro _; exact .undef
  | skip => intro _; exact .skip
/-- What was not touched stands. -/
theorem HR.keepAll {w w' : World} {F F' : Nat → Nat → Prop} {μ : Nat → Option Nat} {σ : List Ob} (hr : HR w F μ σ) (hk : ∀ b, b < w.heap.size → w'.heap[b]? = w.heap[b]?) (hF : ∀ c b, F c b → F' c b) (hF' : ∀ c b, F' c b → F c b ∨ (w.heap.size ≤ b ∧ b < w'.heap.size)) (hs : w.heap.size ≤ w'.heap.size) :
    HR w' F' μ σ ∧ Step w F μ σ w' F' μ σ := by
  have hst : Step w F μ σ w' F' μ σ := by
    refine ⟨fun c b h => hk b (hr.col c b h).1, hF, fun id o h => ⟨o, h, Ob.ext_refl o⟩, fun id t k xs ys h h' hl => ⟨rfl, fun b cur fr hm hh => ⟨cur, fr, by rw [hk b (hr.lt _ _ hm)]; exact hh, rfl⟩⟩, fun _ _ _ _ => rfl⟩
  refine ⟨⟨fun id o h => ?_, hr.out, hr.inj, fun id b h => Nat.lt_of_lt_of_le (hr.lt id b h) hs, fun c b h => ?_⟩, hst⟩
  · have := hr.obj id o h
    cases o with
    | arr t k xs =>
      refine ⟨this.1, ?_⟩
      rcases this.2 with ⟨e1, e2⟩ | ⟨b, cu, fr, hb, hh, hfr, hcc⟩
      · exact .inl ⟨e1, e2⟩
      · refine .inr ⟨b, cu, fr, hb, by rw [hk b (hr.lt _ _ hb)]; exact hh, hfr, fun j q x d hx hd => ?_⟩
        obtain ⟨v, h1, h2⟩ := hcc j q x d hx hd
        exact ⟨v, h1, h2.step hst⟩
    | oth t ds => exact ObjRep.keep this hst h fun b hb => hk b (hr.lt _ _ hb)
    | dead => exact this
  · rcases hF' c b h with h | ⟨h1, h2⟩
    · exact ⟨Nat.lt_of_lt_of_le (hr.col c b h).1 hs, (hr.col c b h).2⟩
    · exact ⟨h2, fun id e => by have := hr.lt id b e; omega⟩
/-- A call where no objects are, among objects; its result's objects are given up. -/
theorem Ok.freeze {P : Program} {f : FuncId} {args : List DV} {d D : DV} {m : Mm} (h : Ok P f args [] (.ret d) m.obs) (hg : Good m) {n c : Nat} (hz : mz n m c d D = true) (ha : ∀ x ∈ args, Low 0 x) (σ : List Ob) : Ok P f args σ (.ret D) σ := by
  refine ⟨h.enters, fun w F μ vs hr hv => ?_⟩
  have hv0 : Reps w F (fun _ => none) [] args vs := ⟨hv.1, fun i d v hd hv' => (hv.2 i d v hd hv').low0 (ha d (List.mem_of_getElem? hd))⟩
  refine (h.calls w F _ vs hr.empty hv0).mono fun e w' he => ?_
  obtain ⟨F1, μ1, v, haf, rfl, hrep⟩ := he
  have hk : ∀ b, b < w.heap.size → w'.heap[b]? = w.heap[b]? := fun b hb => haf.fr.keep b hb fun _ e => by cases e
  have hnew : ∀ id b, μ1 id = some b → w.heap.size ≤ b := fun id b e => by
    rcases haf.fr.new id b e with e | e
    · cases e
    · exact e
  obtain ⟨k1, k2⟩ := hr.keepAll (F' := fun c' b => F1 c' b ∨ (c' = c ∧ ∃ id, μ1 id = some b)) hk (fun c b h => .inl (haf.step.col c b h)) (fun c' b h => by
    rcases h with h | ⟨_, id, h⟩
    · rcases haf.col c' b h with h2 | h2
      · exact .inl h2
      · exact .inr ⟨h2, (haf.hr.col c' b h).1⟩
    · exact .inr ⟨hnew id b h, haf.hr.lt id b h⟩) haf.fr.size
  refine ⟨_, μ, v, ⟨k1, k2, ⟨haf.fr.os, haf.fr.tape, haf.fr.output, haf.fr.size, fun b hb _ => hk b hb, fun id b e => .inl e, haf.fr.drawn⟩, fun c' b h => ?_⟩, rfl, ?_⟩
  · rcases h with h | ⟨_, id, h⟩
    · exact haf.col c' b h
    · exact .inr (hnew id b h)
  · exact mz_ok hg haf.hr (fun c b h => .inl h) (fun id b e => .inr ⟨rfl, id, e⟩) n d D v hz hrep
end Go.VL
end
section
set_option linter.unusedVariables false
set_option linter.unusedSimpArgs false
namespace Go.VL
open Go

def TrAll {α : Type} (p : Nat → α → Prop) : Tr α → (Nat → Nat) → Prop
  | .e, _ => True
  | .n o l r, g => p (g 0) o ∧ TrAll p l (fun j => g (2 * j + 1)) ∧ TrAll p r (fun j => g (2 * j + 2))
theorem TrAll.get {α : Type} {p : Nat → α → Prop} : ∀ (t : Tr α) (g : Nat → Nat), TrAll p t g → ∀ (i : Nat) (x : α), t.get i = some x → p (g i) x
  | .e, g, _, i, x, h => by cases h
  | .n o l r, g, ⟨h0, h1, h2⟩, i, x, h => by
    rw [Tr.get_n] at h
    by_cases hi : i = 0
    · subst hi
      rw [if_pos rfl] at h
      cases h
      exact h0
    · rw [if_neg hi] at h
      by_cases hm : i % 2 = 1
      · rw [if_pos hm] at h
        have := TrAll.get l _ h1 _ x h
        simpa only [show 2 * (i / 2) + 1 = i by omega] using this
      · rw [if_neg hm] at h
        have := TrAll.get r _ h2 _ x h
        simpa only [show 2 * (i / 2 - 1) + 2 = i by omega] using this
/-- What a table's entry says. -/
def FtOk (P : Program) (f : Nat) : FT → Prop
  | .code x => FnOk P f x
  | .nat g => ∀ (args : List DV) (m : Mm) (out : Out) (m' : Mm), g args m = some (out, m') → Good m → Good m' ∧ Ok P f args m.obs out m'.obs
  | .none => True
noncomputable def tabOf (t : Tr FT) : Nat → FT := fun f => match t.get f with
  | some x => x
  | none => .none
theorem tabOf_ok {P : Program} {t : Tr FT} (h : TrAll (FtOk P) t (fun j => j)) : TabOk P (tabOf t) := by
  refine ⟨fun f x hx => ?_, fun f g args m out m' hg hr hm => ?_⟩
  · unfold tabOf at hx
    split at hx
    · rename_i y hy
      subst hx
      exact TrAll.get t _ h f _ hy
    · cases hx
  · unfold tabOf at hg
    split at hg
    · rename_i y hy
      subst hg
      exact TrAll.get t _ h f _ hy args m out m' hr hm
    · cases hg
noncomputable def layOf (t : Tr (Option TI)) : Lay := fun k => match t.get k with
  | some (some i) => some i
  | _ => none
theorem layOf_ok {P : Program} {t : Tr (Option TI)} (h : TrAll (fun k (i : Option TI) => ∀ x, i = some x → TOk P k x) t (fun j => j)) : LayOk P (layOf t) := by
  intro k i hk
  unfold layOf at hk
  split at hk
  · rename_i y hy
    cases hk
    exact TrAll.get t _ h k _ hy i rfl
  · cases hk
theorem tabOk_over {P : Program} {T : Nat → FT} (hT : TabOk P T) {f : Nat} {x : FT} (hx : FtOk P f x) : TabOk P (fun g => bx (Nat.beq g f) x (T g)) := by
  have key : ∀ g, FtOk P g (bx (Nat.beq g f) x (T g)) := fun g => by
    rw [beq_if]
    split
    · rename_i e; rw [e]; exact hx
    · generalize hq : T g = q
      cases q with
      | code y => exact hT.code g y hq
      | nat h => exact fun args m out m' => hT.nat g h args m out m' hq
      | none => trivial
  refine ⟨fun g y hy => ?_, fun g h args m out m' hg hr hm => ?_⟩
  · have := key g
    rw [hy] at this
    exact this
  · have := key g
    rw [hg] at this
    exact this args m out m' hr hm
def zsec (n : Nat) : DV := .vec 0 1 (List.replicate n (.int .u8 0))
def oct (l : List Nat) : DV := .vec 0 1 (l.map fun n => .int .u8 (Int.ofNat n))
/-- A call that was run, its result's objects given up. -/
noncomputable def runs (L : Lay) (T : Nat → FT) (fuel : Nat) (f : Nat) (args : List DV) (D : DV) : Bool := match call1 L T (xexec L T fuel) (.fn f []) args ⟨.e, 0⟩ with
  | .ok (.ret d) m => mz 12 m 0 d D
  | _ => false
theorem good0 : Good ⟨.e, 0⟩ := by
  have h : MmOf ⟨.e, 0⟩ [] := ⟨rfl, rfl, fun i => rfl, fun i o h => by cases h⟩
  exact h.goodm
theorem obs0 : (⟨.e, 0⟩ : Mm).obs = [] := rfl
theorem runs_ok {P : Program} {L : Lay} {T : Nat → FT} (hL : LayOk P L) (hmx : P.follows .mixedOrders = true) (hT : TabOk P T) {fuel f : Nat} {args : List DV} {D : DV} (h : runs L T fuel f args D = true) (ha : ∀ x ∈ args, Low 0 x) (σ : List Ob) : Ok P f args σ (.ret D) σ := by
  unfold runs at h
  split at h
  · rename_i d m hk
    obtain ⟨g1, g2⟩ := ok_of_call hL hmx hT fuel hk good0
    rw [obs0] at g2
    exact Ok.freeze g2 g1 h ha σ
  · cases h
end Go.VL
end
