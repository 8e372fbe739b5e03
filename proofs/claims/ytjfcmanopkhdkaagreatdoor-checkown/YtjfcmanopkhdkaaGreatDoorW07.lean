/- Proved: the card of CheckOwn: whatever octets come in, the call returns true and they read as they did; no condition beside those the row itself lists. This text is part 7 of 17. -/
import Derived.Test.YtjfcmanopkhdkaaGreatDoorW06
section
set_option linter.unusedVariables false
set_option linter.unusedSimpArgs false
namespace Go.VL
open Go

theorem codeOk_round (x : FX) : ∀ c, codeOk x.round c = codeOk x c := by
  intro c
  induction c with
  | region id ops dr => cases dr <;> rfl
  | seq a b ia ib => simp only [codeOk, ia, ib]
  | cond q a b ia ib => simp only [codeOk, ia, ib]
  | block i b ib => simp only [codeOk, ib]
  | loop b ib => simp only [codeOk, ib]
  | scope b ib => simp only [codeOk, ib]
  | rangeFunc g ps a b ia ib => simp only [codeOk, ia, ib]
  | _ => rfl

section
variable {w : World} {F : Nat → Nat → Prop} {μ : Nat → Option Nat} {σ : List Ob}
theorem setl_ok {n : Nat} : ∀ (ps : List Nat) (args : List DV) (p0 p : List (Nat × DV)) (vs : List Value) (tm : Array Value), setl n ps args p0 = some p → Reps w F μ σ args vs → tm.size = n → (∀ t, Rep w F μ σ (lk p0 t) (tm.getD t undef)) →
    vs.length = ps.length ∧ ((ps.zip vs).foldl (fun t (q, v) => t.setIfInBounds q v) tm).size = n ∧ ∀ t, Rep w F μ σ (lk p t) (((ps.zip vs).foldl (fun t (q, v) => t.setIfInBounds q v) tm).getD t undef)
  | [], args, p0, p, vs, tm, h, hr, hs, he => by
    cases args with
    | nil =>
      have h' : some p0 = some p := h
      cases h'
      refine ⟨by have := hr.1; simpa using this.symm, ?_, ?_⟩
      · simpa using hs
      · simpa using he
    | cons d r => cases h
  | t :: ps, args, p0, p, vs, tm, h, hr, hs, he => by
    cases args with
    | nil => cases h
    | cons d r =>
      have h' : bx (Nat.ble (Nat.succ t) n) (setl n ps r (upb p0 t d)) none = some p := h
      rw [ble_if] at h'
      split at h' <;> try cases h'
      rename_i hlt
      cases vs with
      | nil => have := hr.1; simp at this
      | cons v vr =>
        have hv : Rep w F μ σ d v := hr.2 0 d v rfl rfl
        have hr' : Reps w F μ σ r vr := ⟨by have := hr.1; simpa using this, fun i x y hx hy => hr.2 (i + 1) x y (by simpa using hx) (by simpa using hy)⟩
        obtain ⟨g1, g2, g3⟩ := setl_ok ps r (upb p0 t d) p vr (tm.setIfInBounds t v) h' hr' (by simpa using hs) (fun s => by
          rw [upb_eq, lk_up, Array.getD_eq_getD_getElem?, Array.getElem?_setIfInBounds]
          by_cases e : t = s
          · subst e
            rw [if_pos rfl, if_pos rfl, if_pos (by omega)]
            exact hv
          · rw [if_neg e, if_neg e, ← Array.getD_eq_getD_getElem?]
            exact he s)
        refine ⟨by simp [g1], ?_, ?_⟩
        · simpa using g2
        · simpa using g3
theorem fold_zip (ps : List Nat) (vs : List Value) (tm : Array Value) : ((⟨ps⟩ : Array Nat).zip (⟨vs⟩ : Array Value)).foldl (fun tmps (t, a) => tmps.setIfInBounds t a) tm = (ps.zip vs).foldl (fun tmps (t, a) => tmps.setIfInBounds t a) tm := by
  rw [← Array.foldl_toList, Array.toList_zip]

theorem loop_at {id : Nat} {st : LoopState} {q : Option Code} {f : FuncId} {ps : List Tmp} {asg bo : Code} {did : Nat} {ds : List DV} (hr : HR w F μ σ) (ho : σ[id]? = some (.oth (.loop st q f ps asg bo did) ds)) :
    ∃ r d fn vs, μ id = some r ∧ μ did = some d ∧ w.heap[r]? = some (.loop { state := st, pending := q, fn, tmps := ⟨vs⟩, params := ⟨ps⟩, assign := asg, body := bo, defers := d }) ∧ Reps w F μ σ ds vs := by
  obtain ⟨_, vs, ⟨r, d, fn, h1, h2, h3⟩, hl, hv⟩ := hr.obj _ _ ho
  exact ⟨r, d, fn, vs, h1, h2, h3, hl, hv⟩
theorem loop_turn {id r d : Nat} {fn : FuncId} {st st' : LoopState} {q q' : Option Code} {f : FuncId} {ps : List Tmp} {asg bo : Code} {did : Nat} {ds : List DV} {vs : List Value} (hr : HR w F μ σ) (ho : σ[id]? = some (.oth (.loop st q f ps asg bo did) ds))
    (h1 : μ id = some r) (h2 : μ did = some d) (h4 : Reps w F μ σ ds vs) :
    HR (w.putObj r (.loop { state := st', pending := q', fn, tmps := ⟨vs⟩, params := ⟨ps⟩, assign := asg, body := bo, defers := d })) F μ (σ.set id (.oth (.loop st' q' f ps asg bo did) ds)) ∧
    Step w F μ σ (w.putObj r (.loop { state := st', pending := q', fn, tmps := ⟨vs⟩, params := ⟨ps⟩, assign := asg, body := bo, defers := d })) F μ (σ.set id (.oth (.loop st' q' f ps asg bo did) ds)) ∧
    Fr w μ (w.putObj r (.loop { state := st', pending := q', fn, tmps := ⟨vs⟩, params := ⟨ps⟩, assign := asg, body := bo, defers := d })) μ := by
  refine hr.turn (t' := .loop st' q' f ps asg bo did) _ ho h1 rfl (fun hst hb => ⟨fun i hi => ?_, vs, ⟨r, d, fn, h1, h2, hb⟩, h4.1, fun i x v hx hv => (h4.2 i x v hx hv).step hst⟩)
  obtain ⟨t', es, g⟩ := (hr.obj _ _ ho).1 i hi
  obtain ⟨o', ho', t2, ds2, rfl, _⟩ := hst.ext _ _ g
  exact ⟨t2, ds2, ho'⟩
end

theorem endRound_ok {id : Nat} {e : XE} {m : Mm} {out : Out} {m' : Mm} (h : endRound id e m = .ok out m') : ∃ st q fn ps asg bo did ds j, m.t.get id = some (.oth (.oth (.loop st q fn ps asg bo did) ds)) ∧ jumpOf e = some j ∧ out = .ret (.bool j.isNone) ∧
    m' = ⟨m.t.put id (.oth (.oth (.loop (if j.isNone then .ready else .done) j fn ps asg bo did) ds)), m.n⟩ := by
  unfold endRound at h
  split at h <;> try cases h
  rename_i st q fn ps asg bo did ds ho
  split at h <;> cases h
  · rename_i hj
    exact ⟨st, q, fn, ps, asg, bo, did, ds, none, ho, hj, rfl, rfl⟩
  · rename_i c hj
    exact ⟨st, q, fn, ps, asg, bo, did, ds, some c, ho, hj, rfl, rfl⟩

section
variable {P : Program} {L : Lay} {T : Nat → FT}
theorem roundsOk (hT : TabOk P T) : RoundsOk P T := by
  intro run hrun id args m out m' h hm
  unfold xround at h
  split at h <;> try cases h
  rename_i st0 q0 fn ps asg bo did ds ho
  split at h <;> try cases h
  rename_i x hx
  rw [bx_if] at h
  split at h <;> try cases h
  rename_i hca
  rw [bx_if] at h
  split at h <;> try cases h
  rename_i hcb
  split at h <;> try cases h
  rename_i p hp
  rw [beq_if, len_eq] at h
  split at h <;> try cases h
  rename_i hlen
  split at h <;> try cases h
  rename_i s1 hr1
  split at h <;> try cases h
  rename_i q1 f1 p1 a1 b1 d1 e1 ho1
  split at h <;> try cases h
  rename_i e s2 hr2
  obtain ⟨st2, q2, f2, p2, a2, b2, d2, e2, j, ho2, hj, rfl, rfl⟩ := endRound_ok h
  obtain ⟨hm1, hD1⟩ := hrun _ _ _ _ _ hr1 (by rw [codeOk_round]; exact hca) hm
  have hput1 := hm1.put ho1 (x := .oth (.oth (.loop .busy q1 f1 p1 a1 b1 d1) e1)) trivial
  obtain ⟨hm2, hD2⟩ := hrun _ _ _ _ _ hr2 (by rw [codeOk_round]; exact hcb) hput1.goodm
  have hput2 := hm2.put ho2 (x := .oth (.oth (.loop (if j.isNone then .ready else .done) j f2 p2 a2 b2 d2) e2)) trivial
  refine ⟨hput2.goodm, ?_⟩
  intro o st gop xs ts hop hg hargs hob ro a w F μ K' Q hh he hk
  rw [hob] at hh he hk
  have hv := he gop
  rw [hg] at hv
  obtain ⟨r, d, fn', vs, k1, k2, k3, k4⟩ := loop_at hh (MmOf.oth hm ho)
  have hge : a.eval gop = .func (.yield r) #[] #[] := by
    generalize a.eval gop = v at hv
    cases hv with
    | yld h _ => rw [k1] at h; cases h; rfl
  have hrm : Reps w F μ m.obs args (xs.toList.map a.eval) := by
    subst hargs
    refine ⟨by simp, fun i d v hd hv => ?_⟩
    rw [List.getElem?_map] at hd hv
    cases hx : xs.toList[i]? with
    | none => simp [hx] at hd
    | some x =>
      simp only [hx, Option.map_some, Option.some.injEq] at hd hv
      subst hd; subst hv
      exact he x
  have hvs : vs.length = x.n := by rw [← k4.1]; exact hlen
  obtain ⟨l1, l2, l3⟩ := setl_ok (w := w) (F := F) (μ := μ) (σ := m.obs) ps args (slotsx ds) p (xs.toList.map a.eval) ⟨vs⟩ hp hrm (by simpa using hvs) (fun t => by
    rw [slotsx_eq, lk_slots, if_pos (Nat.zero_le t), Nat.sub_zero]
    rcases Nat.lt_or_ge t ds.length with ht | ht
    · rw [List.getElem?_eq_getElem ht, Option.getD_some]
      have ht' : t < vs.length := by rw [← k4.1]; exact ht
      have : (⟨vs⟩ : Array Value).getD t undef = vs[t] := by
        rw [Array.getD_eq_getD_getElem?]
        simp [ht']
      rw [this]
      exact k4.2 t _ _ (List.getElem?_eq_getElem ht) (List.getElem?_eq_getElem ht')
    · rw [List.getElem?_eq_none ht]
      exact .undef)
  have hsz : (xs.map a.eval).size = ps.length := by simpa using l1
  have hmap : xs.map a.eval = ⟨xs.toList.map a.eval⟩ := by apply Array.ext'; simp
  have hrunop : (execOp a.eval o).run P w = .ok (.round r fn' ((ps.zip (xs.toList.map a.eval)).foldl (fun tmps (t, a) => tmps.setIfInBounds t a) ⟨vs⟩) asg bo) w := by
    unfold execOp
    rw [hop]
    dsimp only [resolve]
    rw [hge]
    simp only [Deferred.ofValue, Sem.run_bind, Sem.run_pure, Result.andThen_ok, invoke, Array.empty_append, Array.append_empty]
    have := run_yield (P := P) (args := xs.map a.eval) k3 hsz
    rw [hmap] at this ⊢
    rw [this, fold_zip]
  refine ⟨fun _ _ => trivial, ?_⟩
  show o.uponIn _ 0 P a K' Q ((o.semAt ro a.eval).run P w)
  rw [Oper.semAt_eq _ _ _ (by intro c hc; rw [hop] at hc; cases hc), hrunop, Oper.uponIn_round]
  refine ⟨fun e => (by cases e), ?_⟩
  refine roundIn_of_wpIn (F := { Fence.wide with round := ro }) trivial ?_
  let C : Ctx := ⟨P, x.n, some r, [], w, F, μ, m.obs, hh.out⟩
  have hC : CtxOk C P x.round.n x.round.rnd := ⟨rfl, rfl, fun e => by cases e⟩
  have hrel : Rel (C.at []) ((⟨[], p, m, []⟩ : FE).st x.mask) { tmps := (ps.zip (xs.toList.map a.eval)).foldl (fun tmps (t, a) => tmps.setIfInBounds t a) ⟨vs⟩, defers := [] } w := by
    refine Rel.weak (st := ⟨p, m.obs⟩) ⟨F, μ, hh, l3, Step.refl .., Fr.refl .., fun _ _ h => .inl h, l2, rfl⟩ ⟨rfl, fun t => ?_⟩
    show lk (envOf x.mask ⟨[], p, m, []⟩) t = .undef ∨ lk (envOf x.mask ⟨[], p, m, []⟩) t = lk p t
    rw [lk_envOf]
    unfold rd
    rw [bx_if, lkb_eq, lkb_eq]
    split
    · exact .inr rfl
    · exact .inl rfl
  refine wpIn_mono (hD1 C hC _ w hrel) fun ex a1' w1 q => ?_
  cases ex with
  | exit i => cases q.1
  | ret => cases q.1
  | panic ch => obtain ⟨_, _, _, _, h1, _⟩ := q; cases h1
  | goto l => exact q.elim
  | outgrown => exact q.elim
  | normal =>
    obtain ⟨_, F1, μ1, hq⟩ := q
    obtain ⟨r1, dd1, fn1, vs1, n1, n2, n3, n4⟩ := loop_at hq.hr (MmOf.oth hm1 ho1)
    have hr1' : r1 = r := by
      have := hq.step.othsame id _ _ (MmOf.oth hm ho)
      rw [n1] at this
      rw [show C.μ0 = μ from rfl, k1] at this
      exact Option.some.inj this
    subst hr1'
    obtain ⟨t1, t2, t3⟩ := loop_turn (fn := fn1) (st' := .busy) (q' := q1) hq.hr (MmOf.oth hm1 ho1) n1 n2 n4
    rw [show (s1.st x.round.mask).ob.set id (.oth (.loop .busy q1 f1 p1 a1 b1 d1) e1) = (⟨s1.m.t.put id (.oth (.oth (.loop .busy q1 f1 p1 a1 b1 d1) e1)), s1.m.n⟩ : Mm).obs from hput1.obs] at t1 t2
    refine ⟨_, run_beginRound n3 rfl, ?_⟩
    have hrel2 : Rel (C.at s1.dd) ((⟨s1.l, s1.p, ⟨s1.m.t.put id (.oth (.oth (.loop .busy q1 f1 p1 a1 b1 d1) e1)), s1.m.n⟩, s1.dd⟩ : FE).st x.mask) a1' _ :=
      ⟨F1, μ1, t1, fun t => (hq.env t).step t2, hq.step.trans t2, hq.fr.trans t3, hq.col, hq.size, DefRep.step t2 hq.defers⟩
    refine wpIn_mono (hD2 C hC _ _ hrel2) fun ex a2' w2 q => ?_
    have fin : ∀ {F2 : Nat → Nat → Prop} {μ2 : Nat → Option Nat} {a2' : Act} {w2 : World}, Rel0 (C.at s2.dd) F2 μ2 (s2.st x.mask) a2' w2 →
        ∃ v w', (Instr.endRound r1 j).run P w2 = .ok v w' ∧ K' (a.put o.dst v) w' := by
      intro F2 μ2 a2' w2 hq2
      obtain ⟨r2, dd2, fn2, vs2, m1, m2, m3, m4⟩ := loop_at hq2.hr (MmOf.oth hm2 ho2)
      have hr2' : r2 = r1 := by
        have := hq2.step.othsame id _ _ (MmOf.oth hm ho)
        rw [m1] at this
        rw [show C.μ0 = μ from rfl, k1] at this
        exact Option.some.inj this
      subst hr2'
      obtain ⟨u1, u2, u3⟩ := loop_turn (fn := fn2) (st' := if j.isNone then .ready else .done) (q' := j) hq2.hr (MmOf.oth hm2 ho2) m1 m2 m4
      rw [show (s2.st x.mask).ob.set id (.oth (.loop (if j.isNone then .ready else .done) j f2 p2 a2 b2 d2) e2) = (⟨s2.m.t.put id (.oth (.oth (.loop (if j.isNone then .ready else .done) j f2 p2 a2 b2 d2) e2)), s2.m.n⟩ : Mm).obs from hput2.obs] at u1 u2
      exact ⟨_, _, run_endRound j m3, hk _ _ F2 μ2 ⟨u1, hq2.step.trans u2, hq2.fr.trans u3, hq2.col⟩ .bool⟩
    cases ex with
    | normal =>
      obtain ⟨rfl, F2, μ2, hq2⟩ := q
      cases hj
      exact fin hq2
    | ret =>
      obtain ⟨rfl, F2, μ2, hq2⟩ := q
      cases hj
      exact fin hq2
    | exit i =>
      obtain ⟨rfl, F2, μ2, hq2⟩ := q
      cases hj
      exact fin hq2
    | panic ch => obtain ⟨d, v, F2, μ2, rfl, _⟩ := q; cases hj
    | goto l => exact q.elim
    | outgrown => exact q.elim
end
end Go.VL
end
section
set_option linter.unusedVariables false
set_option linter.unusedSimpArgs false
namespace Go.VL
open Go

theorem tmpsOf_ok (mask : Nat) (s : FE) (n : Nat) : (tmpsOf mask n s).length = n ∧ ∀ i, i < n → (tmpsOf mask n s)[i]? = some (rd mask s i) := by
  have key : ∀ n t, (@Nat.rec (fun _ => Nat → List DV) (fun _ => []) (fun _ ih t => rd mask s t :: ih (Nat.succ t)) n t : List DV) = (List.range' t n).map (rd mask s) := by
    intro n
    induction n with
    | zero => intro t; rfl
    | succ n ih =>
      intro t
      show rd mask s t :: _ = _
      rw [ih, List.range'_succ]
      rfl
  have h : tmpsOf mask n s = (List.range' 0 n).map (rd mask s) := key n 0
  rw [h]
  refine ⟨by simp, fun i hi => ?_⟩
  simp [List.getElem?_map, List.getElem?_range', hi]

section
variable {P : Program} {L : Lay} {T : Nat → FT}
theorem xrange_ok {call : DV → List DV → Mm → CR} {x : FX} {f : FuncId} {caps : List DV} {ps : List Nat} {asg bo : Code} {s s' : FE} {e : XE} {g : DV} (h : xrange call x g ps asg bo s = .ok e s') :
    ∃ f caps, g = .fn f caps ∧ x.rnd = false ∧ ∃ out m, call (.fn f caps) [.yld (Nat.succ s.m.n)] (pushX (pushX s.m (.oth (.oth .defd []))) (.oth (.oth (.loop .ready none x.fid ps asg bo s.m.n) (tmpsOf x.mask x.n s)))) = .ok out m ∧
      ((∃ d st q f1 p1 a1 b1 d1 e1, out = .ret d ∧ m.t.get (Nat.succ s.m.n) = some (.oth (.oth (.loop st q f1 p1 a1 b1 d1) e1)) ∧ st ≠ .busy ∧ jumpOf e = some q ∧
        s' = ⟨[], s.p, ⟨m.t.put (Nat.succ s.m.n) (.oth (.oth (.loop .exhausted q f1 p1 a1 b1 d1) e1)), m.n⟩, .col s.m.n :: s.dd⟩) ∨
      (∃ d, out = .pan d ∧ e = .panic d ∧ s' = ⟨[], s.p, m, .col s.m.n :: s.dd⟩)) := by
  unfold xrange at h
  split at h
  · rename_i f caps
    refine ⟨f, caps, rfl, ?_⟩
    rw [bx_if] at h
    split at h <;> try cases h
    rename_i hr
    refine ⟨by simpa using hr, ?_⟩
    split at h
    · rename_i d m hk
      refine ⟨_, m, hk, .inl ?_⟩
      split at h <;> try cases h
      rename_i st q f1 p1 a1 b1 d1 e1 ho
      have hne : ∀ {r : RR}, (match st with | .busy => RR.no "rangeFunc" | _ => r) = .ok e s' → st ≠ .busy ∧ r = .ok e s' := by
        intro r h
        cases st <;> first | exact ⟨by simp, h⟩ | cases h
      obtain ⟨hb, h⟩ := hne h
      split at h <;> cases h
      · exact ⟨d, st, none, f1, p1, a1, b1, d1, e1, rfl, ho, hb, rfl, rfl⟩
      · exact ⟨d, st, some .ret, f1, p1, a1, b1, d1, e1, rfl, ho, hb, rfl, rfl⟩
      · rename_i i; exact ⟨d, st, some (.exit i), f1, p1, a1, b1, d1, e1, rfl, ho, hb, rfl, rfl⟩
    · rename_i d m hk
      cases h
      exact ⟨_, m, hk, .inr ⟨d, rfl, rfl, rfl⟩⟩
    · cases h
  · cases h

theorem rangeOk : RangeOk P L T := by
  intro run hrun hcall x g ps asg bo s s' e h hm
  obtain ⟨f, caps, hg, hrnd, out, m2, hk, hend⟩ := xrange_ok (f := 0) (caps := []) h
  rw [cev_eq, evl_envOf] at hg
  -- the two blocks
  have hp1 := MmOf.push hm (x := .oth (.oth .defd [])) trivial
  have hp2 := hp1.push (x := .oth (.oth (.loop .ready none x.fid ps.toList asg bo s.m.n) (tmpsOf x.mask x.n s))) trivial
  have hn : s.m.n = s.m.obs.length := MmOf.n hm
  obtain ⟨hm2, _, hok⟩ := hcall _ _ _ _ _ hk hp2.goodm
  have hok := hok f caps rfl
  have e2 := hp2.obs
  change _ = (pushX (pushX s.m (.oth (.oth .defd []))) (.oth (.oth (.loop .ready none x.fid ps.toList asg bo s.m.n) (tmpsOf x.mask x.n s)))).obs at e2
  rw [← e2] at hok
  have hgood : Good s'.m := by
    rcases hend with ⟨d, st, q, f1, p1, a1, b1, d1, e1, rfl, ho, hb, hj, rfl⟩ | ⟨d, rfl, rfl, rfl⟩
    · exact (hm2.put ho (x := .oth (.oth (.loop .exhausted q f1 p1 a1 b1 d1) e1)) trivial).goodm
    · exact hm2
  refine ⟨hgood, fun C hC a w hr => ?_⟩
  have hrd : C.rd = none := hC.rd hrnd
  have hfe : C.fe = Fence.wide := by
    show { Fence.wide with round := C.rd } = Fence.wide
    rw [hrd]; rfl
  have hCP : C.P = P := hC.P
  rw [hCP, hfe]
  obtain ⟨F, μ, hr⟩ := hr
  have hv := rep_ev hr g
  rw [show (s.st x.mask).env = envOf x.mask s from rfl, hg] at hv
  have hcap : ∃ vs : List Value, a.eval g = .func (.func f) #[] ⟨vs⟩ ∧ Reps w F μ s.m.obs caps vs := by
    generalize a.eval g = v at hv
    cases hv with
    | fn hl hh => exact ⟨_, rfl, hl, hh⟩
  obtain ⟨cvs, hge, hcr⟩ := hcap
  refine wpIn_rangeFunc fun fn _ => ?_
  have hh : HR w F μ s.m.obs := hr.hr
  obtain ⟨u1, u2, u3⟩ := hh.pushAny (.deferred (some [])) (.oth .defd []) fun hst h1 h2 => ⟨fun i hi => by simp [OT.refs] at hi, [], ⟨_, _, h1, h2, fun _ => rfl⟩, rfl, fun i d v hd _ => by simp at hd⟩
  obtain ⟨w1, hw1⟩ : ∃ w1, w1 = w.alloc (.deferred (some [])) := ⟨_, rfl⟩
  obtain ⟨μ1, hμ1⟩ : ∃ μ1, μ1 = grow μ s.m.obs.length w.heap.size := ⟨_, rfl⟩
  rw [← hw1, ← hμ1] at u1 u2 u3
  have hs1 : w1.heap.size = w.heap.size + 1 := by rw [hw1]; simp
  have hd1 : μ1 s.m.n = some w.heap.size := by rw [hμ1, hn]; simp [grow]
  obtain ⟨v1, v2, v3⟩ := u1.pushAny (.loop { state := .ready, pending := none, fn, tmps := a.tmps, params := ps, assign := asg, body := bo, defers := w.heap.size }) (.oth (.loop .ready none x.fid ps.toList asg bo s.m.n) (tmpsOf x.mask x.n s)) fun hst h1 h2 => by
    refine ⟨fun i hi => ?_, a.tmps.toList, ⟨_, w.heap.size, fn, h1, ?_, h2⟩, ?_, fun i d v hd hv => ?_⟩
    · simp only [OT.refs, List.mem_singleton] at hi
      subst hi
      refine ⟨.defd, [], ?_⟩
      rw [push_get, if_neg (by simp; omega), push_get, if_pos hn]
    · have : grow μ1 (s.m.obs ++ [Ob.oth .defd []]).length w1.heap.size s.m.n = μ1 s.m.n := by
        simp only [grow]
        rw [if_neg (by simp; omega)]
      rw [this]; exact hd1
    · rw [(tmpsOf_ok x.mask s x.n).1]
      have := hr.size
      rw [show (C.at s.dd).n = C.n from rfl, hC.n] at this
      simpa using this.symm
    · have hi : i < x.n := by
        have := (List.getElem?_eq_some_iff.1 hd).1
        rwa [(tmpsOf_ok x.mask s x.n).1] at this
      rw [(tmpsOf_ok x.mask s x.n).2 i hi] at hd
      cases hd
      have h0 := ((hr.env i).step u2).step hst
      rw [show (s.st x.mask).env = envOf x.mask s from rfl, lk_envOf] at h0
      have : a.tmps.getD i undef = v := by
        rw [Array.getD_eq_getD_getElem?, ← Array.getElem?_toList, hv]
        rfl
      rw [this] at h0
      exact h0
  obtain ⟨w2, hw2⟩ : ∃ w2, w2 = w1.alloc (.loop { state := .ready, pending := none, fn, tmps := a.tmps, params := ps, assign := asg, body := bo, defers := w.heap.size }) := ⟨_, rfl⟩
  obtain ⟨μ2, hμ2⟩ : ∃ μ2, μ2 = grow μ1 (s.m.obs ++ [Ob.oth .defd []]).length w1.heap.size := ⟨_, rfl⟩
  rw [← hw2, ← hμ2] at v1 v2 v3
  have hl2 : μ2 (Nat.succ s.m.n) = some (w.heap.size + 1) := by rw [hμ2]; simp [grow, hn, hs1]
  have hd2 : μ2 s.m.n = some w.heap.size := by
    rw [hμ2]
    simp only [grow]
    rw [if_neg (by simp; omega)]; exact hd1
  have hob2 : ((s.m.obs ++ [Ob.oth .defd []]) ++ [Ob.oth (.loop .ready none x.fid ps.toList asg bo s.m.n) (tmpsOf x.mask x.n s)])[Nat.succ s.m.n]? = some (Ob.oth (.loop .ready none x.fid ps.toList asg bo s.m.n) (tmpsOf x.mask x.n s)) := by
    rw [push_get, if_pos (by simp; omega)]
  have hobd : ((s.m.obs ++ [Ob.oth .defd []]) ++ [Ob.oth (.loop .ready none x.fid ps.toList asg bo s.m.n) (tmpsOf x.mask x.n s)])[s.m.n]? = some (Ob.oth .defd []) := by
    rw [push_get, if_neg (by simp; omega), push_get, if_pos hn]
  refine ⟨w.heap.size + 1, [{ target := .collected w.heap.size, args := #[] }], w2, { target := .fn (.func f) ⟨cvs⟩, args := #[.func (.yield (w.heap.size + 1)) #[] #[]] }, w2, f, #[.func (.yield (w.heap.size + 1)) #[] #[]] ++ ⟨cvs⟩, w2, ?_, ?_, fun _ _ => trivial, ?_, fun e => (by cases e), ?_⟩
  · rw [hw2, hw1]; exact run_enterLoop_outer _ _ _ _ _
  · simp only [resolve, hge]
    simp [go_sem]
  · simp only [invoke]
    exact hok.enters _ _
  · refine (callsIn_wide (n := 0)).2 ?_
    have hargs : Reps w2 F μ2 ((s.m.obs ++ [Ob.oth .defd []]) ++ [Ob.oth (.loop .ready none x.fid ps.toList asg bo s.m.n) (tmpsOf x.mask x.n s)]) ([.yld (Nat.succ s.m.n)] ++ caps) ([.func (.yield (w.heap.size + 1)) #[] #[]] ++ cvs) := by
      refine Reps.append ⟨rfl, fun i d v hd hv => ?_⟩ ((hcr.step u2).step v2)
      rcases i with _ | i <;> simp at hd hv
      subst hd; subst hv
      exact .yld hl2 ⟨_, _, hob2, rfl⟩
    have hc := hok.calls w2 F μ2 _ v1 hargs
    rw [show (#[.func (.yield (w.heap.size + 1)) #[] #[]] ++ ⟨cvs⟩ : Array Value) = ⟨[.func (.yield (w.heap.size + 1)) #[] #[]] ++ cvs⟩ by apply Array.ext'; simp]
    refine hc.mono fun ee w3 he => ?_
    obtain ⟨F3, μ3, v, haf, hout⟩ := he
    have hl3 : μ3 (Nat.succ s.m.n) = some (w.heap.size + 1) := (haf.step.othsame _ _ _ hob2).trans hl2
    have hrel3 : Rel0 (C.at (.col s.m.n :: s.dd)) F3 μ3 ⟨envOf x.mask s, m2.obs⟩ { a with defers := [{ target := .collected w.heap.size, args := #[] }] ++ a.defers } w3 := by
      have st3 := (u2.trans v2).trans haf.step
      refine ⟨haf.hr, fun t => (hr.env t).step st3, hr.step.trans st3, hr.fr.trans ((u3.trans v3).trans haf.fr), fun c b hb => (haf.col c b hb).elim (hr.col c b) (fun q => .inr (Nat.le_trans (hr.fr.trans (u3.trans v3)).size q)), hr.size, ?_⟩
      refine ⟨_, a.defers, rfl, ?_, DefRep.step st3 hr.defers⟩
      obtain ⟨o', ho', t', ds', rfl, hk'⟩ := haf.step.ext _ _ hobd
      obtain rfl := OT.kind_defd hk'
      exact ⟨w.heap.size, ds', (haf.step.othsame _ _ _ hobd).trans hd2, ho', rfl⟩
    have hwk : ∀ {ob : List Ob} {m : Mm} {dd : List DD}, ob = m.obs → Weak ⟨envOf x.mask s, ob⟩ ((⟨[], s.p, m, dd⟩ : FE).st x.mask) := by
      intro ob m dd hob
      refine ⟨hob.symm, fun t => ?_⟩
      show lk (envOf x.mask ⟨[], s.p, m, dd⟩) t = .undef ∨ lk (envOf x.mask ⟨[], s.p, m, dd⟩) t = lk (envOf x.mask s) t
      rw [lk_envOf, lk_envOf]
      unfold rd
      rw [bx_if, bx_if]
      split
      · exact .inr rfl
      · exact .inl rfl
    rcases hend with ⟨d, st, q, f1, p1, a1, b1, d1, e1, rfl, ho, hb, hj, rfl⟩ | ⟨d, rfl, rfl, rfl⟩
    · obtain ⟨rfl, hrep⟩ := hout
      have hput := hm2.put ho (x := .oth (.oth (.loop .exhausted q f1 p1 a1 b1 d1) e1)) trivial
      obtain ⟨r1, dd1, fn1, vs1, n1, n2, n3, n4⟩ := loop_at haf.hr (MmOf.oth hm2 ho)
      rw [hl3] at n1
      obtain rfl := Option.some.inj n1
      obtain ⟨t1, t2, t3⟩ := loop_turn (fn := fn1) (st' := .exhausted) (q' := q) haf.hr (MmOf.oth hm2 ho) hl3 n2 n4
      have hobs := hput.obs
      dsimp only [FO.ob] at hobs
      rw [hobs] at t1 t2
      have hrel4 : Rel (C.at (.col s.m.n :: s.dd)) ((⟨[], s.p, ⟨m2.t.put (Nat.succ s.m.n) (.oth (.oth (.loop .exhausted q f1 p1 a1 b1 d1) e1)), m2.n⟩, .col s.m.n :: s.dd⟩ : FE).st x.mask) { a with defers := [{ target := .collected w.heap.size, args := #[] }] ++ a.defers } _ :=
        Rel.weak (st := ⟨envOf x.mask s, _⟩) ⟨F3, μ3, t1, fun t => (hrel3.env t).step t2, hrel3.step.trans t2, hrel3.fr.trans t3, hrel3.col, hrel3.size, DefRep.step t2 hrel3.defers⟩ (hwk rfl)
      refine ⟨q, _, run_endLoop n3 hb, ?_⟩
      cases e with
      | normal => cases hj; exact ⟨rfl, hrel4⟩
      | ret => cases hj; exact wpIn_ret ⟨rfl, hrel4⟩
      | exit i => cases hj; exact wpIn_exit ⟨rfl, hrel4⟩
      | panic d => cases hj
    · obtain ⟨rfl, hrep⟩ := hout
      exact ⟨d, v, F3, μ3, rfl, rfl, hrel3.weak (hwk rfl), hrep⟩
end
end Go.VL
end
section
set_option linter.unusedVariables false
set_option linter.unusedSimpArgs false
namespace Go.VL
open Go

/-! ### What is known -/
theorem lk_outs {f : Nat → Bool} (env : List (Nat × DV)) (t : Nat) : lk (env.filter fun p => f p.1) t = if f t = true then lk env t else .undef := by
  by_cases h : f t = true
  · rw [if_pos h]; exact lk_filter (f := f) h env
  · rw [if_neg h]
    refine lk_none ?_
    rintro ⟨d, hd⟩
    have := (List.mem_filter.1 hd).2
    exact h this
section
variable (C : Ctx) (L : Lay) (ops : Array Oper) (φ : List (List Ob)) (a : Nat) (I : List DI) (K : XE → St → Prop) (env0 : List (Nat × DV))
def isPan2 (E : Nat → List (Nat × DV)) (k : Nat) : Prop :=
  k ≠ a ∧ ∃ o d, ops[k]? = some o ∧ gd ops (rst (E k) (I.getD k .none).rd) o = some true ∧ (I.getD k .none).eff = true ∧
    OpDo C.P o ⟨rst (E k) (I.getD k .none).rd, φ.getD (nEff I (fun _ => true) k) []⟩ (.pan d) (φ.getD (nEff I (fun _ => true) k + 1) []) ∧ K (.panic d) ⟨outs (ops.toList.map (·.dst)) env0, φ.getD (nEff I (fun _ => true) k + 1) []⟩
def isAl (ds : Nat → DV) (k : Nat) : Prop :=
  k = a ∧ ∃ o t ti, ops[k]? = some o ∧ o.guard = none ∧ o.op = .alloc t ∧ L t = some ti ∧ ti.zero.cells.length = ti.k ∧ (I.getD k .none).eff = true ∧
    φ.getD (nEff I (fun _ => true) k + 1) [] = φ.getD (nEff I (fun _ => true) k) [] ++ [.arr t ti.k [ti.zero]] ∧ ds k = .ptr (φ.getD (nEff I (fun _ => true) k) []).length 1 0 0
def isRet2 (E : Nat → List (Nat × DV)) (ds : Nat → DV) (k : Nat) : Prop :=
  k ≠ a ∧ ∃ o, ops[k]? = some o ∧
    ((gd ops (rst (E k) (I.getD k .none).rd) o = some false ∧ ds k = .skip ∧ ((I.getD k .none).eff = true → φ.getD (nEff I (fun _ => true) k + 1) [] = φ.getD (nEff I (fun _ => true) k) [])) ∨
    (gd ops (rst (E k) (I.getD k .none).rd) o = some true ∧ (I.getD k .none).eff = true ∧ OpDo C.P o ⟨rst (E k) (I.getD k .none).rd, φ.getD (nEff I (fun _ => true) k) []⟩ (.ret (ds k)) (φ.getD (nEff I (fun _ => true) k + 1) [])) ∨
    (gd ops (rst (E k) (I.getD k .none).rd) o = some true ∧ (I.getD k .none).eff = false ∧ ∀ q ∈ (I.getD k .none).ph, OpDo C.P o ⟨rst (E k) (I.getD k .none).rd, φ.getD q []⟩ (.ret (ds k)) (φ.getD q [])))
/-- One operation in the order of the text; p: how many effects came ahead. -/
def dop2 (D : DI) (i p : Nat) (o : Oper) (env : List (Nat × DV)) (last : Bool) (next : DV → Prop) : Prop :=
  if i = a then ∃ t ti, o.guard = none ∧ o.op = .alloc t ∧ L t = some ti ∧ ti.zero.cells.length = ti.k ∧ D.eff = true ∧ φ.getD (p + 1) [] = φ.getD p [] ++ [.arr t ti.k [ti.zero]] ∧ next (.ptr (φ.getD p []).length 1 0 0)
  else match gd ops (rst env D.rd) o with
  | some false => (D.eff = true → φ.getD (p + 1) [] = φ.getD p []) ∧ next .skip
  | some true =>
    if D.eff = true then ∃ out, OpDo C.P o ⟨rst env D.rd, φ.getD p []⟩ out (φ.getD (p + 1) []) ∧ match out with
      | .ret d => next d
      | .pan d => last = true ∧ K (.panic d) ⟨outs (ops.toList.map (·.dst)) env0, φ.getD (p + 1) []⟩
    else ∃ d, (∀ q ∈ D.ph, OpDo C.P o ⟨rst env D.rd, φ.getD q []⟩ (.ret d) (φ.getD q [])) ∧ next d
  | none => False
def dwalk2 : List DI → Nat → Nat → List Oper → List (Nat × DV) → Prop
  | _, _, p, [], env => K .normal ⟨env, φ.getD p []⟩
  | [], _, _, _ :: _, _ => False
  | D :: I, i, p, o :: rest, env => dop2 C L ops φ a K env0 D i p o env rest.isEmpty fun d => dwalk2 I (i + 1) (if D.eff then p + 1 else p) rest (upo env o.dst d)
end

theorem dwalk2_out {C : Ctx} {L : Lay} {ops : Array Oper} {φ : List (List Ob)} {a : Nat} {I : List DI} {K : XE → St → Prop} {env0 : List (Nat × DV)} : ∀ (l : List Oper) (i : Nat) (env : List (Nat × DV)) (I' : List DI) (p : Nat),
    i ≤ ops.size → ops.toList.drop i = l → I.drop i = I' → p = nEff I (fun _ => true) i → dwalk2 C L ops φ a K env0 I' i p l env →
    ∃ (E : Nat → List (Nat × DV)) (ds : Nat → DV), E i = env ∧ (∀ k, i ≤ k → k < ops.size → E (k + 1) = upo (E k) (dstAt ops k) (ds k) ∧ (isAl L ops φ a I ds k ∨ isRet2 C ops φ a I E ds k ∨ isPan2 C ops φ a I K env0 E k)) ∧
      (K .normal ⟨E ops.size, φ.getD (nEff I (fun _ => true) ops.size) []⟩ ∨ ∃ k, i ≤ k ∧ k < ops.size ∧ isPan2 C ops φ a I K env0 E k) := by
  intro l
  induction l with
  | nil =>
    intro i env I' p hi hl _ hp h
    have : ops.size ≤ i := by
      have := congrArg List.length hl
      simp at this
      omega
    obtain rfl : i = ops.size := by omega
    refine ⟨fun _ => env, fun _ => .undef, rfl, fun k a b => by omega, .inl ?_⟩
    have : dwalk2 C L ops φ a K env0 I' ops.size p [] env = K .normal ⟨env, φ.getD p []⟩ := by cases I' <;> rfl
    rw [this, hp] at h
    exact h
  | cons o rest ih =>
    intro i env I' p hi hl hI hp h
    cases hI' : I' with
    | nil => rw [hI'] at h; exact h.elim
    | cons D J =>
      rw [hI'] at h hI
      have hlt : i < ops.size := by
        have := congrArg List.length hl
        simp at this
        omega
      have ho : ops[i]? = some o := by
        have := congrArg List.head? hl
        rw [List.head?_drop] at this
        simpa using this
      have hr : ops.toList.drop (i + 1) = rest := by
        have := congrArg List.tail hl
        rwa [List.tail_drop] at this
      have hD : I.getD i .none = D := by
        have := congrArg List.head? hI
        rw [List.head?_drop] at this
        simp only [List.head?_cons] at this
        rw [List.getD_eq_getElem?_getD, this]
        rfl
      have hJ : I.drop (i + 1) = J := by
        have := congrArg List.tail hI
        rwa [List.tail_drop] at this
      have hda : dstAt ops i = o.dst := by simp [dstAt, ho]
      simp only [dwalk2, dop2] at h
      have go : ∀ d, dwalk2 C L ops φ a K env0 J (i + 1) (if D.eff = true then p + 1 else p) rest (upo env o.dst d) → (∀ (E : Nat → List (Nat × DV)) (ds : Nat → DV), E i = env → ds i = d → isAl L ops φ a I ds i ∨ isRet2 C ops φ a I E ds i) →
          ∃ (E : Nat → List (Nat × DV)) (ds : Nat → DV), E i = env ∧ (∀ k, i ≤ k → k < ops.size → E (k + 1) = upo (E k) (dstAt ops k) (ds k) ∧ (isAl L ops φ a I ds k ∨ isRet2 C ops φ a I E ds k ∨ isPan2 C ops φ a I K env0 E k)) ∧
            (K .normal ⟨E ops.size, φ.getD (nEff I (fun _ => true) ops.size) []⟩ ∨ ∃ k, i ≤ k ∧ k < ops.size ∧ isPan2 C ops φ a I K env0 E k) := by
        intro d hw hret
        obtain ⟨E, ds, h0, h1, h2⟩ := ih (i + 1) _ J _ (by omega) hr hJ (by
          simp only [nEff, hD, Bool.and_true, ← hp]
          split <;> rfl) hw
        have e1 : ∀ k, i < k → (fun k => if k = i then env else E k) k = E k := fun k hk => if_neg (by omega)
        have e2 : ∀ k, i < k → (fun k => if k = i then d else ds k) k = ds k := fun k hk => if_neg (by omega)
        have pan : ∀ k, i < k → isPan2 C ops φ a I K env0 E k → isPan2 C ops φ a I K env0 (fun k => if k = i then env else E k) k := by
          intro k hk hp
          unfold isPan2
          rw [e1 k hk]
          exact hp
        refine ⟨fun k => if k = i then env else E k, fun k => if k = i then d else ds k, if_pos rfl, fun k hk hk' => ?_, ?_⟩
        · rcases Nat.eq_or_lt_of_le hk with rfl | hlt'
          · refine ⟨?_, (hret (fun k => if k = i then env else E k) (fun k => if k = i then d else ds k) (if_pos rfl) (if_pos rfl)).imp (fun q => q) (fun q => .inl q)⟩
            rw [e1 _ (by omega), h0]
            simp [hda]
          · obtain ⟨a, b⟩ := h1 k hlt' hk'
            refine ⟨?_, b.imp (fun q => ?_) (fun b => b.imp (fun q => ?_) (pan k hlt'))⟩
            · rw [e1 _ (by omega), e1 _ hlt', e2 _ hlt', a]
            · unfold isAl
              rw [e2 k hlt']
              exact q
            · unfold isRet2
              rw [e1 k hlt', e2 k hlt']
              exact q
        · refine h2.imp (fun q => ?_) (fun ⟨k, a, b, c⟩ => ⟨k, by omega, b, pan k a c⟩)
          rw [e1 _ hlt]
          exact q
      split at h
      · rename_i hia
        obtain ⟨t, ti, q1, q2, q3, q4, q5, q6, q7⟩ := h
        refine go _ q7 fun E ds he hd => .inl ⟨hia, o, t, ti, ho, q1, q2, q3, q4, by rw [hD]; exact q5, ?_, ?_⟩
        · rw [← hp]; exact q6
        · rw [hd, ← hp]
      · rename_i hia
        split at h
        · rename_i hg
          refine go _ h.2 fun E ds he hd => .inr ⟨hia, o, ho, .inl ?_⟩
          rw [he, hd, hD, ← hp]
          exact ⟨hg, rfl, h.1⟩
        · rename_i hg
          split at h
          · rename_i hE
            obtain ⟨out, hdo, hm⟩ := h
            cases out with
            | ret d =>
              refine go d (by rw [if_pos hE]; exact hm) fun E ds he hd => .inr ⟨hia, o, ho, .inr (.inl ?_)⟩
              rw [he, hd, hD, ← hp]
              exact ⟨hg, hE, hdo⟩
            | pan d =>
              replace hm : rest.isEmpty = true ∧ K (.panic d) ⟨outs (ops.toList.map (·.dst)) env0, φ.getD (p + 1) []⟩ := hm
              have hrest : rest = [] := by simpa using hm.1
              rw [hrest] at hr
              have hsz : ops.size ≤ i + 1 := by
                have := congrArg List.length hr
                simp at this
                omega
              have hpan : isPan2 C ops φ a I K env0 (fun k => if k ≤ i then env else upo env o.dst .undef) i := by
                refine ⟨hia, o, d, ho, ?_⟩
                simp only [Nat.le_refl, if_true, hD, ← hp]
                exact ⟨hg, hE, hdo, hm.2⟩
              refine ⟨fun k => if k ≤ i then env else upo env o.dst .undef, fun _ => .undef, if_pos (Nat.le_refl _), fun k a b => ?_, .inr ⟨i, Nat.le_refl _, hlt, hpan⟩⟩
              obtain rfl : k = i := by omega
              refine ⟨?_, .inr (.inr hpan)⟩
              dsimp only
              rw [if_neg (by omega), if_pos (Nat.le_refl _), hda]
          · rename_i hE
            obtain ⟨d, hdo, hm⟩ := h
            refine go d (by rw [if_neg hE]; exact hm) fun E ds he hd => .inr ⟨hia, o, ho, .inr (.inr ?_)⟩
            rw [he, hd, hD]
            exact ⟨hg, by simpa using hE, hdo⟩
        · exact h.elim
end Go.VL
end
section
set_option linter.unusedVariables false
set_option linter.unusedSimpArgs false
namespace Go.VL
open Go

/-- All effects ahead of a are listed. -/
def below (I : List DI) (f : Nat → Bool) (a : Nat) : Bool := (List.range a).all fun k => !((I.getD k .none).eff) || f k
theorem below_iff {I : List DI} {f : Nat → Bool} {a : Nat} : below I f a = true ↔ ∀ k, k < a → (I.getD k .none).eff = true → f k = true := by
  simp only [below, List.all_eq_true, List.mem_range, Bool.or_eq_true, Bool.not_eq_true']
  refine forall_congr' fun k => forall_congr' fun _ => ?_
  cases (I.getD k .none).eff <;> simp
/-- What is seen of the operations that are listed: the allocation as soon as all effects that are ahead of it in the text are listed. -/
def vis (I : List DI) (f : Nat → Bool) (a : Nat) : Nat → Bool := fun j => f j && (!(decide (j = a)) || below I f a)
def pend (I : List DI) (f : Nat → Bool) (a : Nat) : Prop := f a = true ∧ below I f a = false
section
variable {I : List DI}
theorem vis_ne {f : Nat → Bool} {a j : Nat} (h : j ≠ a) : vis I f a j = f j := by simp [vis, h]
theorem vis_at {f : Nat → Bool} {a : Nat} : vis I f a a = (f a && below I f a) := by simp [vis]
theorem vis_le {f : Nat → Bool} {a j : Nat} (h : vis I f a j = true) : f j = true := by simp only [vis, Bool.and_eq_true] at h; exact h.1
theorem vis_not {f : Nat → Bool} {a j : Nat} (h : f j = false) : vis I f a j = false := by simp [vis, h]
end

section
variable {w : World} {F : Nat → Nat → Prop} {μ : Nat → Option Nat} {σ : List Ob}
theorem HR.adopt (hr : HR w F μ σ) {b t k : Nat} {cur : Array Value} {fr : Nat × Nat} {xs : List DV} (hb : w.heap[b]? = some (.cells cur t fr)) (hfo : FrOk fr cur.size) (hn : ∀ id, μ id ≠ some b) (hF : ∀ c, ¬ F c b) (hk : ∀ y ∈ xs, y.cells.length = k)
    (hc : ∀ (j i : Nat) (y d : DV), xs[j]? = some y → y.cells[i]? = some d → ∃ v, cur[j * k + i]? = some v ∧ Rep w F μ σ d v) :
    HR w F (grow μ σ.length b) (σ ++ [.arr t k xs]) ∧ Step w F μ σ w F (grow μ σ.length b) (σ ++ [.arr t k xs]) := by
  have hst : Step w F μ σ w F (grow μ σ.length b) (σ ++ [.arr t k xs]) := by
    refine ⟨fun _ _ _ => rfl, fun _ _ h => h, fun i o h => ⟨o, ?_, Ob.ext_refl o⟩, fun i t' k' zs us h h' he => ?_, fun i tt es h => ?_⟩
    · have := (List.getElem?_eq_some_iff.1 h).1
      rw [push_get, if_neg (by omega)]; exact h
    · have hi := (List.getElem?_eq_some_iff.1 h).1
      exact ⟨by simp only [grow]; rw [if_neg (by omega)], fun q cu fr _ hq => ⟨cu, fr, hq, rfl⟩⟩
    · have hi := (List.getElem?_eq_some_iff.1 h).1
      simp only [grow]; rw [if_neg (by omega)]
  have hbl := (Array.getElem?_eq_some_iff.1 hb).1
  refine ⟨⟨fun i o h => ?_, fun i hi => ?_, fun i j q h h' => ?_, fun i q h => ?_, fun c q h => ⟨(hr.col c q h).1, fun id e => ?_⟩⟩, hst⟩
  · rw [push_get] at h
    by_cases hi : i = σ.length
    · rw [if_pos hi] at h
      cases h
      subst hi
      refine ⟨hk, .inr ⟨b, cur, fr, by simp [grow], hb, hfo, fun j i y d hy hd => ?_⟩⟩
      obtain ⟨v, h1, h2⟩ := hc j i y d hy hd
      exact ⟨v, h1, h2.step hst⟩
    · rw [if_neg hi] at h
      have := hr.obj i o h
      have hil := (List.getElem?_eq_some_iff.1 h).1
      have hg : grow μ σ.length b i = μ i := by simp only [grow]; rw [if_neg (by omega)]
      cases o with
      | arr t' k' zs =>
        refine ⟨this.1, ?_⟩
        rcases this.2 with ⟨e1, e2⟩ | ⟨b', cu, fr', hb', hh', hfr', hcc⟩
        · exact .inl ⟨e1, by rw [hg]; exact e2⟩
        · refine .inr ⟨b', cu, fr', by rw [hg]; exact hb', hh', hfr', fun j q x d hx hd => ?_⟩
          obtain ⟨v, h1, h2⟩ := hcc j q x d hx hd
          exact ⟨v, h1, h2.step hst⟩
      | oth t' ds => exact ObjRep.keep this hst h fun q hq => rfl
      | dead => show grow μ σ.length b i = none; rw [hg]; exact this
  · simp only [grow]
    rw [if_neg (by simp at hi; omega)]
    exact hr.out i (by simp at hi; omega)
  · simp only [grow] at h h'
    split at h <;> split at h'
    · omega
    · cases h; exact absurd h' (hn j)
    · cases h'; exact absurd h (hn i)
    · exact hr.inj i j q h h'
  · simp only [grow] at h
    split at h
    · cases h; exact hbl
    · exact hr.lt i q h
  · simp only [grow] at e
    split at e
    · cases e; exact hF c h
    · exact (hr.col c q h).2 id e
theorem Fr.adopt {w0 : World} {μ0 : Nat → Option Nat} (h : Fr w0 μ0 w μ) {n b : Nat} (hb : w0.heap.size ≤ b) : Fr w0 μ0 w (grow μ n b) :=
  ⟨h.os, h.tape, h.output, h.size, h.keep, fun id q e => by
    simp only [grow] at e
    split at e
    · cases e; exact .inr hb
    · exact h.new id q e, h.drawn⟩
end

/-- The allocation's block, that no object is yet. -/
def PendOk (C : Ctx) (dst : Option Nat) (t : Nat) (ti : TI) (F : Nat → Nat → Prop) (μ : Nat → Option Nat) (act : Act) (w : World) : Prop :=
  ∃ b z, ofVal z = ti.zero ∧ z.cells.size = ti.k ∧ (∀ s, dst = some s → act.tmps.getD s undef = .pointer (some ⟨b, 0, none⟩)) ∧ w.heap[b]? = some (.cells z.cells t (0, 0)) ∧ C.w0.heap.size ≤ b ∧ (∀ id, μ id ≠ some b) ∧ ∀ c, ¬ F c b
theorem PendOk.after {C : Ctx} {dst : Option Nat} {t : Nat} {ti : TI} {F F' : Nat → Nat → Prop} {μ μ' : Nat → Option Nat} {act : Act} {w w' : World} {σ σ' : List Ob} (h : PendOk C dst t ti F μ act w) (haf : After w F μ σ w' F' μ' σ') {d : Option Nat} {v : Value} (hd : ∀ s, dst = some s → d ≠ some s) :
    PendOk C dst t ti F' μ' (act.put d v) w' := by
  obtain ⟨b, z, h1, h2, h3, h4, h5, h6, h7⟩ := h
  have hbl := (Array.getElem?_eq_some_iff.1 h4).1
  refine ⟨b, z, h1, h2, fun s hs => ?_, ?_, h5, fun id e => ?_, fun c e => ?_⟩
  · rw [put_getD]
    have := hd s hs
    cases d with
    | none => exact h3 s hs
    | some q =>
      dsimp only
      rw [if_neg (fun e => this (by rw [e.1]))]
      exact h3 s hs
  · rw [haf.fr.keep b hbl h6]; exact h4
  · rcases haf.fr.new id b e with e | e
    · exact h6 id e
    · omega
  · rcases haf.col c b e with e | e
    · exact h7 c e
    · omega
theorem lk_upo_ne {e : List (Nat × DV)} {o : Option Nat} {d : DV} {t : Nat} (h : o ≠ some t) : lk (upo e o d) t = lk e t := by rw [lk_upo, if_neg h]
end Go.VL
end
section
set_option linter.unusedVariables false
set_option linter.unusedSimpArgs false
namespace Go.VL
open Go

theorem draw_any2 {C : Ctx} {L : Lay} (hL : LayOk C.P L) {ops : Array Oper} {φ : List (List Ob)} {a : Nat} {I : List DI} {K : XE → St → Prop} {E : Nat → List (Nat × DV)} {ds : Nat → DV}
    (hsz : ops.size = I.length) (hdst0 : ∀ i, dstAt ops i = (I.getD i .none).dst) (hdir0 : ∀ i, dirs ops i = (I.getD i .none).dir) (hB : drawA I C.n a = true)
    (hE : ∀ k, k < ops.size → E (k + 1) = upo (E k) (dstAt ops k) (ds k) ∧ (isAl L ops φ a I ds k ∨ isRet2 C ops φ a I E ds k ∨ isPan2 C ops φ a I K (E 0) E k))
    (hK : K .normal ⟨E ops.size, φ.getD (nEff I (fun _ => true) ops.size) []⟩ ∨ ∃ k, k < ops.size ∧ isPan2 C ops φ a I K (E 0) E k) :
    ∀ (fuel : Nat) (listed : Array Bool) (act : Act) (w : World), listed.size = ops.size →
      (∀ i, i < ops.size → listed.getD i false = true → (∀ j ∈ (I.getD i .none).pre, listed.getD j false = true) ∧ ¬ isPan2 C ops φ a I K (E 0) E i) →
      cnt (fun i => listed.getD i false) ops.size ≤ fuel →
      (∃ env F μ, Rel0 C F μ ⟨env, φ.getD (nEff I (vis I (fun i => listed.getD i false) a) ops.size) []⟩ act w ∧
        (∀ t, (pend I (fun i => listed.getD i false) a → dstAt ops a ≠ some t) → lk env t = vAt ops (E 0) ds (vis I (fun i => listed.getD i false) a) ops.size t) ∧
        (pend I (fun i => listed.getD i false) a → ∃ t ti, (∃ o, ops[a]? = some o ∧ o.op = .alloc t) ∧ L t = some ti ∧ PendOk C (dstAt ops a) t ti F μ act w)) →
      wpAnyIn C.fe 0 C.P .any ops (Post C K) fuel listed act w := by
  simp only [drawA, List.all_eq_true, List.mem_range, Bool.and_eq_true] at hB
  rw [← hsz] at hB
  have hdstf : (fun i => (I.getD i .none).dst) = dstAt ops := by funext i; exact (hdst0 i).symm
  have hdirf : (fun i => (I.getD i .none).dir) = dirs ops := by funext i; exact (hdir0 i).symm
  rw [hdstf, hdirf] at hB
  have hdirs : ∀ i, i < ops.size → ∀ j ∈ dirs ops i, j < i := fun i hi j hj => by
    have := (hB i hi).1.1.1.1
    simp only [preB, Bool.and_eq_true, List.all_eq_true, decide_eq_true_eq] at this
    exact this.1 j hj
  have hprelt : ∀ i, i < ops.size → ∀ j ∈ (I.getD i .none).pre, j < i := fun i hi j hj => by
    have := (hB i hi).1.1.1.1
    simp only [preB, Bool.and_eq_true, List.all_eq_true, decide_eq_true_eq] at this
    exact (this.2 j hj).1
  have hpre : ∀ i, i < ops.size → ∀ j ∈ (I.getD i .none).pre, j ∈ dirs ops i ∨ ∃ k ∈ dirs ops i, j ∈ (I.getD k .none).pre := fun i hi j hj => by
    have := (hB i hi).1.1.1.1
    simp only [preB, Bool.and_eq_true, List.all_eq_true, decide_eq_true_eq, Bool.or_eq_true, List.any_eq_true, List.contains_iff_mem] at this
    exact (this.2 j hj).2
  have hlon : ∀ i, i < ops.size → a ∈ (I.getD i .none).pre → ∀ j, j < a → (I.getD j .none).eff = true → j ∈ (I.getD i .none).pre := fun i hi hia j hj he => by
    have hlt := hprelt i hi a hia
    have := (hB i hi).1.2
    simp only [lonA, Bool.or_eq_true, Nat.ble_eq, List.all_eq_true, List.mem_range, List.contains_iff_mem, Bool.not_eq_true', List.contains_eq_mem, decide_eq_false_iff_not, decide_eq_true_eq] at this
    rcases this with (h | h) | h
    · omega
    · exact absurd hia h
    · rcases h j hj with h | h
      · rw [he] at h; cases h
      · exact h
  have hpair : ∀ i j, j < i → i < ops.size → (rdDst (dstAt ops j) (I.getD i .none).rd = true ∨ rdDst (dstAt ops i) (I.getD j .none).rd = true ∨ sameDst (dstAt ops j) (dstAt ops i) = true ∨ ((I.getD i .none).eff = true ∧ (I.getD j .none).eff = true ∧ i ≠ a)) → j ∈ (I.getD i .none).pre := fun i j hj hi h => by
    have := (hB i hi).2 j hj
    simp only [pairA, Bool.or_eq_true, Bool.not_eq_true', Bool.or_eq_false_iff, Bool.and_eq_false_iff, List.contains_iff_mem] at this
    rcases this with ⟨⟨⟨h1, h2⟩, h3⟩, h4⟩ | h
    · rcases h with h | h | h | ⟨h, h', hne⟩
      · rw [h1] at h; cases h
      · rw [h2] at h; cases h
      · rw [h3] at h; cases h
      · rcases h4 with (h4 | h4) | h4
        · rw [h4] at h; cases h
        · rw [h4] at h'; cases h'
        · simp only [Bool.not_eq_false', Nat.beq_eq_true_eq] at h4
          exact absurd (Nat.eq_of_beq_eq_true h4) hne
    · exact h
  have hdst : ∀ i, i < ops.size → ∀ t, dstAt ops i = some t → t < C.n := fun i hi t ht => by
    have := (hB i hi).1.1.2
    simp only [dstB, ht, decide_eq_true_eq] at this
    exact this
  have post : ∀ (listed : Array Bool) (act : Act) (w : World),
      (∀ i, i < ops.size → listed.getD i false = true → (∀ j ∈ (I.getD i .none).pre, listed.getD j false = true) ∧ ¬ isPan2 C ops φ a I K (E 0) E i) →
      (∃ env F μ, Rel0 C F μ ⟨env, φ.getD (nEff I (vis I (fun i => listed.getD i false) a) ops.size) []⟩ act w ∧
        (∀ t, (pend I (fun i => listed.getD i false) a → dstAt ops a ≠ some t) → lk env t = vAt ops (E 0) ds (vis I (fun i => listed.getD i false) a) ops.size t)) →
      (∀ i, i < ops.size → listed.getD i false = true) → listed.size = ops.size → Post C K .normal act w := by
    intro listed act w hinv ⟨env, F, μ, hrel, henv⟩ hall hls
    have hal : ∀ j, j < ops.size → vis I (fun i => listed.getD i false) a j = true := fun j hj => by
      by_cases hja : j = a
      · subst hja
        rw [vis_at, hall j hj, Bool.true_and]
        exact below_iff.2 fun k hk _ => hall k (by omega)
      · rw [vis_ne hja]; exact hall j hj
    have hnp : ¬ pend I (fun i => listed.getD i false) a := by
      rintro ⟨h1, h2⟩
      have ha : a < ops.size := by
        rcases Nat.lt_or_ge a ops.size with h | h
        · exact h
        · dsimp only at h1
          rw [Array.getD_eq_getD_getElem?, Array.getElem?_eq_none (by omega)] at h1
          cases h1
      have := hal a ha
      rw [vis_at, h2, Bool.and_false] at this
      cases this
    rcases hK with hK | ⟨k, hk, hp⟩
    · refine ⟨_, hK, Rel.weak ⟨F, μ, hrel⟩ ⟨?_, fun t => .inr ?_⟩⟩
      · dsimp only
        rw [nEff_congr (f := vis I (fun i => listed.getD i false) a) (g := fun _ => true) _ fun j hj _ => hal j hj]
      · dsimp only
        rw [henv t (fun h => absurd h hnp), vAt_congr (g := fun _ => true) _ fun j hj _ => hal j hj]
        exact (vAt_all rfl _ (fun k hk => (hE k hk).1) t).symm
    · exact absurd hp (hinv k hk (hall k hk)).2
  intro fuel
  induction fuel with
  | zero =>
    intro listed act w hs hinv hc hrel
    have hall := cnt_zero ops.size (by omega : cnt (fun i => listed.getD i false) ops.size = 0)
    obtain ⟨env, F, μ, h1, h2, _⟩ := hrel
    refine ⟨List.eq_nil_iff_forall_not_mem.2 fun i hi => ?_, post listed act w hinv ⟨env, F, μ, h1, h2⟩ hall hs⟩
    obtain ⟨h1, h2, _⟩ := mem_ready.1 hi
    have := hall i h1
    rw [getD_any (by omega) true false] at h2
    rw [h2] at this
    cases this
  | succ fuel ih =>
    intro listed act w hs hinv hc hrel
    obtain ⟨env, F, μ, hr, henv, hpd⟩ := hrel
    refine ⟨fun hrd => post listed act w hinv ⟨env, F, μ, hr, henv⟩ ?_ hs, fun i hi => ?_⟩
    · intro i
      induction i using Nat.strongRecOn with
      | _ i ihi =>
        intro hlt
        cases hf : listed.getD i false with
        | true => rfl
        | false =>
          have hmem : i ∈ Region.ready .any ops listed := by
            refine mem_ready.2 ⟨hlt, by rw [getD_any (by omega) true false]; exact hf, ops[i], Array.getElem?_eq_getElem hlt, fun e he hb => ?_⟩
            have hd : e.on ∈ dirs ops i := by
              simp only [dirs, dirsO, Array.getElem?_eq_getElem hlt]
              exact List.mem_map.2 ⟨e, List.mem_filter.2 ⟨he, hb⟩, rfl⟩
            exact ihi e.on (hdirs i hlt _ hd) (Nat.lt_trans (hdirs i hlt _ hd) hlt)
          rw [hrd] at hmem
          cases hmem
    · obtain ⟨hlt, hl, o, ho, haft⟩ := mem_ready.1 hi
      rw [getD_any (by omega) true false] at hl
      obtain ⟨f, hf⟩ : ∃ f : Nat → Bool, f = fun i => listed.getD i false := ⟨_, rfl⟩
      have hfe : ∀ k, listed.getD k false = f k := fun k => by rw [hf]
      rw [← hf] at hr henv hpd hc
      have hlf : f i = false := by rw [← hfe]; exact hl
      have hinvf : ∀ i, i < ops.size → f i = true → (∀ j ∈ (I.getD i .none).pre, f j = true) ∧ ¬ isPan2 C ops φ a I K (E 0) E i := fun i hi h => by
        have := hinv i hi (by rw [hfe]; exact h)
        exact ⟨fun j hj => by rw [← hfe]; exact this.1 j hj, this.2⟩
      have hfout : ∀ k, ops.size ≤ k → f k = false := fun k hk => by
        rw [← hfe, Array.getD_eq_getD_getElem?, Array.getElem?_eq_none (by omega)]; rfl
      have hdl : ∀ j ∈ dirs ops i, f j = true := by
        intro j hj
        simp only [dirs, dirsO, ho] at hj
        obtain ⟨e, he, rfl⟩ := List.mem_map.1 hj
        obtain ⟨he, hb⟩ := List.mem_filter.1 he
        rw [← hfe]
        exact haft e he hb
      have hpl : ∀ j ∈ (I.getD i .none).pre, f j = true := by
        intro j hj
        rcases hpre i hlt j hj with h | ⟨k, hk, h⟩
        · exact hdl j h
        · exact (hinvf k (Nat.lt_trans (hdirs i hlt k hk) hlt) (hdl k hk)).1 j h
      have hlate : ∀ j, j < ops.size → i ∈ (I.getD j .none).pre → f j = false := by
        intro j hj hm
        cases hf : f j with
        | false => rfl
        | true =>
          have := (hinvf j hj hf).1 i hm
          rw [hlf] at this
          cases this
      have hda : dstAt ops i = o.dst := by simp [dstAt, ho]
      -- what is ahead in every order is seen
      have hplv : ∀ j ∈ (I.getD i .none).pre, vis I f a j = true := by
        intro j hj
        by_cases hja : j = a
        · subst hja
          rw [vis_at, hpl j hj, Bool.true_and]
          exact below_iff.2 fun k hk he => hpl k (hlon i hlt hj k hk he)
        · rw [vis_ne hja]; exact hpl j hj
      have hrd : ∀ t ∈ (I.getD i .none).rd, lk env t = lk (E i) t := by
        intro t ht
        have hnp : pend I f a → dstAt ops a ≠ some t := by
          rintro ⟨p1, p2⟩ hda
          have ha : a < ops.size := by
            rcases Nat.lt_or_ge a ops.size with h | h
            · exact h
            · rw [hfout a h] at p1; cases p1
          rcases Nat.lt_trichotomy i a with h | h | h
          · have := (hinvf a ha p1).1 i (hpair a i h ha (.inr (.inl (by simp only [rdDst, hda]; exact List.contains_iff_mem.2 ht))))
            rw [hlf] at this; cases this
          · subst h; rw [hlf] at p1; cases p1
          · have hap := hpair i a h hlt (.inl (by simp only [rdDst, hda]; exact List.contains_iff_mem.2 ht))
            have : below I f a = true := below_iff.2 fun k hk he => hpl k (hlon i hlt hap k hk he)
            rw [p2] at this; cases this
        rw [henv t hnp, vAt_cut (i := i) _ (by omega), vAt_congr (g := fun _ => true), vAt_all rfl _ fun k hk => (hE k (by omega)).1]
        · intro j hj hd
          exact hplv j (hpair i j hj hlt (.inl (by simp only [rdDst, hd]; exact List.contains_iff_mem.2 ht)))
        · intro j hj hj' hd
          rcases Nat.eq_or_lt_of_le hj with rfl | hj
          · exact vis_not hlf
          · exact vis_not (hlate j hj' (hpair j i hj hj' (.inr (.inl (by simp only [rdDst, hd]; exact List.contains_iff_mem.2 ht)))))
      have hw : Weak ⟨env, φ.getD (nEff I (vis I f a) ops.size) []⟩ ⟨rst (E i) (I.getD i .none).rd, φ.getD (nEff I (vis I f a) ops.size) []⟩ :=
        Weak.of_agree rfl (agree_of hrd)
      have hr2 := hr.weak hw
      have heff : (I.getD i .none).eff = true → (i = a → below I f a = true) → nEff I (vis I f a) ops.size = nEff I (fun _ => true) i := by
        intro he hia
        refine nEff_at _ (by omega) (fun j hj hej => ?_) fun j hj hj' hej => ?_
        · by_cases hi : i = a
          · subst hi
            rw [vis_ne (by omega)]
            exact below_iff.1 (hia rfl) j hj hej
          · exact hplv j (hpair i j hj hlt (.inr (.inr (.inr ⟨he, hej, hi⟩))))
        · rcases Nat.eq_or_lt_of_le hj with rfl | hj
          · exact vis_not hlf
          · by_cases hja : j = a
            · subst hja
              rw [vis_at]
              have : below I f j = false := by
                cases hb : below I f j with
                | false => rfl
                | true => have := below_iff.1 hb i hj he; rw [hlf] at this; cases this
              rw [this, Bool.and_false]
            · exact vis_not (hlate j hj' (hpair j i hj hj' (.inr (.inr (.inr ⟨hej, he, hja⟩)))))
      have hd0 : ∀ t, o.dst = some t → t < C.n := fun t ht => hdst i hlt t (hda.trans ht)
      obtain ⟨f', hf'⟩ : ∃ f' : Nat → Bool, f' = fun k => decide (k = i) || f k := ⟨_, rfl⟩
      have hget : (fun k => (listed.setIfInBounds i true).getD k false) = f' := by
        rw [hf']
        funext k
        simp only [Array.getD_eq_getD_getElem?, Array.getElem?_setIfInBounds]
        by_cases hk : i = k
        · subst hk
          simp [hs, hlt]
        · rw [← hfe k, Array.getD_eq_getD_getElem?]
          simp [hk, show ¬ k = i from fun e => hk e.symm]
      have hf'i : f' i = true := by rw [hf']; simp
      have hf'k : ∀ k, k ≠ i → f' k = f k := fun k hk => by rw [hf']; simp [hk]
      have hbel : below I f a = true → below I f' a = true := fun h => below_iff.2 fun k hk he => by
        by_cases hki : k = i
        · rw [hki]; exact hf'i
        · rw [hf'k k hki]; exact below_iff.1 h k hk he
      -- the last part of a step
      have last : ∀ (act' : Act) (w' : World), ¬ isPan2 C ops φ a I K (E 0) E i →
          (∃ env F μ, Rel0 C F μ ⟨env, φ.getD (nEff I (vis I f' a) ops.size) []⟩ act' w' ∧
            (∀ t, (pend I f' a → dstAt ops a ≠ some t) → lk env t = vAt ops (E 0) ds (vis I f' a) ops.size t) ∧
            (pend I f' a → ∃ t ti, (∃ o, ops[a]? = some o ∧ o.op = .alloc t) ∧ L t = some ti ∧ PendOk C (dstAt ops a) t ti F μ act' w')) →
          wpAnyIn C.fe 0 C.P .any ops (Post C K) fuel (listed.setIfInBounds i true) act' w' := by
        intro act' w' hnp h
        refine ih _ _ _ (by simp [hs]) ?_ ?_ (by rw [hget]; exact h)
        · intro k hk hfk
          have e : ∀ k, (listed.setIfInBounds i true).getD k false = f' k := fun k => congrFun hget k
          rw [e] at hfk
          by_cases hki : k = i
          · subst hki
            refine ⟨fun j hj => ?_, hnp⟩
            rw [e]
            by_cases hjk : j = k
            · rw [hjk]; exact hf'i
            · rw [hf'k j hjk]; exact hpl j hj
          · rw [hf'k k hki] at hfk
            refine ⟨fun j hj => ?_, (hinvf k hk hfk).2⟩
            rw [e]
            by_cases hji : j = i
            · rw [hji]; exact hf'i
            · rw [hf'k j hji]; exact (hinvf k hk hfk).1 j hj
        · rw [hget, hf']
          have := cnt_set (f := f) hlf ops.size
          rw [if_pos hlt] at this
          omega
      have hveq : (i = a → below I f a = true) → (pend I f a → below I f' a = false) → vis I f' a = fun k => decide (k = i) || vis I f a k := by
        intro hia hpb
        funext k
        by_cases hka : k = a
        · subst hka
          rw [vis_at, vis_at]
          by_cases hki : k = i
          · rw [hki, hf'i]
            simp only [decide_true, Bool.true_or, Bool.true_and]
            rw [← hki]
            exact hbel (hia hki.symm)
          · rw [hf'k k hki]
            simp only [hki, decide_false, Bool.false_or]
            cases hfk : f k with
            | false => rfl
            | true =>
              simp only [Bool.true_and]
              cases hb : below I f k with
              | true => exact hbel hb
              | false => exact hpb ⟨hfk, hb⟩
        · rw [vis_ne hka, vis_ne hka, hf']
      have hpend : pend I f' a → (i = a → below I f a = true) → pend I f a ∧ below I f' a = false := by
        rintro ⟨h1, h2⟩ hia
        have hb : below I f a = false := by
          cases hb : below I f a with
          | false => rfl
          | true => rw [hbel hb] at h2; cases h2
        refine ⟨⟨?_, hb⟩, h2⟩
        by_cases hai : a = i
        · have := hia hai.symm
          rw [hb] at this; cases this
        · rwa [hf'k a hai] at h1
      -- what follows an operation that was done
      have next : ∀ (v : Value) (w' : World) (d : DV) (F' : Nat → Nat → Prop) (μ' : Nat → Option Nat), ¬ isPan2 C ops φ a I K (E 0) E i → (i = a → below I f a = true) → d = ds i →
          Rel0 C F' μ' ⟨upo env o.dst d, φ.getD (nEff I (fun k => decide (k = i) || vis I f a k) ops.size) []⟩ (act.put o.dst v) w' →
          (pend I f a → ∃ t ti, (∃ o, ops[a]? = some o ∧ o.op = .alloc t) ∧ L t = some ti ∧ PendOk C (dstAt ops a) t ti F' μ' (act.put o.dst v) w') →
          wpAnyIn C.fe 0 C.P .any ops (Post C K) fuel (listed.setIfInBounds i true) (act.put o.dst v) w' := by
        rintro v w' _ F' μ' hnp hia rfl hrel' hpd'
        refine last _ _ hnp ?_
        have hset : ∀ t, (pend I f a → dstAt ops a ≠ some t) → lk (upo env o.dst (ds i)) t = vAt ops (E 0) ds (fun k => decide (k = i) || vis I f a k) ops.size t := by
          intro t ht
          rw [vAt_set _ hlt (fun j hj hj' hd hd' => vis_not (hlate j hj' (hpair j i hj hj' (.inr (.inr (.inl (by simp only [sameDst, hd', hd]; exact beq_self_eq_true _))))))), lk_upo, hda, henv t ht]
        by_cases hpb : pend I f a ∧ below I f' a = true
        · -- the allocation's block becomes an object
          obtain ⟨hp, hb'⟩ := hpb
          have ha : a < ops.size := by
            rcases Nat.lt_or_ge a ops.size with h | h
            · exact h
            · have h9 := hp.1; rw [hfout a h] at h9; cases h9
          have hia' : i ≠ a := fun e => by rw [e] at hlf; rw [hp.1] at hlf; cases hlf
          have hila : i < a ∧ (I.getD i .none).eff = true := by
            cases hb0 : below I f a with
            | true => rw [hp.2] at hb0; cases hb0
            | false =>
              refine Decidable.byContradiction fun hcon => ?_
              have : below I f a = true := below_iff.2 fun k hk he => by
                have := below_iff.1 hb' k hk he
                rwa [hf'k k (fun e => hcon ⟨by omega, by rw [← e]; exact he⟩)] at this
              rw [hb0] at this; cases this
          have hlate2 : ∀ j, j < ops.size → a ∈ (I.getD j .none).pre → f j = false := fun j hj haj => hlate j hj (hlon j hj haj i hila.1 hila.2)
          obtain ⟨_, hal⟩ := hE a ha
          have hal : isAl L ops φ a I ds a := by
            rcases hal with h | h | h
            · exact h
            · exact absurd rfl h.1
            · exact absurd rfl h.1
          obtain ⟨_, oa, t, ti, ho', hgn, hop, ht, hk, he, hφ, hds⟩ := hal
          obtain ⟨t2, ti2, ⟨o2, ho2, hop2⟩, ht2, hpk⟩ := hpd' hp
          rw [ho'] at ho2; cases ho2
          rw [hop] at hop2; cases hop2
          rw [ht] at ht2; cases ht2
          obtain ⟨b, z, z1, z2, z3, z4, z5, z6, z7⟩ := hpk
          have hvis' : vis I f' a = fun k => decide (k = a) || (decide (k = i) || vis I f a k) := by
            funext k
            by_cases hka : k = a
            · subst hka
              rw [vis_at, hb', hf'k k (fun e => hia' e.symm), hp.1]
              simp
            · rw [vis_ne hka, vis_ne hka, hf']
              simp [hka]
          have hca : (decide (a = i) || vis I f a a) = false := by
            rw [vis_at, hp.2]
            simp only [Bool.and_false, Bool.or_false, decide_eq_false_iff_not]
            exact fun e => hia' e.symm
          have hph : nEff I (fun k => decide (k = i) || vis I f a k) ops.size = nEff I (fun _ => true) a := by
            refine nEff_at _ (by omega) (fun j hj hej => ?_) fun j hj hj' hej => ?_
            · have hjf := below_iff.1 hb' j hj hej
              by_cases hji : j = i
              · simp [hji]
              · rw [hf'k j hji] at hjf
                rw [vis_ne (by omega), hjf]
                simp
            · rcases Nat.eq_or_lt_of_le hj with rfl | hj
              · exact hca
              · have := hila.1
                rw [vis_ne (by omega), hlate2 j hj' (hpair j a hj hj' (.inr (.inr (.inr ⟨hej, he, by omega⟩))))]
                have : j ≠ i := by omega
                simp [this]
          have hadd : nEff I (vis I f' a) ops.size = nEff I (fun _ => true) a + 1 := by
            rw [hvis', nEff_set (f := fun k => decide (k = i) || vis I f a k) hca, if_pos ⟨he, ha⟩, hph]
          rw [hph] at hrel'
          obtain ⟨g1, g2⟩ := hrel'.hr.adopt (t := t) (k := ti.k) (xs := [ti.zero]) z4 (.zero _) z6 z7 (by simpa using hk) (fun j i y d hy hd => by
            cases j with
            | zero =>
              simp only [List.getElem?_cons_zero, Option.some.injEq] at hy
              subst hy
              simp only [Nat.zero_mul, Nat.zero_add]
              exact rep_cells' (by rw [← z1]; exact rep_ofVal z) (by rw [z2, hk]) i d hd
            | succ j => simp at hy)
          dsimp only at g1 g2
          rw [← hφ] at g1 g2
          rw [hadd]
          refine ⟨upo (upo env o.dst (ds i)) (dstAt ops a) (ds a), F', grow μ' (φ.getD (nEff I (fun _ => true) a) []).length b, ⟨g1, fun s => ?_, hrel'.step.trans g2, hrel'.fr.adopt z5, hrel'.col, hrel'.size, DefRep.step g2 hrel'.defers⟩, fun s _ => ?_, fun hp' => ?_⟩
          · dsimp only
            rw [lk_upo]
            split
            · rename_i hs
              rw [z3 s hs, hds, hφ]
              refine .ptr ⟨t, ti.k, [ti.zero], by simp, by simp, fun _ => ⟨b, by simp [grow], by simp⟩⟩
            · exact (hrel'.env s).step g2
          · rw [lk_upo, hvis', vAt_set (f := fun k => decide (k = i) || vis I f a k) _ ha (fun j hj hj' hd1 hd2 => ?_)]
            · split
              · rfl
              · rename_i hs
                exact hset s fun _ => hs
            · have := hila.1
              rw [vis_ne (by omega), hlate2 j hj' (hpair j a hj hj' (.inr (.inr (.inl (by simp only [sameDst, hd1, hd2]; exact beq_self_eq_true _)))))]
              have : j ≠ i := by omega
              simp [this]
          · obtain ⟨_, h2⟩ := hp'
            rw [hb'] at h2; cases h2
        · have hpb' : pend I f a → below I f' a = false := fun h => by
            cases hb : below I f' a with
            | false => rfl
            | true => exact absurd ⟨h, hb⟩ hpb
          rw [hveq hia hpb']
          exact ⟨upo env o.dst (ds i), F', μ', hrel', fun t ht => hset t (fun h => by
            by_cases hai : a = i
            · have := hia hai.symm
              rw [h.2] at this; cases this
            · exact ht ⟨by rw [hf'k a hai]; exact h.1, hpb' h⟩), fun h => hpd' (hpend h hia).1⟩
      have hpa : ∀ {w' : World} {F' : Nat → Nat → Prop} {μ' : Nat → Option Nat} {σ' : List Ob} {v : Value}, After w F μ (φ.getD (nEff I (vis I f a) ops.size) []) w' F' μ' σ' →
          (pend I f a → ∃ t ti, (∃ o, ops[a]? = some o ∧ o.op = .alloc t) ∧ L t = some ti ∧ PendOk C (dstAt ops a) t ti F' μ' (act.put o.dst v) w') := by
        intro w' F' μ' σ' v haf hp
        obtain ⟨t, ti, h1, h2, h3⟩ := hpd hp
        refine ⟨t, ti, h1, h2, h3.after haf fun s hs hd => ?_⟩
        have ha : a < ops.size := by
          rcases Nat.lt_or_ge a ops.size with h | h
          · exact h
          · have h9 := hp.1; rw [hfout a h] at h9; cases h9
        rw [← hda] at hd
        rcases Nat.lt_trichotomy i a with h | h | h
        · have := (hinvf a ha hp.1).1 i (hpair a i h ha (.inr (.inr (.inl (by simp only [sameDst, hs, hd]; exact beq_self_eq_true _)))))
          rw [hlf] at this; cases this
        · subst h; have h9 := hp.1; rw [hlf] at h9; cases h9
        · have hap := hpair i a h hlt (.inr (.inr (.inl (by simp only [sameDst, hs, hd]; exact beq_self_eq_true _))))
          have : below I f a = true := below_iff.2 fun k hk he => hpl k (hlon i hlt hap k hk he)
          rw [hp.2] at this; cases this
      simp only [wpOpIn, ho]
      by_cases hia : i = a
      · -- the allocation
        have hal : isAl L ops φ a I ds i := by
          rcases (hE i hlt).2 with h | h | h
          · exact h
          · exact absurd hia h.1
          · exact absurd hia h.1
        obtain ⟨_, oa, t, ti, ho', hgn, hop, ht, hk, he, hφ, hds⟩ := hal
        obtain rfl : o = oa := Option.some.inj (ho.symm.trans ho')
        have hnp : ¬ isPan2 C ops φ a I K (E 0) E i := fun h => h.1 hia
        have hg : gd ops (rst (E i) (I.getD i .none).rd) o = some true := by unfold gd; rw [hgn]
        rw [if_pos (gd_wanted hr2 hg)]
        cases hb : below I f a with
        | true =>
          have hph := heff he fun _ => hb
          have hdo := OpDo.of_run (OpRun.alloc (P := C.P) (o := o) (st := ⟨rst (E i) (I.getD i .none).rd, φ.getD (nEff I (fun _ => true) i) []⟩) hL hop ht hk)
          rw [hph] at hr2
          have hr' := hr
          rw [hph] at hr'
          refine hdo C.rd act w F μ _ _ hr2.hr (rep_ev hr2) fun v w' F' μ' haf hrep => next v w' _ F' μ' hnp (fun _ => hb) hds.symm ?_ ?_
          · rw [nEff_set (f := vis I f a) (vis_not hlf), if_pos ⟨he, hlt⟩, hph, hφ]
            exact ⟨haf.hr, env_put (C := C) (st := ⟨env, φ.getD (nEff I (fun _ => true) i) []⟩) hr'.size (fun t => (hr'.env t).step haf.step) o.dst hd0 hrep, hr'.step.trans haf.step, hr'.fr.trans haf.fr,
              fun c b hb => (haf.col c b hb).elim (hr'.col c b) (fun q => .inr (Nat.le_trans hr'.fr.size q)), by rw [put_size]; exact hr'.size, by rw [put_defers]; exact hr'.defers.step haf.step⟩
          · intro hp
            rw [hp.2] at hb; cases hb
        | false =>
          obtain ⟨z, hz, hzs, hzo⟩ := (hL _ _ ht).zero w
          have hrun : (execOp act.eval o).run C.P w = .ok (.value (.pointer (some ⟨w.heap.size, 0, none⟩))) (w.alloc (.cells z.cells t)) := by
            simp only [execOp, hop, Instr.alloc, Sem.run_bind, hz, Result.andThen_ok, run_newVar, Sem.run_pure]
          obtain ⟨g1, g2, g3⟩ := hr.hr.garbage (.cells z.cells t)
          refine wpIn_of_wp (.inr fun c hc => by rw [hop] at hc; cases hc) ?_
          unfold Oper.wp
          rw [hrun]
          refine last _ _ hnp ?_
          have hfa : f a = false := by rw [← hia]; exact hlf
          have hb' : below I f' a = false := by
            cases hb' : below I f' a with
            | false => rfl
            | true =>
              have : below I f a = true := below_iff.2 fun k hk he => by
                have := below_iff.1 hb' k hk he
                rwa [hf'k k (by omega)] at this
              rw [hb] at this; cases this
          have hv : vis I f' a = vis I f a := by
            funext k
            by_cases hka : k = a
            · subst hka
              rw [vis_at, vis_at, hb', hb, Bool.and_false, Bool.and_false]
            · rw [vis_ne hka, vis_ne hka, hf'k k (by omega)]
          rw [hv]
          have hnpf : ¬ pend I f a := fun h => by rw [h.1] at hfa; cases hfa
          refine ⟨upo env o.dst .undef, F, μ, ⟨g1, env_put (C := C) (st := ⟨env, _⟩) hr.size (fun t => (hr.env t).step g2) o.dst hd0 .undef, hr.step.trans g2, hr.fr.trans g3, hr.col, by rw [put_size]; exact hr.size, by rw [put_defers]; exact hr.defers.step g2⟩, fun s hs => ?_, fun _ => ?_⟩
          · have hne := hs ⟨by rw [← hia]; exact hf'i, hb'⟩
            rw [← hia, hda] at hne
            rw [lk_upo_ne hne]
            exact henv s fun h => absurd h hnpf
          · refine ⟨t, ti, ⟨o, by rw [← hia]; exact ho, hop⟩, ht, w.heap.size, z, hzo, hzs, fun s hs => ?_, ?_, hr.fr.size, fun id e => ?_, fun c e => ?_⟩
            · rw [← hia, hda] at hs
              rw [put_getD, hs]
              dsimp only
              rw [if_pos ⟨rfl, by rw [hr.size]; exact hd0 s hs⟩]
            · rw [alloc_get, if_pos rfl]
            · have := hr.hr.lt _ _ e; omega
            · have := (hr.hr.col _ _ e).1; omega
      · by_cases hpan : isPan2 C ops φ a I K (E 0) E i
        · obtain ⟨_, o', d, ho', hg, he, hdo, hk⟩ := hpan
          obtain rfl : o = o' := Option.some.inj (ho.symm.trans ho')
          rw [if_pos (gd_wanted hr2 hg)]
          have hph := heff he fun h => absurd h hia
          rw [hph] at hr2
          refine (hdo C.rd act w F μ _ _ hr2.hr (rep_ev hr2) fun v w' F' μ' haf hrep => ?_)
          refine ⟨_, d, v, F', μ', hk, rfl, ⟨haf.hr, fun t => ?_, hr2.step.trans haf.step, hr2.fr.trans haf.fr,
            fun c b hb => (haf.col c b hb).elim (hr2.col c b) (fun q => .inr (Nat.le_trans hr2.fr.size q)), hr2.size, hr2.defers.step haf.step⟩, hrep⟩
          dsimp only
          unfold outs
          rw [lk_outs (f := notDst (ops.toList.map (·.dst)))]
          split
          · rename_i hnd
            have hno : ∀ j, j < ops.size → dstAt ops j ≠ some t := by
              intro j hj hd
              simp only [notDst, List.all_eq_true, List.mem_map, bne_iff_ne, ne_eq, forall_exists_index, and_imp, forall_apply_eq_imp_iff₂] at hnd
              refine hnd ops[j] (by simp) ?_
              simpa [dstAt, hj] using hd
            have h0 : lk env t = lk (E 0) t := by
              have ha' : pend I f a → dstAt ops a ≠ some t := by
                rintro ⟨p1, _⟩
                rcases Nat.lt_or_ge a ops.size with h | h
                · exact hno a h
                · rw [hfout a h] at p1; cases p1
              rw [henv t ha', vAt_cut (i := 0) _ (Nat.zero_le _) (fun j _ hj hd => absurd hd (hno j hj))]
              rfl
            rw [← h0]
            rw [hph] at hr
            exact (hr.env t).step haf.step
          · exact .undef
        · have hret : isRet2 C ops φ a I E ds i := by
            rcases (hE i hlt).2 with h | h | h
            · exact absurd h.1 hia
            · exact h
            · exact absurd h hpan
          obtain ⟨_, o', ho', hret⟩ := hret
          obtain rfl : o = o' := Option.some.inj (ho.symm.trans ho')
          rcases hret with ⟨hg, hd, he⟩ | ⟨hg, he, hdo⟩ | ⟨hg, he, hdo⟩
          · rw [if_neg (by rw [gd_wanted hr2 hg]; simp)]
            refine ⟨fun _ _ => trivial, ?_⟩
            refine next undef w .skip F μ hpan (fun h => absurd h hia) hd.symm ?_ ?_
            · have hoo : φ.getD (nEff I (fun k => decide (k = i) || vis I f a k) ops.size) [] = φ.getD (nEff I (vis I f a) ops.size) [] := by
                rw [nEff_set (f := vis I f a) (vis_not hlf)]
                cases hq : (I.getD i .none).eff with
                | false => simp
                | true => rw [if_pos ⟨rfl, hlt⟩, heff hq (fun h => absurd h hia)]; exact he hq
              rw [hoo]
              exact ⟨hr.hr, env_put (C := C) (st := ⟨env, _⟩) hr.size hr.env o.dst hd0 .skip, hr.step, hr.fr, hr.col, by rw [put_size]; exact hr.size, by rw [put_defers]; exact hr.defers⟩
            · exact hpa ⟨hr.hr, Step.refl .., Fr.refl .., fun _ _ h => .inl h⟩
          · rw [if_pos (gd_wanted hr2 hg)]
            have hph := heff he fun h => absurd h hia
            have hpa' := @hpa
            rw [hph] at hr2 hr hpa'
            refine (hdo C.rd act w F μ _ _ hr2.hr (rep_ev hr2) fun v w' F' μ' haf hrep => next v w' _ F' μ' hpan (fun h => absurd h hia) rfl ?_ (hpa' haf))
            rw [nEff_set (f := vis I f a) (vis_not hlf), if_pos ⟨he, hlt⟩, hph]
            exact ⟨haf.hr, env_put (C := C) (st := ⟨env, φ.getD (nEff I (fun _ => true) i) []⟩) hr.size (fun t => (hr.env t).step haf.step) o.dst hd0 hrep, hr.step.trans haf.step, hr.fr.trans haf.fr,
              fun c b hb => (haf.col c b hb).elim (hr.col c b) (fun q => .inr (Nat.le_trans hr.fr.size q)), by rw [put_size]; exact hr.size, by rw [put_defers]; exact hr.defers.step haf.step⟩
          · rw [if_pos (gd_wanted hr2 hg)]
            have hph : nEff I (vis I f a) ops.size ∈ (I.getD i .none).ph := by
              have := (hB i hlt).1.1.1.2
              simp only [phB, he, Bool.false_or, List.all_eq_true, List.mem_range, Bool.or_eq_true, decide_eq_true_eq, List.contains_iff_mem] at this
              rcases this (nEff I (vis I f a) ops.size) (by have := nEff_le (I := I) (f := vis I f a) ops.size; omega) with (h | h) | h
              · refine absurd h (Nat.not_lt.2 ?_)
                exact nEff_mono _ fun j hj _ hc => hplv j (List.contains_iff_mem.1 hc)
              · refine absurd h (Nat.not_lt.2 ?_)
                refine nEff_mono _ fun j hj _ hc => ?_
                cases hq : (I.getD j .none).pre.contains i with
                | false => rfl
                | true =>
                  rw [vis_not (hlate j hj (List.contains_iff_mem.1 hq))] at hc
                  cases hc
              · exact h
            refine (hdo _ hph C.rd act w F μ _ _ hr2.hr (rep_ev hr2) fun v w' F' μ' haf hrep => next v w' _ F' μ' hpan (fun h => absurd h hia) rfl ?_ (hpa haf))
            rw [nEff_set (f := vis I f a) (vis_not hlf), if_neg (fun h => by rw [he] at h; cases h.1), Nat.add_zero]
            exact ⟨haf.hr, env_put (C := C) (st := ⟨env, _⟩) hr.size (fun t => (hr.env t).step haf.step) o.dst hd0 hrep, hr.step.trans haf.step, hr.fr.trans haf.fr,
              fun c b hb => (haf.col c b hb).elim (hr.col c b) (fun q => .inr (Nat.le_trans hr.fr.size q)), by rw [put_size]; exact hr.size, by rw [put_defers]; exact hr.defers.step haf.step⟩
end Go.VL
end
section
set_option linter.unusedVariables false
set_option linter.unusedSimpArgs false
namespace Go.VL
open Go

theorem eqds_ok {f : DV → DV → Bool} (hf : ∀ x y, f x y = true → x = y) : ∀ a b, eqds f a b = true → a = b
  | [], [], _ => rfl
  | [], y :: r, h => by cases h
  | x :: q, [], h => by cases h
  | x :: q, y :: r, h => by
    have h' : bx (f x y) (eqds f q r) false = true := h
    rw [bx_if] at h'
    split at h' <;> try cases h'
    rename_i hx
    rw [hf x y hx, eqds_ok hf q r h']
theorem beq2 {a b : Nat} {c : Bool} (h : bx (Nat.beq a b) c false = true) : a = b ∧ c = true := by
  rw [beq_if] at h
  split at h
  · rename_i e; exact ⟨e, h⟩
  · cases h
theorem eqd_ok : ∀ n a b, eqd n a b = true → a = b
  | 0, a, b, h => by cases h
  | n + 1, a, b, h => by
    have ih := eqd_ok n
    have h' : eqd1 (eqd n) a b = true := h
    unfold eqd1 at h'
    split at h'
    · obtain ⟨h1, h2⟩ := beq2 h'
      rw [(kidx_iff _ _).1 h1, (eqx_iff _ _).1 h2]
    · rename_i x y
      revert h'
      cases x <;> cases y <;> intro h' <;> first | rfl | cases h'
    · rename_i x y
      have := (eqs_iff _ _).1 h'
      rw [mapx_eq, mapx_eq] at this
      have h2 : x.data.toList = y.data.toList := by
        exact (List.map_inj_right (fun a b e => UInt8.toNat_inj.1 e)).1 this
      have : x = y := by
        cases x; cases y
        congr 1
        exact Array.ext' h2
      rw [this]
    · obtain ⟨h1, h2⟩ := beq2 h'
      obtain ⟨h3, h4⟩ := beq2 h2
      obtain ⟨h5, h6⟩ := beq2 h4
      rw [h1, h3, h5, Nat.eq_of_beq_eq_true h6]
    · obtain ⟨h1, h2⟩ := beq2 h'
      obtain ⟨h3, h4⟩ := beq2 h2
      obtain ⟨h5, h6⟩ := beq2 h4
      rw [h1, h3, h5, Nat.eq_of_beq_eq_true h6]
    all_goals first
      | rfl
      | (rw [Nat.eq_of_beq_eq_true h']; done)
      | (rw [eqds_ok ih _ _ h']; done)
      | (obtain ⟨h1, h2⟩ := beq2 h'; rw [h1, eqds_ok ih _ _ h2]; done)
      | (obtain ⟨h1, h2⟩ := beq2 h'; rw [h1, ih _ _ h2]; done)
      | (obtain ⟨h1, h2⟩ := beq2 h'; obtain ⟨h3, h4⟩ := beq2 h2; rw [h1, h3, eqds_ok ih _ _ h4]; done)
      | cases h'

section
variable {P : Program} {L : Lay} {mask : Nat} {call : DV → List DV → Mm → CR}
theorem rst_of {env : List (Nat × DV)} {mask : Nat} {s : FE} (h : ∀ t, lk env t = rd mask s t) (l : List Nat) : mapx (fun t => (t, rd mask s t)) l = rst env l := by
  rw [mapx_eq]
  unfold rst
  exact List.map_congr_left fun t _ => by rw [h t]
theorem cel_ev (env : List (Nat × DV)) (x : Operand) : (cel x).f env = ev env x := by
  rw [cel_eq]
  cases x with
  | tmp t => exact lkb_eq _ _
  | _ => rfl
theorem xlog_ok {φ : List Mm} {r : RR} : ∀ (log : List DLog) {e : XE} {s : FE}, xlog L φ r log = .ok e s → r = .ok e s ∧ ∀ g ∈ log, xlog1 L φ g = true
  | [], e, s, h => ⟨h, by simp⟩
  | g :: log, e, s, h => by
    have h' : bx (xlog1 L φ g) (xlog L φ r log) (.no g.pos) = .ok e s := h
    rw [bx_if] at h'
    split at h' <;> try cases h'
    rename_i hg
    obtain ⟨h1, h2⟩ := xlog_ok log h'
    refine ⟨h1, fun q hq => ?_⟩
    rcases List.mem_cons.1 hq with rfl | hq
    · exact hg
    · exact h2 q hq
theorem allocX_out {m m' : Mm} {t : Nat} {d : DV} (h : allocX L m t = some (d, m')) : ∃ ti, L t = some ti ∧ ti.zero.cells.length = ti.k ∧ d = .ptr m.n 1 0 0 ∧ m' = pushX m (.arr t ti.k 1 (allx DV.one ti.zero.cells) [ti.zero]) := by
  unfold allocX at h
  split at h <;> try cases h
  rename_i ti ht
  rw [beq_if, len_eq] at h
  split at h <;> cases h
  rename_i hk
  exact ⟨ti, ht, hk, rfl, rfl⟩
end

theorem xdraw_cons {L : Lay} {mask : Nat} {ops : List Oper} {call : DV → List DV → Mm → CR} {o : Oper} {rest : List Oper} {D : DI} {I' : List DI} {s : FE} :
    xdraw L mask ops call (o :: rest) (D :: I') s = match xgd ops (lkb (mapx (fun t => (t, rd mask s t)) D.rd)) o with
      | some false => bx D.eff ((xdraw L mask ops call rest I' (wr mask s o.dst .skip)).at s.m) (xdraw L mask ops call rest I' (wr mask s o.dst .skip))
      | some true => bx D.eff
          (match o.op with
          | .call { callee := .value g, args := xs, .. } => match call ((cel g).f (mapx (fun t => (t, rd mask s t)) D.rd)) (mapx (fun x => (cel x).f (mapx (fun t => (t, rd mask s t)) D.rd)) xs.toList) s.m with
            | .ok (.ret d) m' => (xdraw L mask ops call rest I' (wr mask ⟨s.l, s.p, m', s.dd⟩ o.dst d)).at s.m
            | .ok (.pan d) m' => match rest with
              | [] => ⟨.ok (.panic d) ⟨[], outs (ops.map (·.dst)) s.p, m', s.dd⟩, [s.m, m'], []⟩
              | _ => ⟨.no o.pos, [s.m], []⟩
            | .no p => ⟨.no p, [s.m], []⟩
          | op => match (cop L cel op).f (mapx (fun t => (t, rd mask s t)) D.rd) s.m with
            | some (d, m') => (xdraw L mask ops call rest I' (wr mask ⟨s.l, s.p, m', s.dd⟩ o.dst d)).at s.m
            | none => ⟨.no o.pos, [s.m], []⟩)
          (match xpure L (evl (lkb (mapx (fun t => (t, rd mask s t)) D.rd))) o.op with
          | some d => xdraw L mask ops call rest I' (wr mask s o.dst d)
          | none => match xread L (evl (lkb (mapx (fun t => (t, rd mask s t)) D.rd))) s.m o.op with
            | some d => match xdraw L mask ops call rest I' (wr mask s o.dst d) with
              | ⟨r, φ, log⟩ => ⟨r, φ, ⟨mapx (fun t => (t, rd mask s t)) D.rd, o.op, d, D.ph, o.pos⟩ :: log⟩
            | none => ⟨.no o.pos, [s.m], []⟩)
      | none => ⟨.no o.pos, [s.m], []⟩ := rfl

/-- What a drawn region's run comes to. -/
def DrK (mask : Nat) (e : XE) (s' : FE) : XE → St → Prop := fun e' st => e' = e ∧ Weak st (s'.st mask)
section
variable {C : Ctx} {L : Lay} {mask : Nat} {call : DV → List DV → Mm → CR} {arr : Array Oper} {φ : List Mm} {a : Nat} {env0 : List (Nat × DV)} {e : XE} {s' : FE}
theorem getD_obs {p : Nat} {m : Mm} (h : φ[p]? = some m) : (φ.map Mm.obs).getD p [] = m.obs := by
  rw [List.getD_eq_getElem?_getD, List.getElem?_map, h]; rfl
theorem xdraw_ok (hL : LayOk C.P L) (hc : CallOk C.P call) (hgood : ∀ m ∈ φ, Good m) : ∀ (l : List Oper) (I : List DI) (i p : Nat) (s : FE) (env : List (Nat × DV)) (k : DRun),
    xdraw L mask arr.toList call l I s = k → k.r = .ok e s' → φ.drop p = k.φ → (∀ g ∈ k.log, xlog1 L φ g = true) → Good s.m → arr.toList.drop i = l →
    (i ≤ a → a < arr.size → ∃ o D, arr.toList[a]? = some o ∧ isAlloc o = true ∧ I[a - i]? = some D ∧ D.eff = true) → (∀ t, lk env t = rd mask s t) → (∀ t, notDst (arr.toList.map (·.dst)) t = true → lk env t = lk env0 t) →
    dwalk2 C L arr (φ.map Mm.obs) a (DrK mask e s') env0 I i p l env ∧ φ[p]? = some s.m ∧ s'.dd = s.dd ∧ Good s'.m := by
  intro l
  induction l with
  | nil =>
    intro I i p s env k hk hr hφ hlog hm hl ha henv h0
    subst hk
    have hr' : RR.ok .normal ⟨[], s.p, s.m, s.dd⟩ = RR.ok e s' := hr
    cases hr'
    have hφ' : φ.drop p = [s.m] := hφ
    have hp : φ[p]? = some s.m := by
      have := congrArg List.head? hφ'
      rw [List.head?_drop] at this
      simpa using this
    refine ⟨?_, hp, rfl, hm⟩
    have hd : dwalk2 C L arr (φ.map Mm.obs) a (DrK mask .normal ⟨[], s.p, s.m, s.dd⟩) env0 I i p [] env = DrK mask .normal ⟨[], s.p, s.m, s.dd⟩ .normal ⟨env, (φ.map Mm.obs).getD p []⟩ := by cases I <;> rfl
    rw [hd, getD_obs hp]
    refine ⟨rfl, rfl, fun t => ?_⟩
    show lk (envOf mask ⟨[], s.p, s.m, s.dd⟩) t = .undef ∨ lk (envOf mask ⟨[], s.p, s.m, s.dd⟩) t = lk env t
    rw [lk_envOf, henv t]
    unfold rd
    rw [bx_if, bx_if]
    split
    · exact .inr rfl
    · exact .inl rfl
  | cons o rest ih =>
    intro I i p s env k hk hr hφ hlog hm hl ha henv h0
    cases I with
    | nil => subst hk; cases hr
    | cons D I' =>
      have ho : arr.toList[i]? = some o := by
        have := congrArg List.head? hl
        rw [List.head?_drop] at this
        simpa using this
      have hl' : arr.toList.drop (i + 1) = rest := by
        have := congrArg List.tail hl
        rwa [List.tail_drop] at this
      have ha' : i + 1 ≤ a → a < arr.size → ∃ o D, arr.toList[a]? = some o ∧ isAlloc o = true ∧ I'[a - (i + 1)]? = some D ∧ D.eff = true := by
        intro h1 h2
        obtain ⟨o', D', q1, q2, q3, q4⟩ := ha (by omega) h2
        refine ⟨o', D', q1, q2, ?_, q4⟩
        rw [show a - i = (a - (i + 1)) + 1 by omega] at q3
        simpa using q3
      have hrs := rst_of henv D.rd
      rw [xdraw_cons, hrs] at hk
      have hevl : evl (lkb (rst env D.rd)) = ev (rst env D.rd) := by
        funext x
        rw [← cel_eq, cel_ev]
      rw [hevl] at hk
      -- slots behind the operation
      have hdn : ∀ t, notDst (arr.toList.map (·.dst)) t = true → o.dst ≠ some t := by
        intro t h1 h2
        simp only [notDst, List.all_eq_true, List.mem_map, bne_iff_ne, ne_eq, forall_exists_index, and_imp, forall_apply_eq_imp_iff₂] at h1
        exact h1 o (List.mem_of_getElem? ho) h2
      have henv' : ∀ (d : DV) (m' : Mm) (t : Nat), lk (upo env o.dst d) t = rd mask (wr mask ⟨s.l, s.p, m', s.dd⟩ o.dst d) t := by
        intro d m' t
        rw [lk_upo, rd_wr, henv t]
        rfl
      have h0' : ∀ (d : DV) (t : Nat), notDst (arr.toList.map (·.dst)) t = true → lk (upo env o.dst d) t = lk env0 t := by
        intro d t ht
        rw [lk_upo_ne (hdn t ht)]
        exact h0 t ht
      have hsm : ∀ d, wr mask s o.dst d = wr mask ⟨s.l, s.p, s.m, s.dd⟩ o.dst d := fun _ => rfl
      -- an operation with an effect that gives d and m'
      have goE : ∀ {d : DV} {m' : Mm} {k1 : DRun}, xdraw L mask arr.toList call rest I' (wr mask ⟨s.l, s.p, m', s.dd⟩ o.dst d) = k1 → k = k1.at s.m → Good m' →
          dwalk2 C L arr (φ.map Mm.obs) a (DrK mask e s') env0 I' (i + 1) (p + 1) rest (upo env o.dst d) ∧ φ[p]? = some s.m ∧ φ[p + 1]? = some m' ∧ s'.dd = s.dd ∧ Good s'.m := by
        intro d m' k1 hk1 hkk hm'
        subst hkk
        have hφ' : φ.drop p = s.m :: k1.φ := hφ
        have hp : φ[p]? = some s.m := by
          have := congrArg List.head? hφ'
          rw [List.head?_drop] at this
          simpa using this
        have hφ2 : φ.drop (p + 1) = k1.φ := by
          have := congrArg List.tail hφ'
          rw [List.tail_drop] at this
          exact this
        obtain ⟨g1, g2, g3, g4⟩ := ih I' (i + 1) (p + 1) _ (upo env o.dst d) k1 hk1 hr hφ2 hlog (by rw [wr_m]; exact hm') hl' ha' (henv' d m') (h0' d)
        rw [wr_m] at g2
        rw [wr_dd] at g3
        exact ⟨g1, hp, g2, g3, g4⟩
      -- one without
      have goP : ∀ {d : DV} {k1 : DRun}, xdraw L mask arr.toList call rest I' (wr mask s o.dst d) = k1 → k.r = k1.r → k.φ = k1.φ → (∀ g ∈ k1.log, g ∈ k.log) →
          dwalk2 C L arr (φ.map Mm.obs) a (DrK mask e s') env0 I' (i + 1) p rest (upo env o.dst d) ∧ φ[p]? = some s.m ∧ s'.dd = s.dd ∧ Good s'.m := by
        intro d k1 hk1 hkr hkφ hkl
        obtain ⟨g1, g2, g3, g4⟩ := ih I' (i + 1) p _ (upo env o.dst d) k1 hk1 (by rw [← hkr]; exact hr) (by rw [← hkφ]; exact hφ) (fun g hg => hlog g (hkl g hg)) (by rw [wr_m]; exact hm) hl' ha' (henv' d s.m) (h0' d)
        rw [wr_m] at g2
        rw [wr_dd] at g3
        exact ⟨g1, g2, g3, g4⟩
      simp only [dwalk2, dop2]
      by_cases hia : i = a
      · -- the allocation
        have hasz : a < arr.size := by
          have := (List.getElem?_eq_some_iff.1 ho).1
          rw [← hia]; simpa using this
        obtain ⟨o', D', q1, q2, q3, q4⟩ := ha (by omega) hasz
        rw [← hia, ho] at q1
        cases q1
        rw [hia, Nat.sub_self] at q3
        have : D' = D := by simpa using q3.symm
        subst this
        unfold isAlloc at q2
        split at q2 <;> try cases q2
        rename_i t hop hgn
        have hg : xgd arr.toList (lkb (rst env D'.rd)) o = some true := by unfold xgd; rw [hgn]
        rw [hg] at hk
        dsimp only at hk
        rw [bx_if, if_pos q4, hop] at hk
        dsimp only at hk
        split at hk
        · rename_i d m' hk1
          have hx := cop_ok hk1
          have hx' : allocX L s.m t = some (d, m') := by
            unfold xop at hx
            simpa [xpure, xread, xeff] using hx
          obtain ⟨ti, ht, hkk, rfl, rfl⟩ := allocX_out hx'
          have hpush := hm.push (x := .arr t ti.k 1 (allx DV.one ti.zero.cells) [ti.zero]) ⟨rfl, allOne_one⟩
          obtain ⟨g1, g2, g3, g4⟩ := goE rfl hk.symm hpush.goodm
          rw [if_pos hia, if_pos q4]
          refine ⟨⟨t, ti, hgn, hop, ht, hkk, q4, ?_, ?_⟩, g2, g4⟩
          · rw [getD_obs g3, getD_obs g2]
            exact hpush.obs.symm
          · rw [getD_obs g2, ← MmOf.n hm]
            exact g1
        · subst hk; cases hr
      · rw [if_neg hia]
        have hxg : ∀ {b}, xgd arr.toList (lkb (rst env D.rd)) o = some b → gd arr (rst env D.rd) o = some b := fun h => xgd_ok (fun t => lkb_eq _ _) h
        split at hk
        · rename_i hg
          rw [hxg hg]
          dsimp only
          rw [bx_if] at hk
          split at hk
          · rename_i hE
            rw [hsm] at hk
            obtain ⟨g1, g2, g3, g4⟩ := goE rfl hk.symm hm
            rw [if_pos hE]
            refine ⟨⟨fun _ => ?_, g1⟩, g2, g4⟩
            rw [getD_obs g3, getD_obs g2]
          · rename_i hE
            obtain ⟨g1, g2, g3⟩ := goP rfl (by rw [← hk]) (by rw [← hk]) (by rw [← hk]; exact fun g h => h)
            rw [if_neg hE]
            exact ⟨⟨fun h => absurd h hE, g1⟩, g2, g3⟩
        · rename_i hg
          rw [hxg hg]
          dsimp only
          rw [bx_if] at hk
          split at hk
          · rename_i hE
            rw [if_pos hE, if_pos hE]
            split at hk
            · rename_i g xs ts hop
              have ha2 : mapx (fun x => (cel x).f (rst env D.rd)) xs.toList = xs.toList.map (ev (rst env D.rd)) := by
                rw [mapx_eq]
                exact List.map_congr_left fun x _ => cel_ev _ _
              rw [ha2, cel_ev] at hk
              split at hk
              · rename_i d m' hkc
                obtain ⟨c1, c2, _⟩ := hc _ _ _ _ _ hkc hm
                obtain ⟨g1, g2, g3, g4⟩ := goE rfl hk.symm c1
                refine ⟨⟨.ret d, ?_, g1⟩, g2, g4⟩
                rw [getD_obs g2, getD_obs g3]
                exact c2 o ⟨rst env D.rd, s.m.obs⟩ g xs ts hop rfl rfl rfl
              · rename_i d m' hkc
                obtain ⟨c1, c2, _⟩ := hc _ _ _ _ _ hkc hm
                split at hk
                · subst hk
                  have hr' : RR.ok (.panic d) ⟨[], outs (arr.toList.map (·.dst)) s.p, m', s.dd⟩ = RR.ok e s' := hr
                  cases hr'
                  have hφ' : φ.drop p = [s.m, m'] := hφ
                  have hp : φ[p]? = some s.m := by
                    have := congrArg List.head? hφ'
                    rw [List.head?_drop] at this
                    simpa using this
                  have hp1 : φ[p + 1]? = some m' := by
                    have := congrArg (fun l => l[1]?) hφ'
                    simpa [List.getElem?_drop] using this
                  refine ⟨⟨.pan d, ?_, rfl, rfl, ?_, fun t => ?_⟩, hp, rfl, c1⟩
                  · rw [getD_obs hp, getD_obs hp1]
                    exact c2 o ⟨rst env D.rd, s.m.obs⟩ g xs ts hop rfl rfl rfl
                  · rw [getD_obs hp1]; rfl
                  · show lk (envOf mask ⟨[], outs (arr.toList.map (·.dst)) s.p, m', s.dd⟩) t = .undef ∨ lk (envOf mask ⟨[], outs (arr.toList.map (·.dst)) s.p, m', s.dd⟩) t = lk (outs (arr.toList.map (·.dst)) env0) t
                    rw [lk_envOf]
                    unfold rd
                    rw [bx_if, lkb_eq, lkb_eq]
                    split
                    · rename_i hpm
                      unfold outs
                      rw [lk_outs (f := notDst (arr.toList.map (·.dst))), lk_outs (f := notDst (arr.toList.map (·.dst)))]
                      split
                      · rename_i hnd
                        right
                        rw [← h0 t hnd, henv t]
                        unfold rd
                        rw [bx_if, if_pos hpm, lkb_eq]
                      · exact .inl rfl
                    · exact .inl rfl
                · subst hk; cases hr
              · subst hk; cases hr
            · split at hk
              · rename_i d m' hk1
                have hx := cop_ok hk1
                have he : (fun x => (cel x).f (rst env D.rd)) = ev (rst env D.rd) := by funext x; exact cel_ev _ _
                rw [he] at hx
                obtain ⟨σ', c1, c2⟩ := xop_sound hL hm hx
                obtain rfl := c2.obs
                obtain ⟨g1, g2, g3, g4⟩ := goE rfl hk.symm c2.goodm
                refine ⟨⟨.ret d, ?_, g1⟩, g2, g4⟩
                rw [getD_obs g2, getD_obs g3]
                exact OpDo.of_run c1
              · subst hk; cases hr
          · rename_i hE
            rw [if_neg hE, if_neg hE]
            split at hk
            · rename_i d hx
              obtain ⟨g1, g2, g3⟩ := goP rfl (by rw [← hk]) (by rw [← hk]) (by rw [← hk]; exact fun g h => h)
              exact ⟨⟨d, fun q _ => OpDo.of_run (xpure_sound hL hx _), g1⟩, g2, g3⟩
            · split at hk
              · rename_i d hx
                obtain ⟨k1, hk1⟩ : ∃ k1, k1 = xdraw L mask arr.toList call rest I' (wr mask s o.dst d) := ⟨_, rfl⟩
                rw [← hk1] at hk
                cases k1 with
                | mk r φ1 log1 =>
                  dsimp only at hk
                  obtain ⟨g1, g2, g3⟩ := goP hk1.symm (by rw [← hk]) (by rw [← hk]) (by rw [← hk]; exact fun g h => List.mem_cons_of_mem _ h)
                  refine ⟨⟨d, fun q hq => ?_, g1⟩, g2, g3⟩
                  have hlg := hlog ⟨rst env D.rd, o.op, d, D.ph, o.pos⟩ (by rw [← hk]; exact List.mem_cons_self ..)
                  unfold xlog1 at hlg
                  rw [allx_eq, List.all_eq_true] at hlg
                  have hq' := hlg q hq
                  split at hq' <;> try cases hq'
                  rename_i mq hmq
                  rw [nth_eq] at hmq
                  split at hq' <;> try cases hq'
                  rename_i dq hdq
                  obtain rfl := eqd_ok _ _ _ hq'
                  rw [getD_obs hmq]
                  rw [hevl] at hdq
                  exact OpDo.of_run (xread_sound hL (hgood mq (List.mem_of_getElem? hmq)) hdq)
              · subst hk; cases hr
        · subst hk; cases hr
end
end Go.VL
end
section
set_option linter.unusedVariables false
set_option linter.unusedSimpArgs false
namespace Go.VL
open Go

section
variable {P : Program} {L : Lay} {mask : Nat} {call : DV → List DV → Mm → CR}
theorem xdraw_good (hL : LayOk P L) (hc : CallOk P call) {ops : List Oper} : ∀ (l : List Oper) (I : List DI) (s : FE) (k : DRun) (e : XE) (s' : FE), xdraw L mask ops call l I s = k → k.r = .ok e s' → Good s.m → ∀ m ∈ k.φ, Good m := by
  intro l
  induction l with
  | nil =>
    intro I s k e s' hk hr hm m hmm
    subst hk
    have hmm' : m ∈ [s.m] := hmm
    obtain rfl := List.mem_singleton.1 hmm'
    exact hm
  | cons o rest ih =>
    intro I s k e s' hk hr hm
    cases I with
    | nil => subst hk; cases hr
    | cons D I' =>
      rw [xdraw_cons] at hk
      have goE : ∀ {d : DV} {m' : Mm}, (xdraw L mask ops call rest I' (wr mask ⟨s.l, s.p, m', s.dd⟩ o.dst d)).at s.m = k → Good m' → ∀ m ∈ k.φ, Good m := by
        intro d m' hkk hm' m hmm
        subst hkk
        have hmm' : m ∈ s.m :: (xdraw L mask ops call rest I' (wr mask ⟨s.l, s.p, m', s.dd⟩ o.dst d)).φ := hmm
        rcases List.mem_cons.1 hmm' with rfl | hmm'
        · exact hm
        · exact ih _ _ _ _ _ rfl hr (by rw [wr_m]; exact hm') m hmm'
      split at hk
      · rw [bx_if] at hk
        split at hk
        · exact goE hk hm
        · subst hk
          exact ih _ _ _ _ _ rfl hr (by rw [wr_m]; exact hm)
      · rw [bx_if] at hk
        split at hk
        · split at hk
          · split at hk
            · rename_i d m' hkc
              exact goE hk (hc _ _ _ _ _ hkc hm).1
            · rename_i d m' hkc
              split at hk
              · subst hk
                intro m hmm
                have hmm' : m ∈ [s.m, m'] := hmm
                rcases List.mem_cons.1 hmm' with rfl | hmm'
                · exact hm
                · obtain rfl := List.mem_singleton.1 hmm'
                  exact (hc _ _ _ _ _ hkc hm).1
              · subst hk; cases hr
            · subst hk; cases hr
          · split at hk
            · rename_i d m' hk1
              have hx := cop_ok hk1
              have he : (fun x => (cel x).f (mapx (fun t => (t, rd mask s t)) D.rd)) = ev (mapx (fun t => (t, rd mask s t)) D.rd) := by funext x; exact cel_ev _ _
              rw [he] at hx
              obtain ⟨σ', c1, c2⟩ := xop_sound hL hm hx
              exact goE hk c2.goodm
            · subst hk; cases hr
        · split at hk
          · subst hk
            exact ih _ _ _ _ _ rfl hr (by rw [wr_m]; exact hm)
          · split at hk
            · rename_i d hx
              obtain ⟨k1, hk1⟩ : ∃ k1, k1 = xdraw L mask ops call rest I' (wr mask s o.dst d) := ⟨_, rfl⟩
              rw [← hk1] at hk
              cases k1 with
              | mk r φ1 log1 =>
                subst hk
                exact ih I' (wr mask s o.dst d) ⟨r, φ1, log1⟩ e s' hk1.symm hr (by rw [wr_m]; exact hm)
            · subst hk; cases hr
      · subst hk; cases hr

theorem laOf_ok {ops : List Oper} {I : List DI} (h : laOf ops I < I.length) : ∃ o D, ops[laOf ops I]? = some o ∧ isAlloc o = true ∧ I[laOf ops I]? = some D ∧ D.eff = true := by
  unfold laOf at h ⊢
  split at h
  · rename_i i hi
    have := List.find?_some hi
    simp only [Bool.and_eq_true] at this
    obtain ⟨⟨⟨h1, h2⟩, _⟩, _⟩ := this
    split at h1 <;> try cases h1
    rename_i o ho
    refine ⟨o, I[i], ho, h1, by simp [h], ?_⟩
    rw [List.getD_eq_getElem?_getD, List.getElem?_eq_getElem h] at h2
    exact h2
  · omega

theorem drawnOk (hL : LayOk P L) (hmx : P.follows .mixedOrders = true) : DrawnOk P L := by
  intro call hc x id ops I s s' e h hcode hm
  simp only [Bool.and_eq_true] at hcode
  obtain ⟨hmap, hF⟩ := hcode
  have hmap := eq_of_beq hmap
  have hsz : ops.size = I.length := by simpa using congrArg List.length hmap
  have hi : ∀ i : Nat, (ops.toList[i]?.map fun o => (o.dst, dirsO o)) = I[i]?.map fun D : DI => (D.dst, D.dir) := fun (i : Nat) => by
    have := congrArg (fun (q : List (Option Tmp × List Nat)) => q[i]?) hmap
    simpa only [List.getElem?_map] using this
  have h1 : ∀ i, dstAt ops i = (I.getD i .none).dst := by
    intro i
    have := hi i
    simp only [dstAt, ← Array.getElem?_toList, List.getD_eq_getElem?_getD]
    cases hx : ops.toList[i]? <;> cases hy : I[i]? <;> rw [hx, hy] at this <;> simp at this ⊢
    · rfl
    · exact this.1
  have h2 : ∀ i, dirs ops i = (I.getD i .none).dir := by
    intro i
    have := hi i
    simp only [dirs, ← Array.getElem?_toList, List.getD_eq_getElem?_getD]
    cases hx : ops.toList[i]? <;> cases hy : I[i]? <;> rw [hx, hy] at this <;> simp at this ⊢
    · rfl
    · exact this.2
  unfold xdrawn at h
  split at h <;> try cases h
  rename_i e1 s1 φ log hk
  obtain ⟨he, hlog⟩ := xlog_ok log h
  cases he
  have hgood : ∀ m ∈ φ, Good m := xdraw_good hL hc _ _ _ _ _ _ hk rfl hm
  have ha : laOf ops.toList I < ops.size → ∃ o D, ops.toList[laOf ops.toList I]? = some o ∧ isAlloc o = true ∧ I[laOf ops.toList I]? = some D ∧ D.eff = true := by
    intro h
    rw [hsz] at h
    exact laOf_ok h
  obtain ⟨a, hae⟩ : ∃ a, a = laOf ops.toList I := ⟨_, rfl⟩
  rw [← hae] at ha hF
  have key : ∀ C : Ctx, C.P = P → dwalk2 C L ops (φ.map Mm.obs) a (DrK x.mask e s') (envOf x.mask s) I 0 0 ops.toList (envOf x.mask s) ∧ φ[0]? = some s.m ∧ s'.dd = s.dd ∧ Good s'.m := by
    intro C hCP
    subst hCP
    exact xdraw_ok hL hc hgood ops.toList I 0 0 s (envOf x.mask s) ⟨.ok e s', φ, log⟩ hk rfl rfl hlog hm rfl (fun _ h => ha h) (fun t => lk_envOf _ _ _) fun t _ => rfl
  have hg' : Good s'.m := by
    obtain ⟨_, _, _, g⟩ := xdraw_ok (C := ⟨P, 0, none, [], default, fun _ _ => False, fun _ => none, [], fun _ _ => rfl⟩) hL hc hgood ops.toList I 0 0 s (envOf x.mask s) ⟨.ok e s', φ, log⟩ hk rfl rfl hlog hm rfl (fun _ h => ha h) (fun t => lk_envOf _ _ _) fun t _ => rfl
    exact g
  refine ⟨hg', fun C hC act w hr => ?_⟩
  obtain ⟨hdw, hφ0, hdd, _⟩ := key (C.at s.dd) hC.P
  obtain ⟨E, ds, q0, q1, q2⟩ := dwalk2_out (I := I) ops.toList 0 (envOf x.mask s) I 0 (Nat.zero_le _) rfl rfl rfl hdw
  have hf : (fun i => (Array.replicate ops.size false).getD i false) = fun _ => false := by
    funext i
    rw [Array.getD_eq_getD_getElem?]
    rw [Array.getElem?_replicate]
    split <;> rfl
  have hvf : vis I (fun _ => false) a = fun _ => false := by funext k; exact vis_not rfl
  have hn : ∀ n, nEff I (fun _ => false) n = 0 := by
    intro n
    induction n with
    | zero => rfl
    | succ n ih => simp [nEff, ih]
  have hv : ∀ n t, vAt ops (E 0) ds (fun _ => false) n t = lk (E 0) t := by
    intro n t
    induction n with
    | zero => rfl
    | succ n ih => simp [vAt, ih]
  have hCP : C.P = P := hC.P
  have hpost : (Code.region id ops true).wpIn C.fe 0 C.P (Post (C.at s.dd) (DrK x.mask e s')) act w := by
    refine wpIn_region_any (by rw [hCP]; exact hmx) ?_
    obtain ⟨F, μ, hr⟩ := Rel.drew hr (w.drawn + 1) (Nat.le_succ _)
    refine draw_any2 (C := C.at s.dd) (by show LayOk C.P L; rw [hCP]; exact hL) (I := I) (φ := φ.map Mm.obs) (a := a) (E := E) (ds := ds) hsz h1 h2 (by rw [show (C.at s.dd).n = C.n from rfl, hC.n]; exact hF)
      (fun k hk => by rw [q0]; exact q1 k (Nat.zero_le _) hk) (by rw [q0]; exact q2.imp (fun h => h) fun ⟨k, _, b, c⟩ => ⟨k, b, c⟩) _ _ act _ (by simp) ?_ ?_ ?_
    · intro i hi hl
      rw [show (Array.replicate ops.size false).getD i false = false from congrFun hf i] at hl
      cases hl
    · rw [hf]
      exact cnt_le _
    · rw [hf, hvf, hn]
      refine ⟨envOf x.mask s, F, μ, ?_, fun t _ => ?_, fun h => by cases h.1⟩
      · rw [getD_obs hφ0]
        exact hr
      · rw [hv, q0]
  refine wpIn_mono hpost fun ex act' w' hp => ?_
  cases ex with
  | normal =>
    obtain ⟨st, ⟨rfl, hw⟩, hr'⟩ := hp
    exact ⟨rfl, by rw [hdd]; exact hr'.weak hw⟩
  | exit i =>
    obtain ⟨st, ⟨rfl, hw⟩, hr'⟩ := hp
    exact ⟨rfl, by rw [hdd]; exact hr'.weak hw⟩
  | ret =>
    obtain ⟨st, ⟨rfl, hw⟩, hr'⟩ := hp
    exact ⟨rfl, by rw [hdd]; exact hr'.weak hw⟩
  | panic ch =>
    obtain ⟨st, d, v, F, μ, ⟨rfl, hw⟩, h1, h2, h3⟩ := hp
    refine ⟨d, v, F, μ, rfl, h1, ?_, ?_⟩
    · rw [hdd]; exact h2.weak hw
    · rw [hw.ob]; exact h3
  | goto l => exact hp.elim
  | outgrown => exact hp.elim
end

/-- A closed run is what the machine does. -/
theorem run_ok {P : Program} {L : Lay} {T : Nat → FT} (hL : LayOk P L) (hmx : P.follows .mixedOrders = true) (hT : TabOk P T) (n : Nat) : RunOk P (xexec L T n) ∧ CallOk P (call1 L T (xexec L T n)) := by
  have hC : CallsOk P L T := callsOk hL hT (leaveFOk hL hT) (roundsOk hT)
  have hr := xexec_ok hL (drawnOk hL hmx) rangeOk hC n
  exact ⟨hr, hC _ hr⟩
theorem ok_of_call {P : Program} {L : Lay} {T : Nat → FT} (hL : LayOk P L) (hmx : P.follows .mixedOrders = true) (hT : TabOk P T) (n : Nat) {f : Nat} {args : List DV} {m m' : Mm} {out : Out} (h : call1 L T (xexec L T n) (.fn f []) args m = .ok out m') (hm : Good m) :
    Good m' ∧ Ok P f args m.obs out m'.obs := by
  obtain ⟨g1, _, g2⟩ := (run_ok hL hmx hT n).2 _ _ _ _ _ h hm
  have := g2 f [] rfl
  rw [List.append_nil] at this
  exact ⟨g1, this⟩
end Go.VL
end
