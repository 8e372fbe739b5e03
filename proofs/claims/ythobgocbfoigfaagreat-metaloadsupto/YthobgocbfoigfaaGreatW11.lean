/- Proved: MetaLoads: whatever items and data come in (together of bulk at most 1048576), the call returns true and they read as they did; no other condition. This text is part 11 of 15. -/
import Derived.Test.YthobgocbfoigfaaGreatW10
section
set_option linter.unusedSimpArgs false
set_option linter.unusedVariables false
set_option maxRecDepth 10000
set_option maxHeartbeats 2000000
namespace Go.VL
open Go Go.Proofs
open Nat (reduceAdd reduceEqDiff reduceSub reduceMul reduceLeDiff)
def di20_10 : List DI := [⟨[5], [], false, [0], some 54, []⟩, ⟨[8], [], false, [0], some 55, []⟩, ⟨[55], [1], false, [0], some 56, [1]⟩, ⟨[8], [], false, [0], some 57, []⟩, ⟨[57], [3], false, [0], some 58, [3]⟩, ⟨[58], [3, 4], false, [0], some 6, [4, 3, 4]⟩, ⟨[54, 56], rg 0 6, true, [], none, ([0, 2, 5] ++ rg 0 6)⟩]

def seenD (l : List ByteArray) : List DV := l.flatMap fun n => [.str n, .bool true]
theorem findD_seen (n : ByteArray) : ∀ (l : List ByteArray) (i : Nat), findD L 9 (.str n) (seenD l) i = (if l.any fun m => n.toList == m.toList then some (some (i + l.findIdx (fun m => n.toList == m.toList), .bool true)) else some none)
  | [], i => rfl
  | m :: r, i => by
    have ih := findD_seen n r (i + 1)
    unfold seenD at ih ⊢
    rw [List.flatMap_cons, List.cons_append, List.cons_append, List.nil_append]
    show (match keyEq L 9 (.str n) (.str m) with | some true => _ | some false => _ | none => none) = _
    rw [show keyEq L 9 (.str n) (.str m) = some (n.toList == m.toList) from rfl]
    cases h : (n.toList == m.toList)
    · simp only [List.any_cons, h, Bool.false_or, List.findIdx_cons, cond_false]
      rw [ih]
      split
      · congr 3; omega
      · rfl
    · simp [List.any_cons, h, List.findIdx_cons]
theorem seenD_length (l : List ByteArray) : (seenD l).length = 2 * l.length := by
  unfold seenD
  induction l with
  | nil => rfl
  | cons a r ih => simp only [List.flatMap_cons, List.length_append, List.length_cons, List.length_nil, ih]; omega
def nmGo (next : Int) : Int → List ByteArray → List Nm → Bool
  | _, _, [] => true
  | last, seen, x :: r => if decide (x.id ≤ last) then false else if decide (x.id ≥ next) then false else if x.name.toList == ByteArray.toList ⟨#[]⟩ then false else if decide ((x.name.size : Int) > 16) then false else if (seen.any fun m => x.name.toList == m.toList) then false else nmGo next x.id (seen ++ [x.name]) r
def namesMayF (l : List Nm) (next : Int) : Bool := if decide ((l.length : Int) > 8) then false else if decide (next < 1) then false else if decide (next > 255) then false else nmGo next 0 [] l
theorem OkE.pure0 {P : Program} {f : FuncId} {args : List DV} {d : DV} (h : OkE P f args [] fun o _ => o = .ret d) (hd : Low 0 d) (ha : ∀ x ∈ args, Low 0 x) (σ : List Ob) : Ok P f args σ (.ret d) σ :=
  (OkE.thaw (c := 0) (R := fun D => D = d) (h.mono fun o O e => ⟨d, d, e, .low hd, rfl⟩) ha σ).ok fun o σ' ⟨e, D', e1, e2⟩ => by subst e2; exact ⟨e1, e⟩
theorem low_seenD (n : Nat) (l : List ByteArray) : ∀ x ∈ seenD l, Low n x := by
  intro x hx
  obtain ⟨m, _, hm⟩ := List.mem_flatMap.1 hx
  simp only [List.mem_cons, List.not_mem_nil, or_false] at hm
  rcases hm with rfl | rfl
  · exact (low_str _).2 trivial
  · exact (low_bool _).2 trivial
theorem namesMayE (l : List Nm) (next : Int) : OkE Tryz.prog 20 [.vec 0 2 (l.map eNm), .int .i64 next] [] fun o _ => o = .ret (.bool (namesMayF l next)) := by
  obtain ⟨σ, hσ0⟩ : ∃ σ : List Ob, σ = [] := ⟨_, rfl⟩
  rw [← hσ0]
  obtain ⟨X, hX⟩ : ∃ X, X = l.map eNm := ⟨_, rfl⟩
  have hXl : X.length = l.length := by rw [hX, List.length_map]
  have hXm := lowIff eNm low_eNm l
  rw [← hX] at hXm ⊢
  unfold namesMayF
  rw [← hXl]
  refine OkE.of_body layOk Tryz.func20 rfl (by decide) (by simp [Tryz.ntmps20]) fun C hP hn hσ hfix hdd => ?_
  rw [show Tryz.f20.ntmps = 60 from rfl] at hn
  have hL : LayOk C.P L := hP ▸ layOk
  have hm : C.P.follows .mixedOrders = true := hP ▸ mixed
  cases d1 : decide ((X.length : Int) > 8)
  rotate_left
  · repeat (first | ((first | refine sA hL hn rfl ?_ | refine sB hL hn rfl ?_); simp only [go_sem, Nat.reduceBEq, Int.reduceLT, Int.reduceLE, reduceAdd, reduceEqDiff, reduceIte, reduceSub, Nat.reduceLT, reduceMul, reduceLeDiff, reduceCtorEq, d1]) | ((first | refine sC ?_ | refine sH ?_ | refine sI ?_ | refine sJ ?_); try simp only [thenK, blockK, loopK, loopG, if_true, if_false, reduceEqDiff]) | refine sD ?_ | refine sE ?_ | refine sF rfl ?_ | refine sG rfl ?_)
    exact ⟨_, _, rfl, _, _, _, Ghost.refl _ _, rfl, GhostV.refl _ _ _, rfl⟩
  cases d2 : decide (next < 1)
  rotate_left
  · repeat (first | ((first | refine sA hL hn rfl ?_ | refine sB hL hn rfl ?_); simp only [go_sem, Nat.reduceBEq, Int.reduceLT, Int.reduceLE, reduceAdd, reduceEqDiff, reduceIte, reduceSub, Nat.reduceLT, reduceMul, reduceLeDiff, reduceCtorEq, d1, d2]) | ((first | refine sC ?_ | refine sH ?_ | refine sI ?_ | refine sJ ?_); try simp only [thenK, blockK, loopK, loopG, if_true, if_false, reduceEqDiff]) | refine sD ?_ | refine sE ?_ | refine sF rfl ?_ | refine sG rfl ?_)
    exact ⟨_, _, rfl, _, _, _, Ghost.refl _ _, rfl, GhostV.refl _ _ _, rfl⟩
  cases d3 : decide (next > 255)
  rotate_left
  · repeat (first | ((first | refine sA hL hn rfl ?_ | refine sB hL hn rfl ?_); simp only [go_sem, Nat.reduceBEq, Int.reduceLT, Int.reduceLE, reduceAdd, reduceEqDiff, reduceIte, reduceSub, Nat.reduceLT, reduceMul, reduceLeDiff, reduceCtorEq, d1, d2, d3]) | ((first | refine sC ?_ | refine sH ?_ | refine sI ?_ | refine sJ ?_); try simp only [thenK, blockK, loopK, loopG, if_true, if_false, reduceEqDiff]) | refine sD ?_ | refine sE ?_ | refine sF rfl ?_ | refine sG rfl ?_)
    exact ⟨_, _, rfl, _, _, _, Ghost.refl _ _, rfl, GhostV.refl _ _ _, rfl⟩
  have hle : l.length ≤ 8 := by have := of_decide_eq_false d1; omega
  repeat (first | ((first | refine sA hL hn rfl ?_ | refine sB hL hn rfl ?_); simp only [go_sem, Nat.reduceBEq, Int.reduceLT, Int.reduceLE, reduceAdd, reduceEqDiff, reduceIte, reduceSub, Nat.reduceLT, reduceMul, reduceLeDiff, reduceCtorEq, d1, d2, d3]) | ((first | refine sC ?_ | refine sH ?_ | refine sI ?_ | refine sJ ?_); try simp only [thenK, blockK, loopK, loopG, if_true, if_false, reduceEqDiff]) | refine sD ?_ | refine sE ?_ | refine sF rfl ?_ | refine sG rfl ?_)
  refine SW.lpg (fun x : Nat × Int × List ByteArray => ⟨[(1, .int .i64 next), (5, .mp σ.length), (6, .int .i64 x.2.1), (21, .vec 0 2 X), (22, .int .i64 l.length), (23, .int .i64 x.1)], σ ++ [.oth (.map (List.range x.1) x.1) (seenD x.2.2)]⟩) (fun x => l.length - x.1) (fun x => x.1 ≤ l.length ∧ x.2.2.length = x.1 ∧ nmGo next x.2.1 x.2.2 (l.drop x.1) = nmGo next 0 [] l) (0, 0, []) ⟨by simp, rfl, rfl⟩ (.of rfl (by simp [agree, lk, hXl])) ?_
  rintro ⟨k, last, seen⟩ ⟨hk, hsl, hg⟩
  simp only at hk hg hsl
  by_cases hlt : k < l.length
  · have e1 : decide ((k : Int) < (l.length : Int)) = true := decide_eq_true (by omega)
    have e2 : (0 ≤ (k : Int) ∧ (k : Int) < (X.length : Int)) := by omega
    obtain ⟨x, hx⟩ : ∃ x, x = l[k] := ⟨_, rfl⟩
    have e3 : X[k]?.getD .undef = .agg [.int .i64 x.id, .str x.name] := by rw [hX, hx]; simp [hlt, eNm]
    have w1 : IntKind.i64.wrap ((k : Int) + 1) = ((k + 1 : Nat) : Int) := wi (by omega) (by omega)
    rw [List.drop_eq_getElem_cons hlt, ← hx, nmGo] at hg
    have hfd := findD_seen x.name seen 0
    obtain ⟨D, hD⟩ : ∃ D, D = seenD seen := ⟨_, rfl⟩
    rw [← hD] at hfd ⊢
    have hko : keyOk L 9 (.str x.name) = true := rfl
    cases c1 : decide (x.id ≤ last)
    rotate_left
    · rw [c1] at hg
      simp only [if_true] at hg
      rw [← hg]
      repeat (first | ((first | refine sA hL hn rfl ?_ | refine sB hL hn rfl ?_); simp only [go_sem, Nat.reduceBEq, Int.reduceLT, Int.reduceLE, reduceAdd, reduceEqDiff, reduceIte, reduceSub, Nat.reduceLT, reduceMul, reduceLeDiff, reduceCtorEq, e1, e2, e3, c1]) | ((first | refine sC ?_ | refine sH ?_ | refine sI ?_ | refine sJ ?_); try simp only [thenK, blockK, loopK, loopG, if_true, if_false, reduceEqDiff]) | refine sD ?_ | refine sE ?_ | refine sF rfl ?_ | refine sG rfl ?_)
      exact ⟨_, _, rfl, _, _, _, Ghost.refl _ _, rfl, GhostV.refl _ _ _, rfl⟩
    cases c2 : decide (x.id ≥ next)
    rotate_left
    · rw [c1, c2] at hg
      simp only [if_true, Bool.false_eq_true, if_false] at hg
      rw [← hg]
      repeat (first | ((first | refine sA hL hn rfl ?_ | refine sB hL hn rfl ?_); simp only [go_sem, Nat.reduceBEq, Int.reduceLT, Int.reduceLE, reduceAdd, reduceEqDiff, reduceIte, reduceSub, Nat.reduceLT, reduceMul, reduceLeDiff, reduceCtorEq, e1, e2, e3, c1, c2]) | ((first | refine sC ?_ | refine sH ?_ | refine sI ?_ | refine sJ ?_); try simp only [thenK, blockK, loopK, loopG, if_true, if_false, reduceEqDiff]) | refine sD ?_ | refine sE ?_ | refine sF rfl ?_ | refine sG rfl ?_)
      exact ⟨_, _, rfl, _, _, _, Ghost.refl _ _, rfl, GhostV.refl _ _ _, rfl⟩
    cases c3 : (x.name.toList == ByteArray.toList ⟨#[]⟩)
    rotate_left
    · rw [c1, c2, c3] at hg
      simp only [if_true, Bool.false_eq_true, if_false] at hg
      rw [← hg]
      repeat (first | ((first | refine sA hL hn rfl ?_ | refine sB hL hn rfl ?_); simp only [go_sem, Nat.reduceBEq, Int.reduceLT, Int.reduceLE, reduceAdd, reduceEqDiff, reduceIte, reduceSub, Nat.reduceLT, reduceMul, reduceLeDiff, reduceCtorEq, e1, e2, e3, c1, c2, c3, binStr]) | ((first | refine sC ?_ | refine sH ?_ | refine sI ?_ | refine sJ ?_); try simp only [thenK, blockK, loopK, loopG, if_true, if_false, reduceEqDiff]) | refine sD ?_ | refine sE ?_ | refine sF rfl ?_ | refine sG rfl ?_)
      exact ⟨_, _, rfl, _, _, _, Ghost.refl _ _, rfl, GhostV.refl _ _ _, rfl⟩
    cases c4 : decide ((x.name.size : Int) > 16)
    rotate_left
    · rw [c1, c2, c3, c4] at hg
      simp only [if_true, Bool.false_eq_true, if_false] at hg
      rw [← hg]
      repeat (first | ((first | refine sA hL hn rfl ?_ | refine sB hL hn rfl ?_); simp only [go_sem, Nat.reduceBEq, Int.reduceLT, Int.reduceLE, reduceAdd, reduceEqDiff, reduceIte, reduceSub, Nat.reduceLT, reduceMul, reduceLeDiff, reduceCtorEq, e1, e2, e3, c1, c2, c3, c4, binStr]) | ((first | refine sC ?_ | refine sH ?_ | refine sI ?_ | refine sJ ?_); try simp only [thenK, blockK, loopK, loopG, if_true, if_false, reduceEqDiff]) | refine sD ?_ | refine sE ?_ | refine sF rfl ?_ | refine sG rfl ?_)
      exact ⟨_, _, rfl, _, _, _, Ghost.refl _ _, rfl, GhostV.refl _ _ _, rfl⟩
    cases c5 : seen.any fun m => x.name.toList == m.toList
    rotate_left
    · rw [c1, c2, c3, c4, c5] at hg
      simp only [if_true, Bool.false_eq_true, if_false] at hg
      rw [← hg]
      rw [c5] at hfd
      simp only [if_true] at hfd
      repeat (first | ((first | refine sA hL hn rfl ?_ | refine sB hL hn rfl ?_); simp only [go_sem, Nat.reduceBEq, Int.reduceLT, Int.reduceLE, reduceAdd, reduceEqDiff, reduceIte, reduceSub, Nat.reduceLT, reduceMul, reduceLeDiff, reduceCtorEq, e1, e2, e3, c1, c2, c3, c4, binStr, hfd, hko, L4]) | ((first | refine sC ?_ | refine sH ?_ | refine sI ?_ | refine sJ ?_); try simp only [thenK, blockK, loopK, loopG, if_true, if_false, reduceEqDiff]) | refine sD ?_ | refine sE ?_ | refine sF rfl ?_ | refine sG rfl ?_)
      exact ⟨_, _, rfl, _, _, _, Ghost.refl _ _, rfl, GhostV.refl _ _ _, rfl⟩
    rw [c1, c2, c3, c4, c5] at hg
    rw [c5] at hfd
    simp only [Bool.false_eq_true, if_false] at hg hfd
    repeat (first | ((first | refine sA hL hn rfl ?_ | refine sB hL hn rfl ?_); simp only [go_sem, Nat.reduceBEq, Int.reduceLT, Int.reduceLE, reduceAdd, reduceEqDiff, reduceIte, reduceSub, Nat.reduceLT, reduceMul, reduceLeDiff, reduceCtorEq, e1, e2, e3, c1, c2, c3, c4, binStr, hfd, hko, L4]) | ((first | refine sC ?_ | refine sH ?_ | refine sI ?_ | refine sJ ?_); try simp only [thenK, blockK, loopK, loopG, if_true, if_false, reduceEqDiff]) | refine sD ?_ | refine sE ?_ | refine sF rfl ?_ | refine sG rfl ?_)
    refine sM hL hm hn di20_10 [σ ++ [.oth (.map (List.range k) k) D, .arr 101 2 [.agg [.int .i64 x.id, .str x.name]]], σ ++ [.oth (.map (List.range k ++ [k]) (k + 1)) (D ++ [.str x.name, .bool true]), .arr 101 2 [.agg [.int .i64 x.id, .str x.name]]]] rfl rfl rfl ?_
    unfold di20_10
    repeat (rw [dgo_cons]; simp (maxSteps := 2000000) only [go_sem, Nat.reduceBEq, Int.reduceLT, Int.reduceLE, reduceAdd, reduceEqDiff, reduceIte, reduceSub, Nat.reduceLT, reduceMul, reduceLeDiff, reduceCtorEq, updM, L99, hko, hfd])
    try rw [dgo_nil]
    try simp only [go_sem, Nat.reduceBEq, Int.reduceLT, Int.reduceLE, reduceAdd, reduceEqDiff, reduceIte, reduceSub, Nat.reduceLT, reduceMul, reduceLeDiff, reduceCtorEq, updM, L99, hko, hfd]
    repeat (first | ((first | refine sA hL hn rfl ?_ | refine sB hL hn rfl ?_); simp only [go_sem, Nat.reduceBEq, Int.reduceLT, Int.reduceLE, reduceAdd, reduceEqDiff, reduceIte, reduceSub, Nat.reduceLT, reduceMul, reduceLeDiff, reduceCtorEq, w1]) | ((first | refine sC ?_ | refine sH ?_ | refine sI ?_ | refine sJ ?_); try simp only [thenK, blockK, loopK, loopG, if_true, if_false, reduceEqDiff]) | refine sD ?_ | refine sE ?_ | refine sF rfl ?_ | refine sG rfl ?_)
    refine Lp.nextg (k + 1, x.id, seen ++ [x.name]) ⟨by simp only; omega, by simp [hsl], hg⟩ (by simp only; omega) ?_
    have q1 : seenD (seen ++ [x.name]) = D ++ [.str x.name, .bool true] := by rw [hD]; unfold seenD; rw [List.flatMap_append]; rfl
    have q2 := low_seenD (σ.length + 1) (seen ++ [x.name])
    rw [q1] at q2
    simp only [q1, List.range_succ]
    exact Ghost.keep 1 _ hσ hfix (by simp [agree, lk]) (by simp [lk, low_int, low_bool, low_str, low_nils, low_nilp, low_nilf, low_nili, low_undef, low_skip, low_vec, low_agg, low_tup, low_fn, low_vptr, low_iface, low_ptr, low_sl, low_mp, low_it, low_yld, low_emp, lowEnv, lowObs, lowOb, tmpObs, isArr, hXm]) ⟨q2, trivial⟩ (by simp [lk, low_int, low_bool, low_str, low_nils, low_nilp, low_nilf, low_nili, low_undef, low_skip, low_vec, low_agg, low_tup, low_fn, low_vptr, low_iface, low_ptr, low_sl, low_mp, low_it, low_yld, low_emp, lowEnv, lowObs, lowOb, tmpObs, isArr])
  · have e1 : decide ((k : Int) < (l.length : Int)) = false := decide_eq_false (by omega)
    rw [List.drop_eq_nil_of_le (by omega)] at hg
    rw [← hg]
    repeat (first | ((first | refine sA hL hn rfl ?_ | refine sB hL hn rfl ?_); simp only [go_sem, Nat.reduceBEq, Int.reduceLT, Int.reduceLE, reduceAdd, reduceEqDiff, reduceIte, reduceSub, Nat.reduceLT, reduceMul, reduceLeDiff, reduceCtorEq, e1]) | ((first | refine sC ?_ | refine sH ?_ | refine sI ?_ | refine sJ ?_); try simp only [thenK, blockK, loopK, loopG, if_true, if_false, reduceEqDiff]) | refine sD ?_ | refine sE ?_ | refine sF rfl ?_ | refine sG rfl ?_)
    exact ⟨_, _, rfl, _, _, _, Ghost.refl _ _, rfl, GhostV.refl _ _ _, rfl⟩
theorem namesMay_ok (l : List Nm) (next : Int) (σ : List Ob) : Ok Tryz.prog 20 [.vec 0 2 (l.map eNm), .int .i64 next] σ (.ret (.bool (namesMayF l next))) σ :=
  (namesMayE l next).pure0 ((low_bool _).2 trivial) (by simp [low_int, low_vec]; intro a _; exact low_eNm 0 a) σ
end Go.VL
end
section
set_option linter.unusedSimpArgs false
set_option linter.unusedVariables false
set_option maxRecDepth 10000
set_option maxHeartbeats 4000000
namespace Go.VL
open Go Go.Proofs
open Nat (reduceAdd reduceEqDiff reduceSub reduceMul reduceLeDiff)
def di10_1 : List DI := [⟨[1], [], false, [0], some 8, []⟩, ⟨[8], [0], false, [0], some 9, [0]⟩, ⟨[9], [0, 1], false, [0], some 10, [1]⟩, ⟨[10], [0, 1, 2], false, [0], some 11, [2]⟩, ⟨[11], rg 0 4, false, [0], some 12, [3, 2]⟩, ⟨[1, 12], rg 0 5, false, [0], some 13, [4]⟩, ⟨[12, 13], rg 0 6, false, [0], some 14, [5, 4, 4]⟩, ⟨[1, 12], rg 0 5, false, [0], some 15, [4]⟩, ⟨[12, 15], (rg 0 5 ++ [7]), false, [0], some 16, [7, 4]⟩, ⟨[12, 14, 16], rg 0 9, false, [0], some 17, [6, 8, 6, 4]⟩, ⟨[12, 17], rg 0 10, false, [0], some 18, [9, 4]⟩, ⟨[12, 18], rg 0 11, false, [0], some 19, [4, 10]⟩, ⟨[19], rg 0 12, false, [0], some 20, [11, 9]⟩, ⟨[1, 20], rg 0 13, false, [0], some 21, [12]⟩, ⟨[20, 21], rg 0 14, false, [0], some 22, [13, 12, 12]⟩, ⟨[20, 22], rg 0 15, false, [0], some 23, [14, 14, 12]⟩, ⟨[20, 23], rg 0 16, false, [0], some 24, [15, 12]⟩, ⟨[20, 24], rg 0 17, false, [0], some 25, [12, 16]⟩, ⟨[25], rg 0 18, false, [0], some 26, [17, 15]⟩, ⟨[1, 26], rg 0 19, false, [0], some 27, [18]⟩, ⟨[26, 27], rg 0 20, false, [0], some 28, [19, 18]⟩, ⟨[1, 26], rg 0 19, false, [0], some 29, [18]⟩, ⟨[26, 29], (rg 0 19 ++ [21]), false, [0], some 30, [21, 18]⟩, ⟨[26, 28, 30], rg 0 23, false, [0], some 31, [20, 22, 18, 18]⟩, ⟨[26, 31], rg 0 24, false, [0], some 32, [23, 18]⟩, ⟨[26, 32], rg 0 25, false, [0], some 33, [18, 24]⟩, ⟨[33], rg 0 26, false, [0], some 3, ([25, 23] ++ rg 0 26)⟩]

theorem namesMay_len {v : Vo} (h : namesMayF (namesF v) v.next = true) : v.snaps.length ≤ 8 := by
  unfold namesMayF at h
  split at h
  · cases h
  · rename_i h1
    have : ¬ (((namesF v).length : Int) > 8) := by simpa using h1
    unfold namesF at this
    rw [List.length_map] at this
    omega
/-- A volume that falls ahead of its sectors. -/
def early (v : Vo) (sps : List Sp) : Bool := freeCheckF v.fs sps != 0 || !namesMayF (namesF v) v.next || refsCheckF (mapsF v) != 0
theorem checkEarly (v : Vo) (sps : List Sp) (hv : v.snaps.length ≤ 1048576) (h : early v sps = true) : OkE Tryz.prog 10 [eV v (.vec 0 2 (sps.map eS))] [] fun o _ => o = .ret (.int .i64 9) := by
  have hfree := fun σ => freeCheck_ok v.fs 0 sps σ
  have hnames := fun σ => names_ok v (.vec 0 2 (sps.map eS)) rfl (fun n => low_spans n 0 2 sps) hv σ
  have hmaps := fun σ => maps_ok v (.vec 0 2 (sps.map eS)) rfl (fun n => low_spans n 0 2 sps) hv σ
  have hmay := fun σ => namesMay_ok (namesF v) v.next σ
  have hrefs := fun σ => refsCheck_ok 0 0 (mapsF v) σ
  have hwithin := fun σ => within_ok 0 v.now v.size σ
  have hsnap := fun σ => containsSnap_ok 0 0 v.snaps 26 [] (fun x => !withinF x.list x.size) σ (fun x _ => check1_ok x σ) (by simp)
  have hdata := fun σ => containsData_ok 0 0 v.data 28 [] (fun x => (x.length : Int) != 64) σ (fun x _ => check2_ok x σ) (by simp)
  have hDl : (v.data.map (eD 0)).length = v.data.length := List.length_map _
  unfold eV at hnames hmaps ⊢
  obtain ⟨N, hN⟩ : ∃ N, N = v.now.map eX := ⟨_, rfl⟩
  obtain ⟨Z, hZ⟩ : ∃ Z, Z = v.snaps.map (eZ 0) := ⟨_, rfl⟩
  obtain ⟨D, hD⟩ : ∃ D, D = v.data.map (eD 0) := ⟨_, rfl⟩
  obtain ⟨S, hS⟩ : ∃ S, S = sps.map eS := ⟨_, rfl⟩
  obtain ⟨M, hM⟩ : ∃ M, M = (mapsF v).map (eM 0) := ⟨_, rfl⟩
  obtain ⟨Q, hQ⟩ : ∃ Q, Q = (namesF v).map eNm := ⟨_, rfl⟩
  simp only [← hN, ← hZ, ← hD, ← hS, ← hM, ← hQ] at hfree hnames hmaps hmay hrefs hwithin hsnap hdata hDl ⊢
  obtain ⟨σ, hσ0⟩ : ∃ σ : List Ob, σ = [] := ⟨_, rfl⟩
  rw [← hσ0]
  unfold early at h
  refine OkE.of_body layOk Tryz.func10 rfl (by decide) (by simp [Tryz.ntmps10]) fun C hP hn hσ hfix hdd => ?_
  rw [show Tryz.f10.ntmps = 77 from rfl] at hn
  have hL : LayOk C.P L := hP ▸ layOk
  have hm : C.P.follows .mixedOrders = true := hP ▸ mixed
  repeat (first | ((first | refine sA hL hn rfl ?_ | refine sB hL hn rfl ?_); simp only [go_sem, Nat.reduceBEq, Int.reduceLT, Int.reduceLE, reduceAdd, reduceEqDiff, reduceIte, reduceSub, Nat.reduceLT, reduceMul, reduceLeDiff, reduceCtorEq]) | ((first | refine sC ?_ | refine sH ?_ | refine sI ?_ | refine sJ ?_); try simp only [thenK, blockK, loopK, loopG, if_true, if_false, reduceEqDiff]) | refine sD ?_ | refine sE ?_ | refine sF rfl ?_ | refine sG rfl ?_)
  refine sM hL hm hn di10_1 [σ ++ [.arr 34 7 [.agg [.int .i64 v.size, .vec 0 3 N, .vec 0 4 Z, .int .i64 v.next, .int .i64 v.fs, .vec 0 2 S, .vec 0 1 D]]]] rfl rfl rfl ?_
  unfold di10_1
  repeat (rw [dgo_cons]; simp (maxSteps := 2000000) only [go_sem, Nat.reduceBEq, Int.reduceLT, Int.reduceLE, reduceAdd, reduceEqDiff, reduceIte, reduceSub, Nat.reduceLT, reduceMul, reduceLeDiff, reduceCtorEq])
  try rw [dgo_nil]
  try simp only [go_sem, Nat.reduceBEq, Int.reduceLT, Int.reduceLE, reduceAdd, reduceEqDiff, reduceIte, reduceSub, Nat.reduceLT, reduceMul, reduceLeDiff, reduceCtorEq]
  cases hA : (freeCheckF v.fs sps != 0)
  rotate_left
  · refine DCall.pure hP (fun q _ => hfree _) rfl rfl rfl rfl ?_; repeat (simp (maxSteps := 2000000) only [go_sem, Nat.reduceBEq, Int.reduceLT, Int.reduceLE, reduceAdd, reduceEqDiff, reduceIte, reduceSub, Nat.reduceLT, reduceMul, reduceLeDiff, reduceCtorEq, hA]; first | rw [dgo_cons] | rw [dgo_nil])
    try simp only [go_sem, Nat.reduceBEq, Int.reduceLT, Int.reduceLE, reduceAdd, reduceEqDiff, reduceIte, reduceSub, Nat.reduceLT, reduceMul, reduceLeDiff, reduceCtorEq, hA]
    repeat (first | ((first | refine sA hL hn rfl ?_ | refine sB hL hn rfl ?_); simp only [go_sem, Nat.reduceBEq, Int.reduceLT, Int.reduceLE, reduceAdd, reduceEqDiff, reduceIte, reduceSub, Nat.reduceLT, reduceMul, reduceLeDiff, reduceCtorEq]) | ((first | refine sC ?_ | refine sH ?_ | refine sI ?_ | refine sJ ?_); try simp only [thenK, blockK, loopK, loopG, if_true, if_false, reduceEqDiff]) | refine sD ?_ | refine sE ?_ | refine sF rfl ?_ | refine sG rfl ?_)
    exact ⟨_, _, rfl, _, _, _, Ghost.refl _ _, rfl, GhostV.refl _ _ _, rfl⟩
  refine DCall.pure hP (fun q _ => hfree _) rfl rfl rfl rfl ?_; repeat (simp (maxSteps := 2000000) only [go_sem, Nat.reduceBEq, Int.reduceLT, Int.reduceLE, reduceAdd, reduceEqDiff, reduceIte, reduceSub, Nat.reduceLT, reduceMul, reduceLeDiff, reduceCtorEq, hA]; first | rw [dgo_cons] | rw [dgo_nil])
  try simp only [go_sem, Nat.reduceBEq, Int.reduceLT, Int.reduceLE, reduceAdd, reduceEqDiff, reduceIte, reduceSub, Nat.reduceLT, reduceMul, reduceLeDiff, reduceCtorEq, hA]
  refine DCall.pure hP (fun q _ => hnames _) rfl rfl rfl rfl ?_; repeat (simp (maxSteps := 2000000) only [go_sem, Nat.reduceBEq, Int.reduceLT, Int.reduceLE, reduceAdd, reduceEqDiff, reduceIte, reduceSub, Nat.reduceLT, reduceMul, reduceLeDiff, reduceCtorEq]; first | rw [dgo_cons] | rw [dgo_nil])
  try simp only [go_sem, Nat.reduceBEq, Int.reduceLT, Int.reduceLE, reduceAdd, reduceEqDiff, reduceIte, reduceSub, Nat.reduceLT, reduceMul, reduceLeDiff, reduceCtorEq]
  cases hB : namesMayF (namesF v) v.next
  · refine DCall.pure hP (fun q _ => hmay _) rfl rfl rfl rfl ?_; repeat (simp (maxSteps := 2000000) only [go_sem, Nat.reduceBEq, Int.reduceLT, Int.reduceLE, reduceAdd, reduceEqDiff, reduceIte, reduceSub, Nat.reduceLT, reduceMul, reduceLeDiff, reduceCtorEq, hB]; first | rw [dgo_cons] | rw [dgo_nil])
    try simp only [go_sem, Nat.reduceBEq, Int.reduceLT, Int.reduceLE, reduceAdd, reduceEqDiff, reduceIte, reduceSub, Nat.reduceLT, reduceMul, reduceLeDiff, reduceCtorEq, hB]
    repeat (first | ((first | refine sA hL hn rfl ?_ | refine sB hL hn rfl ?_); simp only [go_sem, Nat.reduceBEq, Int.reduceLT, Int.reduceLE, reduceAdd, reduceEqDiff, reduceIte, reduceSub, Nat.reduceLT, reduceMul, reduceLeDiff, reduceCtorEq]) | ((first | refine sC ?_ | refine sH ?_ | refine sI ?_ | refine sJ ?_); try simp only [thenK, blockK, loopK, loopG, if_true, if_false, reduceEqDiff]) | refine sD ?_ | refine sE ?_ | refine sF rfl ?_ | refine sG rfl ?_)
    exact ⟨_, _, rfl, _, _, _, Ghost.refl _ _, rfl, GhostV.refl _ _ _, rfl⟩
  have hC : (refsCheckF (mapsF v) != 0) = true := by rw [hA, hB] at h; simpa using h
  refine DCall.pure hP (fun q _ => hmay _) rfl rfl rfl rfl ?_; repeat (simp (maxSteps := 2000000) only [go_sem, Nat.reduceBEq, Int.reduceLT, Int.reduceLE, reduceAdd, reduceEqDiff, reduceIte, reduceSub, Nat.reduceLT, reduceMul, reduceLeDiff, reduceCtorEq, hB]; first | rw [dgo_cons] | rw [dgo_nil])
  try simp only [go_sem, Nat.reduceBEq, Int.reduceLT, Int.reduceLE, reduceAdd, reduceEqDiff, reduceIte, reduceSub, Nat.reduceLT, reduceMul, reduceLeDiff, reduceCtorEq, hB]
  refine DCall.pure hP (fun q _ => hmaps _) rfl rfl rfl rfl ?_; repeat (simp (maxSteps := 2000000) only [go_sem, Nat.reduceBEq, Int.reduceLT, Int.reduceLE, reduceAdd, reduceEqDiff, reduceIte, reduceSub, Nat.reduceLT, reduceMul, reduceLeDiff, reduceCtorEq]; first | rw [dgo_cons] | rw [dgo_nil])
  try simp only [go_sem, Nat.reduceBEq, Int.reduceLT, Int.reduceLE, reduceAdd, reduceEqDiff, reduceIte, reduceSub, Nat.reduceLT, reduceMul, reduceLeDiff, reduceCtorEq]
  refine DCall.pure hP (fun q _ => hrefs _) rfl rfl rfl rfl ?_; repeat (simp (maxSteps := 2000000) only [go_sem, Nat.reduceBEq, Int.reduceLT, Int.reduceLE, reduceAdd, reduceEqDiff, reduceIte, reduceSub, Nat.reduceLT, reduceMul, reduceLeDiff, reduceCtorEq, hC]; first | rw [dgo_cons] | rw [dgo_nil])
  try simp only [go_sem, Nat.reduceBEq, Int.reduceLT, Int.reduceLE, reduceAdd, reduceEqDiff, reduceIte, reduceSub, Nat.reduceLT, reduceMul, reduceLeDiff, reduceCtorEq, hC]
  repeat (first | ((first | refine sA hL hn rfl ?_ | refine sB hL hn rfl ?_); simp only [go_sem, Nat.reduceBEq, Int.reduceLT, Int.reduceLE, reduceAdd, reduceEqDiff, reduceIte, reduceSub, Nat.reduceLT, reduceMul, reduceLeDiff, reduceCtorEq]) | ((first | refine sC ?_ | refine sH ?_ | refine sI ?_ | refine sJ ?_); try simp only [thenK, blockK, loopK, loopG, if_true, if_false, reduceEqDiff]) | refine sD ?_ | refine sE ?_ | refine sF rfl ?_ | refine sG rfl ?_)
  exact ⟨_, _, rfl, _, _, _, Ghost.refl _ _, rfl, GhostV.refl _ _ _, rfl⟩
/-- What is asked behind that. -/
def lateF (v : Vo) (same : Bool) (e : Int) : Int := if !withinF v.now v.size then 9 else if (v.snaps.any fun x => !withinF x.list x.size) then 9 else if ((v.data.length : Int) != v.fs) then 9 else if (v.data.any fun x => (x.length : Int) != 64) then 9 else if e != 0 then 9 else if same then 0 else 9
theorem lateF_9 (v : Vo) (same : Bool) (e : Int) : lateF v same e = 0 ∨ lateF v same e = 9 := by
  unfold lateF
  repeat' split
  all_goals first | exact .inl rfl | exact .inr rfl
theorem checkLate (v : Vo) (sps : List Sp) (hv : v.snaps.length ≤ 1048576) (hA : (freeCheckF v.fs sps != 0) = false) (hB : namesMayF (namesF v) v.next = true) (hC : (refsCheckF (mapsF v) != 0) = false) (U : List Sp) (e : Int) (W : DV) (same : Bool)
    (hused : ∀ σ, Ok Tryz.prog 29 [.vec 0 2 ((mapsF v).map (eM 0))] σ (.ret (.tup [.vec 0 2 (U.map eS), .int .i64 0])) σ) (hwo : ∀ σ, Ok Tryz.prog 30 [.int .i64 v.fs, .vec 0 2 (U.map eS)] σ (.ret (.tup [W, .int .i64 e])) σ)
    (hW : (e = 0 ∧ ∃ zs : List Sp, W = .agg [.int .i64 v.fs, .vec 0 2 (zs.map eS)] ∧ same = decide (zs = sps)) ∨ (e ≠ 0 ∧ W = .agg [.int .i64 0, .nils])) : OkE Tryz.prog 10 [eV v (.vec 0 2 (sps.map eS))] [] fun o _ => o = .ret (.int .i64 (lateF v same e)) := by
  have hequal := fun (zs : List Sp) σ => equalSpan_ok 0 0 zs sps σ
  have hfree := fun σ => freeCheck_ok v.fs 0 sps σ
  have hnames := fun σ => names_ok v (.vec 0 2 (sps.map eS)) rfl (fun n => low_spans n 0 2 sps) hv σ
  have hmaps := fun σ => maps_ok v (.vec 0 2 (sps.map eS)) rfl (fun n => low_spans n 0 2 sps) hv σ
  have hmay := fun σ => namesMay_ok (namesF v) v.next σ
  have hrefs := fun σ => refsCheck_ok 0 0 (mapsF v) σ
  have hwithin := fun σ => within_ok 0 v.now v.size σ
  have hsnap := fun σ => containsSnap_ok 0 0 v.snaps 26 [] (fun x => !withinF x.list x.size) σ (fun x _ => check1_ok x σ) (by simp)
  have hdata := fun σ => containsData_ok 0 0 v.data 28 [] (fun x => (x.length : Int) != 64) σ (fun x _ => check2_ok x σ) (by simp)
  have hDl : (v.data.map (eD 0)).length = v.data.length := List.length_map _
  unfold eV at hnames hmaps ⊢
  obtain ⟨N, hN⟩ : ∃ N, N = v.now.map eX := ⟨_, rfl⟩
  obtain ⟨Z, hZ⟩ : ∃ Z, Z = v.snaps.map (eZ 0) := ⟨_, rfl⟩
  obtain ⟨D, hD⟩ : ∃ D, D = v.data.map (eD 0) := ⟨_, rfl⟩
  obtain ⟨S, hS⟩ : ∃ S, S = sps.map eS := ⟨_, rfl⟩
  obtain ⟨M, hM⟩ : ∃ M, M = (mapsF v).map (eM 0) := ⟨_, rfl⟩
  obtain ⟨Q, hQ⟩ : ∃ Q, Q = (namesF v).map eNm := ⟨_, rfl⟩
  obtain ⟨UU, hUU⟩ : ∃ UU, UU = U.map eS := ⟨_, rfl⟩
  simp only [← hN, ← hZ, ← hD, ← hS, ← hM, ← hQ, ← hUU] at hfree hnames hmaps hmay hrefs hwithin hsnap hdata hequal hDl hused hwo ⊢
  obtain ⟨σ, hσ0⟩ : ∃ σ : List Ob, σ = [] := ⟨_, rfl⟩
  rw [← hσ0]
  unfold lateF
  rw [← hDl]
  refine OkE.of_body layOk Tryz.func10 rfl (by decide) (by simp [Tryz.ntmps10]) fun C hP hn hσ hfix hdd => ?_
  rw [show Tryz.f10.ntmps = 77 from rfl] at hn
  have hL : LayOk C.P L := hP ▸ layOk
  have hm : C.P.follows .mixedOrders = true := hP ▸ mixed
  repeat (first | ((first | refine sA hL hn rfl ?_ | refine sB hL hn rfl ?_); simp only [go_sem, Nat.reduceBEq, Int.reduceLT, Int.reduceLE, reduceAdd, reduceEqDiff, reduceIte, reduceSub, Nat.reduceLT, reduceMul, reduceLeDiff, reduceCtorEq]) | ((first | refine sC ?_ | refine sH ?_ | refine sI ?_ | refine sJ ?_); try simp only [thenK, blockK, loopK, loopG, if_true, if_false, reduceEqDiff]) | refine sD ?_ | refine sE ?_ | refine sF rfl ?_ | refine sG rfl ?_)
  refine sM hL hm hn di10_1 [σ ++ [.arr 34 7 [.agg [.int .i64 v.size, .vec 0 3 N, .vec 0 4 Z, .int .i64 v.next, .int .i64 v.fs, .vec 0 2 S, .vec 0 1 D]]]] rfl rfl rfl ?_
  unfold di10_1
  repeat (rw [dgo_cons]; simp (maxSteps := 2000000) only [go_sem, Nat.reduceBEq, Int.reduceLT, Int.reduceLE, reduceAdd, reduceEqDiff, reduceIte, reduceSub, Nat.reduceLT, reduceMul, reduceLeDiff, reduceCtorEq])
  try rw [dgo_nil]
  try simp only [go_sem, Nat.reduceBEq, Int.reduceLT, Int.reduceLE, reduceAdd, reduceEqDiff, reduceIte, reduceSub, Nat.reduceLT, reduceMul, reduceLeDiff, reduceCtorEq]
  refine DCall.pure hP (fun q _ => hfree _) rfl rfl rfl rfl ?_; repeat (simp (maxSteps := 2000000) only [go_sem, Nat.reduceBEq, Int.reduceLT, Int.reduceLE, reduceAdd, reduceEqDiff, reduceIte, reduceSub, Nat.reduceLT, reduceMul, reduceLeDiff, reduceCtorEq, hA]; first | rw [dgo_cons] | rw [dgo_nil])
  try simp only [go_sem, Nat.reduceBEq, Int.reduceLT, Int.reduceLE, reduceAdd, reduceEqDiff, reduceIte, reduceSub, Nat.reduceLT, reduceMul, reduceLeDiff, reduceCtorEq, hA]
  refine DCall.pure hP (fun q _ => hnames _) rfl rfl rfl rfl ?_; repeat (simp (maxSteps := 2000000) only [go_sem, Nat.reduceBEq, Int.reduceLT, Int.reduceLE, reduceAdd, reduceEqDiff, reduceIte, reduceSub, Nat.reduceLT, reduceMul, reduceLeDiff, reduceCtorEq]; first | rw [dgo_cons] | rw [dgo_nil])
  try simp only [go_sem, Nat.reduceBEq, Int.reduceLT, Int.reduceLE, reduceAdd, reduceEqDiff, reduceIte, reduceSub, Nat.reduceLT, reduceMul, reduceLeDiff, reduceCtorEq]
  refine DCall.pure hP (fun q _ => hmay _) rfl rfl rfl rfl ?_; repeat (simp (maxSteps := 2000000) only [go_sem, Nat.reduceBEq, Int.reduceLT, Int.reduceLE, reduceAdd, reduceEqDiff, reduceIte, reduceSub, Nat.reduceLT, reduceMul, reduceLeDiff, reduceCtorEq, hB]; first | rw [dgo_cons] | rw [dgo_nil])
  try simp only [go_sem, Nat.reduceBEq, Int.reduceLT, Int.reduceLE, reduceAdd, reduceEqDiff, reduceIte, reduceSub, Nat.reduceLT, reduceMul, reduceLeDiff, reduceCtorEq, hB]
  refine DCall.pure hP (fun q _ => hmaps _) rfl rfl rfl rfl ?_; repeat (simp (maxSteps := 2000000) only [go_sem, Nat.reduceBEq, Int.reduceLT, Int.reduceLE, reduceAdd, reduceEqDiff, reduceIte, reduceSub, Nat.reduceLT, reduceMul, reduceLeDiff, reduceCtorEq]; first | rw [dgo_cons] | rw [dgo_nil])
  try simp only [go_sem, Nat.reduceBEq, Int.reduceLT, Int.reduceLE, reduceAdd, reduceEqDiff, reduceIte, reduceSub, Nat.reduceLT, reduceMul, reduceLeDiff, reduceCtorEq]
  refine DCall.pure hP (fun q _ => hrefs _) rfl rfl rfl rfl ?_; repeat (simp (maxSteps := 2000000) only [go_sem, Nat.reduceBEq, Int.reduceLT, Int.reduceLE, reduceAdd, reduceEqDiff, reduceIte, reduceSub, Nat.reduceLT, reduceMul, reduceLeDiff, reduceCtorEq, hC]; first | rw [dgo_cons] | rw [dgo_nil])
  try simp only [go_sem, Nat.reduceBEq, Int.reduceLT, Int.reduceLE, reduceAdd, reduceEqDiff, reduceIte, reduceSub, Nat.reduceLT, reduceMul, reduceLeDiff, reduceCtorEq, hC]
  cases hX : withinF v.now v.size
  · refine DCall.pure hP (fun q _ => hwithin _) rfl rfl rfl rfl ?_; repeat (simp (maxSteps := 2000000) only [go_sem, Nat.reduceBEq, Int.reduceLT, Int.reduceLE, reduceAdd, reduceEqDiff, reduceIte, reduceSub, Nat.reduceLT, reduceMul, reduceLeDiff, reduceCtorEq, hX]; first | rw [dgo_cons] | rw [dgo_nil])
    try simp only [go_sem, Nat.reduceBEq, Int.reduceLT, Int.reduceLE, reduceAdd, reduceEqDiff, reduceIte, reduceSub, Nat.reduceLT, reduceMul, reduceLeDiff, reduceCtorEq, hX]
    repeat (first | ((first | refine sA hL hn rfl ?_ | refine sB hL hn rfl ?_); simp only [go_sem, Nat.reduceBEq, Int.reduceLT, Int.reduceLE, reduceAdd, reduceEqDiff, reduceIte, reduceSub, Nat.reduceLT, reduceMul, reduceLeDiff, reduceCtorEq]) | ((first | refine sC ?_ | refine sH ?_ | refine sI ?_ | refine sJ ?_); try simp only [thenK, blockK, loopK, loopG, if_true, if_false, reduceEqDiff]) | refine sD ?_ | refine sE ?_ | refine sF rfl ?_ | refine sG rfl ?_)
    exact ⟨_, _, rfl, _, _, _, Ghost.refl _ _, rfl, GhostV.refl _ _ _, rfl⟩
  refine DCall.pure hP (fun q _ => hwithin _) rfl rfl rfl rfl ?_; repeat (simp (maxSteps := 2000000) only [go_sem, Nat.reduceBEq, Int.reduceLT, Int.reduceLE, reduceAdd, reduceEqDiff, reduceIte, reduceSub, Nat.reduceLT, reduceMul, reduceLeDiff, reduceCtorEq, hX]; first | rw [dgo_cons] | rw [dgo_nil])
  try simp only [go_sem, Nat.reduceBEq, Int.reduceLT, Int.reduceLE, reduceAdd, reduceEqDiff, reduceIte, reduceSub, Nat.reduceLT, reduceMul, reduceLeDiff, reduceCtorEq, hX]
  repeat (first | ((first | refine sA hL hn rfl ?_ | refine sB hL hn rfl ?_); simp only [go_sem, Nat.reduceBEq, Int.reduceLT, Int.reduceLE, reduceAdd, reduceEqDiff, reduceIte, reduceSub, Nat.reduceLT, reduceMul, reduceLeDiff, reduceCtorEq]) | ((first | refine sC ?_ | refine sH ?_ | refine sI ?_ | refine sJ ?_); try simp only [thenK, blockK, loopK, loopG, if_true, if_false, reduceEqDiff]) | refine sD ?_ | refine sE ?_ | refine sF rfl ?_ | refine sG rfl ?_)
  cases hE : (v.snaps.any fun x => !withinF x.list x.size)
  rotate_left
  · refine sK hP hL hn rfl rfl (hsnap _) rfl rfl rfl rfl ?_; simp (maxSteps := 2000000) only [go_sem, Nat.reduceBEq, Int.reduceLT, Int.reduceLE, reduceAdd, reduceEqDiff, reduceIte, reduceSub, Nat.reduceLT, reduceMul, reduceLeDiff, reduceCtorEq, hE]
    repeat (first | ((first | refine sA hL hn rfl ?_ | refine sB hL hn rfl ?_); simp only [go_sem, Nat.reduceBEq, Int.reduceLT, Int.reduceLE, reduceAdd, reduceEqDiff, reduceIte, reduceSub, Nat.reduceLT, reduceMul, reduceLeDiff, reduceCtorEq, hE]) | ((first | refine sC ?_ | refine sH ?_ | refine sI ?_ | refine sJ ?_); try simp only [thenK, blockK, loopK, loopG, if_true, if_false, reduceEqDiff]) | refine sD ?_ | refine sE ?_ | refine sF rfl ?_ | refine sG rfl ?_)
    exact ⟨_, _, rfl, _, _, _, Ghost.refl _ _, rfl, GhostV.refl _ _ _, rfl⟩
  refine sK hP hL hn rfl rfl (hsnap _) rfl rfl rfl rfl ?_; simp (maxSteps := 2000000) only [go_sem, Nat.reduceBEq, Int.reduceLT, Int.reduceLE, reduceAdd, reduceEqDiff, reduceIte, reduceSub, Nat.reduceLT, reduceMul, reduceLeDiff, reduceCtorEq, hE]
  cases hF : ((D.length : Int) != v.fs)
  rotate_left
  · repeat (first | ((first | refine sA hL hn rfl ?_ | refine sB hL hn rfl ?_); simp only [go_sem, Nat.reduceBEq, Int.reduceLT, Int.reduceLE, reduceAdd, reduceEqDiff, reduceIte, reduceSub, Nat.reduceLT, reduceMul, reduceLeDiff, reduceCtorEq, hE, hF]) | ((first | refine sC ?_ | refine sH ?_ | refine sI ?_ | refine sJ ?_); try simp only [thenK, blockK, loopK, loopG, if_true, if_false, reduceEqDiff]) | refine sD ?_ | refine sE ?_ | refine sF rfl ?_ | refine sG rfl ?_)
    exact ⟨_, _, rfl, _, _, _, Ghost.refl _ _, rfl, GhostV.refl _ _ _, rfl⟩
  repeat (first | ((first | refine sA hL hn rfl ?_ | refine sB hL hn rfl ?_); simp only [go_sem, Nat.reduceBEq, Int.reduceLT, Int.reduceLE, reduceAdd, reduceEqDiff, reduceIte, reduceSub, Nat.reduceLT, reduceMul, reduceLeDiff, reduceCtorEq, hE, hF]) | ((first | refine sC ?_ | refine sH ?_ | refine sI ?_ | refine sJ ?_); try simp only [thenK, blockK, loopK, loopG, if_true, if_false, reduceEqDiff]) | refine sD ?_ | refine sE ?_ | refine sF rfl ?_ | refine sG rfl ?_)
  cases hG : (v.data.any fun x => (x.length : Int) != 64)
  rotate_left
  · refine sK hP hL hn rfl rfl (hdata _) rfl rfl rfl rfl ?_; simp (maxSteps := 2000000) only [go_sem, Nat.reduceBEq, Int.reduceLT, Int.reduceLE, reduceAdd, reduceEqDiff, reduceIte, reduceSub, Nat.reduceLT, reduceMul, reduceLeDiff, reduceCtorEq, hG]
    repeat (first | ((first | refine sA hL hn rfl ?_ | refine sB hL hn rfl ?_); simp only [go_sem, Nat.reduceBEq, Int.reduceLT, Int.reduceLE, reduceAdd, reduceEqDiff, reduceIte, reduceSub, Nat.reduceLT, reduceMul, reduceLeDiff, reduceCtorEq, hG]) | ((first | refine sC ?_ | refine sH ?_ | refine sI ?_ | refine sJ ?_); try simp only [thenK, blockK, loopK, loopG, if_true, if_false, reduceEqDiff]) | refine sD ?_ | refine sE ?_ | refine sF rfl ?_ | refine sG rfl ?_)
    exact ⟨_, _, rfl, _, _, _, Ghost.refl _ _, rfl, GhostV.refl _ _ _, rfl⟩
  refine sK hP hL hn rfl rfl (hdata _) rfl rfl rfl rfl ?_; simp (maxSteps := 2000000) only [go_sem, Nat.reduceBEq, Int.reduceLT, Int.reduceLE, reduceAdd, reduceEqDiff, reduceIte, reduceSub, Nat.reduceLT, reduceMul, reduceLeDiff, reduceCtorEq, hG]
  repeat (first | ((first | refine sA hL hn rfl ?_ | refine sB hL hn rfl ?_); simp only [go_sem, Nat.reduceBEq, Int.reduceLT, Int.reduceLE, reduceAdd, reduceEqDiff, reduceIte, reduceSub, Nat.reduceLT, reduceMul, reduceLeDiff, reduceCtorEq, hG]) | ((first | refine sC ?_ | refine sH ?_ | refine sI ?_ | refine sJ ?_); try simp only [thenK, blockK, loopK, loopG, if_true, if_false, reduceEqDiff]) | refine sD ?_ | refine sE ?_ | refine sF rfl ?_ | refine sG rfl ?_)
  refine sK hP hL hn rfl rfl (hmaps _) rfl rfl rfl rfl ?_; simp (maxSteps := 2000000) only [go_sem, Nat.reduceBEq, Int.reduceLT, Int.reduceLE, reduceAdd, reduceEqDiff, reduceIte, reduceSub, Nat.reduceLT, reduceMul, reduceLeDiff, reduceCtorEq]
  refine sK hP hL hn rfl rfl (hused _) rfl rfl rfl rfl ?_; simp (maxSteps := 2000000) only [go_sem, Nat.reduceBEq, Int.reduceLT, Int.reduceLE, reduceAdd, reduceEqDiff, reduceIte, reduceSub, Nat.reduceLT, reduceMul, reduceLeDiff, reduceCtorEq]
  repeat (first | ((first | refine sA hL hn rfl ?_ | refine sB hL hn rfl ?_); simp only [go_sem, Nat.reduceBEq, Int.reduceLT, Int.reduceLE, reduceAdd, reduceEqDiff, reduceIte, reduceSub, Nat.reduceLT, reduceMul, reduceLeDiff, reduceCtorEq]) | ((first | refine sC ?_ | refine sH ?_ | refine sI ?_ | refine sJ ?_); try simp only [thenK, blockK, loopK, loopG, if_true, if_false, reduceEqDiff]) | refine sD ?_ | refine sE ?_ | refine sF rfl ?_ | refine sG rfl ?_)
  rcases hW with ⟨rfl, zs, rfl, rfl⟩ | ⟨he, rfl⟩
  rotate_left
  · replace he : (e != 0) = true := by simpa using he
    rw [he]
    refine sK hP hL hn rfl rfl (hwo _) rfl rfl rfl rfl ?_; simp (maxSteps := 2000000) only [go_sem, Nat.reduceBEq, Int.reduceLT, Int.reduceLE, reduceAdd, reduceEqDiff, reduceIte, reduceSub, Nat.reduceLT, reduceMul, reduceLeDiff, reduceCtorEq]
    repeat (first | ((first | refine sA hL hn rfl ?_ | refine sB hL hn rfl ?_); simp only [go_sem, Nat.reduceBEq, Int.reduceLT, Int.reduceLE, reduceAdd, reduceEqDiff, reduceIte, reduceSub, Nat.reduceLT, reduceMul, reduceLeDiff, reduceCtorEq, he]) | ((first | refine sC ?_ | refine sH ?_ | refine sI ?_ | refine sJ ?_); try simp only [thenK, blockK, loopK, loopG, if_true, if_false, reduceEqDiff]) | refine sD ?_ | refine sE ?_ | refine sF rfl ?_ | refine sG rfl ?_)
    exact ⟨_, _, rfl, _, _, _, Ghost.refl _ _, rfl, GhostV.refl _ _ _, rfl⟩
  have he : ((0 : Int) != 0) = false := rfl
  have hequal := hequal zs
  obtain ⟨ZS, hZS⟩ : ∃ ZS, ZS = zs.map eS := ⟨_, rfl⟩
  rw [← hZS] at hequal hwo
  refine sK hP hL hn rfl rfl (hwo _) rfl rfl rfl rfl ?_; simp (maxSteps := 2000000) only [go_sem, Nat.reduceBEq, Int.reduceLT, Int.reduceLE, reduceAdd, reduceEqDiff, reduceIte, reduceSub, Nat.reduceLT, reduceMul, reduceLeDiff, reduceCtorEq]
  repeat (first | ((first | refine sA hL hn rfl ?_ | refine sB hL hn rfl ?_); simp only [go_sem, Nat.reduceBEq, Int.reduceLT, Int.reduceLE, reduceAdd, reduceEqDiff, reduceIte, reduceSub, Nat.reduceLT, reduceMul, reduceLeDiff, reduceCtorEq, he]) | ((first | refine sC ?_ | refine sH ?_ | refine sI ?_ | refine sJ ?_); try simp only [thenK, blockK, loopK, loopG, if_true, if_false, reduceEqDiff]) | refine sD ?_ | refine sE ?_ | refine sF rfl ?_ | refine sG rfl ?_)
  cases hI : decide (zs = sps)
  · refine sK hP hL hn rfl rfl (hequal _) rfl rfl rfl rfl ?_; simp (maxSteps := 2000000) only [go_sem, Nat.reduceBEq, Int.reduceLT, Int.reduceLE, reduceAdd, reduceEqDiff, reduceIte, reduceSub, Nat.reduceLT, reduceMul, reduceLeDiff, reduceCtorEq, hI]
    repeat (first | ((first | refine sA hL hn rfl ?_ | refine sB hL hn rfl ?_); simp only [go_sem, Nat.reduceBEq, Int.reduceLT, Int.reduceLE, reduceAdd, reduceEqDiff, reduceIte, reduceSub, Nat.reduceLT, reduceMul, reduceLeDiff, reduceCtorEq, hI]) | ((first | refine sC ?_ | refine sH ?_ | refine sI ?_ | refine sJ ?_); try simp only [thenK, blockK, loopK, loopG, if_true, if_false, reduceEqDiff]) | refine sD ?_ | refine sE ?_ | refine sF rfl ?_ | refine sG rfl ?_)
    exact ⟨_, _, rfl, _, _, _, Ghost.refl _ _, rfl, GhostV.refl _ _ _, rfl⟩
  · refine sK hP hL hn rfl rfl (hequal _) rfl rfl rfl rfl ?_; simp (maxSteps := 2000000) only [go_sem, Nat.reduceBEq, Int.reduceLT, Int.reduceLE, reduceAdd, reduceEqDiff, reduceIte, reduceSub, Nat.reduceLT, reduceMul, reduceLeDiff, reduceCtorEq, hI]
    repeat (first | ((first | refine sA hL hn rfl ?_ | refine sB hL hn rfl ?_); simp only [go_sem, Nat.reduceBEq, Int.reduceLT, Int.reduceLE, reduceAdd, reduceEqDiff, reduceIte, reduceSub, Nat.reduceLT, reduceMul, reduceLeDiff, reduceCtorEq, hI]) | ((first | refine sC ?_ | refine sH ?_ | refine sI ?_ | refine sJ ?_); try simp only [thenK, blockK, loopK, loopG, if_true, if_false, reduceEqDiff]) | refine sD ?_ | refine sE ?_ | refine sF rfl ?_ | refine sG rfl ?_)
    exact ⟨_, _, rfl, _, _, _, Ghost.refl _ _, rfl, GhostV.refl _ _ _, rfl⟩
theorem check_ok (v : Vo) (sps : List Sp) (hv : v.snaps.length ≤ 1048576) : ∃ e : Int, (e = 0 ∨ e = 9) ∧ (e = 0 → refsCheckF (mapsF v) = 0 ∧ v.snaps.length ≤ 8) ∧ ∀ σ, Ok Tryz.prog 10 [eV v (.vec 0 2 (sps.map eS))] σ (.ret (.int .i64 e)) σ := by
  have ha : ∀ x ∈ [eV v (.vec 0 2 (sps.map eS))], Low 0 x := by simp; exact low_eV 0 v _ fun n => low_spans n 0 2 sps
  cases h : early v sps
  rotate_left
  · exact ⟨9, .inr rfl, fun h => absurd h (by decide), (checkEarly v sps hv h).pure0 ((low_int _ _).2 trivial) ha⟩
  unfold early at h
  simp only [Bool.or_eq_false_iff, Bool.not_eq_false'] at h
  obtain ⟨⟨hA, hB⟩, hC⟩ := h
  have hC' : refsCheckF (mapsF v) = 0 := by simpa using hC
  obtain ⟨U, hU, hused⟩ := used_ok 0 0 (mapsF v) hC'
  obtain ⟨e, W, hW, hwo⟩ := without_ok v.fs 0 U
  rcases hW with ⟨rfl, zs, rfl⟩ | ⟨he, rfl⟩
  · exact ⟨_, lateF_9 v (decide (zs = sps)) 0, fun _ => ⟨hC', namesMay_len hB⟩, (checkLate v sps hv hA hB hC U 0 _ (decide (zs = sps)) hused hwo (.inl ⟨rfl, zs, rfl, rfl⟩)).pure0 ((low_int _ _).2 trivial) ha⟩
  · exact ⟨_, lateF_9 v false e, fun _ => ⟨hC', namesMay_len hB⟩, (checkLate v sps hv hA hB hC U e _ false hused hwo (.inr ⟨he, rfl⟩)).pure0 ((low_int _ _).2 trivial) ha⟩
end Go.VL
end
section
set_option linter.unusedSimpArgs false
set_option linter.unusedVariables false
set_option maxRecDepth 10000
set_option maxHeartbeats 2000000
namespace Go.VL
open Go Go.Proofs
open Nat (reduceAdd reduceEqDiff reduceSub reduceMul reduceLeDiff)

theorem settle_ok (v : Vo) (hv : v.snaps.length ≤ 1048576) :
    (∃ zs : List Sp, ∀ (σ : List Ob) (m : Nat), σ[m]? = some (.arr 34 7 [eV v .nils]) → Ok Tryz.prog 15 [.ptr m 1 0 0] σ (.ret (.bool true)) (σ.set m (.arr 34 7 [eV v (.vec 0 2 (zs.map eS))]) ++ [.arr 32 2 [.agg [.int .i64 v.fs, .vec 0 2 (zs.map eS)]]])) ∨
    (∃ G : List Ob, ∀ (σ : List Ob) (m : Nat), σ[m]? = some (.arr 34 7 [eV v .nils]) → Ok Tryz.prog 15 [.ptr m 1 0 0] σ (.ret (.bool false)) (σ ++ G)) := by
  have hmaps := fun σ => maps_ok v .nils rfl (fun n => low_nils.2 trivial) hv σ
  unfold eV at hmaps ⊢
  obtain ⟨N, hN⟩ : ∃ N, N = v.now.map eX := ⟨_, rfl⟩
  obtain ⟨Z, hZ⟩ : ∃ Z, Z = v.snaps.map (eZ 0) := ⟨_, rfl⟩
  obtain ⟨D, hD⟩ : ∃ D, D = v.data.map (eD 0) := ⟨_, rfl⟩
  obtain ⟨M, hM⟩ : ∃ M, M = (mapsF v).map (eM 0) := ⟨_, rfl⟩
  simp only [← hN, ← hZ, ← hD, ← hM] at hmaps ⊢
  by_cases hC : refsCheckF (mapsF v) = 0
  rotate_left
  · right
    refine ⟨[], fun σ m hob => ?_⟩
    have hbad := fun σ => usedBad_ok 0 0 (mapsF v) hC σ
    rw [← hM] at hbad
    have hz : (refsCheckF (mapsF v) != 0) = true := by simpa using hC
    rw [List.append_nil]
    refine Ok.of_body layOk Tryz.func15 rfl (by decide) (by simp [Tryz.ntmps15]) fun C hP hn hσ hfix hdd => ?_
    rw [show Tryz.f15.ntmps = 34 from rfl] at hn
    have hL : LayOk C.P L := hP ▸ layOk
    have hm : C.P.follows .mixedOrders = true := hP ▸ mixed
    repeat (first | ((first | refine sA hL hn rfl ?_ | refine sB hL hn rfl ?_); simp only [go_sem, Nat.reduceBEq, Int.reduceLT, Int.reduceLE, reduceAdd, reduceEqDiff, reduceIte, reduceSub, Nat.reduceLT, reduceMul, reduceLeDiff, reduceCtorEq, hob]) | ((first | refine sC ?_ | refine sH ?_ | refine sI ?_ | refine sJ ?_); try simp only [thenK, blockK, loopK, loopG, if_true, if_false, reduceEqDiff]) | refine sD ?_ | refine sE ?_ | refine sF rfl ?_ | refine sG rfl ?_)
    refine sK hP hL hn rfl rfl (hmaps _) rfl rfl rfl rfl ?_; simp (maxSteps := 2000000) only [go_sem, Nat.reduceBEq, Int.reduceLT, Int.reduceLE, reduceAdd, reduceEqDiff, reduceIte, reduceSub, Nat.reduceLT, reduceMul, reduceLeDiff, reduceCtorEq]
    refine sK hP hL hn rfl rfl (hbad _) rfl rfl rfl rfl ?_; simp (maxSteps := 2000000) only [go_sem, Nat.reduceBEq, Int.reduceLT, Int.reduceLE, reduceAdd, reduceEqDiff, reduceIte, reduceSub, Nat.reduceLT, reduceMul, reduceLeDiff, reduceCtorEq]
    repeat (first | ((first | refine sA hL hn rfl ?_ | refine sB hL hn rfl ?_); simp only [go_sem, Nat.reduceBEq, Int.reduceLT, Int.reduceLE, reduceAdd, reduceEqDiff, reduceIte, reduceSub, Nat.reduceLT, reduceMul, reduceLeDiff, reduceCtorEq, hz]) | ((first | refine sC ?_ | refine sH ?_ | refine sI ?_ | refine sJ ?_); try simp only [thenK, blockK, loopK, loopG, if_true, if_false, reduceEqDiff]) | refine sD ?_ | refine sE ?_ | refine sF rfl ?_ | refine sG rfl ?_)
    exact ⟨_, _, _, Ghost.refl _ _, rfl, GhostV.refl _ _ _, rfl⟩
  obtain ⟨U, hU, hused⟩ := used_ok 0 0 (mapsF v) hC
  obtain ⟨e, W, hW2, hwo⟩ := without_ok v.fs 0 U
  rw [← hM] at hused
  obtain ⟨UU, hUU⟩ : ∃ UU, UU = U.map eS := ⟨_, rfl⟩
  rw [← hUU] at hused hwo
  rcases hW2 with ⟨rfl, zs, rfl⟩ | ⟨he, rfl⟩
  · left
    refine ⟨zs, fun σ m hob => ?_⟩
    obtain ⟨ZS, hZS⟩ : ∃ ZS, ZS = zs.map eS := ⟨_, rfl⟩
    rw [← hZS] at hwo ⊢
    have hml := lt_of_get hob
    have hg : ∀ l : List Ob, (σ ++ l)[m]? = some (.arr 34 7 [.agg [.int .i64 v.size, .vec 0 3 N, .vec 0 4 Z, .int .i64 v.next, .int .i64 v.fs, .nils, .vec 0 1 D]]) := fun l => by rw [List.getElem?_append_left hml]; exact hob
    have hst : ∀ (l : List Ob) (x : Ob), (σ ++ l).set m x = σ.set m x ++ l := fun l x => List.set_append_left _ _ hml
    have hz : ((0 : Int) == 0) = true := rfl
    have hz' : ((0 : Int) != 0) = false := rfl
    refine Ok.of_body layOk Tryz.func15 rfl (by decide) (by simp [Tryz.ntmps15]) fun C hP hn hσ hfix hdd => ?_
    rw [show Tryz.f15.ntmps = 34 from rfl] at hn
    have hL : LayOk C.P L := hP ▸ layOk
    have hm : C.P.follows .mixedOrders = true := hP ▸ mixed
    repeat (first | ((first | refine sA hL hn rfl ?_ | refine sB hL hn rfl ?_); simp only [go_sem, Nat.reduceBEq, Int.reduceLT, Int.reduceLE, reduceAdd, reduceEqDiff, reduceIte, reduceSub, Nat.reduceLT, reduceMul, reduceLeDiff, reduceCtorEq, hob]) | ((first | refine sC ?_ | refine sH ?_ | refine sI ?_ | refine sJ ?_); try simp only [thenK, blockK, loopK, loopG, if_true, if_false, reduceEqDiff]) | refine sD ?_ | refine sE ?_ | refine sF rfl ?_ | refine sG rfl ?_)
    refine sK hP hL hn rfl rfl (hmaps _) rfl rfl rfl rfl ?_; simp (maxSteps := 2000000) only [go_sem, Nat.reduceBEq, Int.reduceLT, Int.reduceLE, reduceAdd, reduceEqDiff, reduceIte, reduceSub, Nat.reduceLT, reduceMul, reduceLeDiff, reduceCtorEq]
    refine sK hP hL hn rfl rfl (hused _) rfl rfl rfl rfl ?_; simp (maxSteps := 2000000) only [go_sem, Nat.reduceBEq, Int.reduceLT, Int.reduceLE, reduceAdd, reduceEqDiff, reduceIte, reduceSub, Nat.reduceLT, reduceMul, reduceLeDiff, reduceCtorEq]
    repeat (first | ((first | refine sA hL hn rfl ?_ | refine sB hL hn rfl ?_); simp only [go_sem, Nat.reduceBEq, Int.reduceLT, Int.reduceLE, reduceAdd, reduceEqDiff, reduceIte, reduceSub, Nat.reduceLT, reduceMul, reduceLeDiff, reduceCtorEq, hz, hz', hob]) | ((first | refine sC ?_ | refine sH ?_ | refine sI ?_ | refine sJ ?_); try simp only [thenK, blockK, loopK, loopG, if_true, if_false, reduceEqDiff]) | refine sD ?_ | refine sE ?_ | refine sF rfl ?_ | refine sG rfl ?_)
    refine sK hP hL hn rfl rfl (hwo _) rfl rfl rfl rfl ?_; simp (maxSteps := 2000000) only [go_sem, Nat.reduceBEq, Int.reduceLT, Int.reduceLE, reduceAdd, reduceEqDiff, reduceIte, reduceSub, Nat.reduceLT, reduceMul, reduceLeDiff, reduceCtorEq]
    repeat (first | ((first | refine sA hL hn rfl ?_ | refine sB hL hn rfl ?_); simp only [go_sem, Nat.reduceBEq, Int.reduceLT, Int.reduceLE, reduceAdd, reduceEqDiff, reduceIte, reduceSub, Nat.reduceLT, reduceMul, reduceLeDiff, reduceCtorEq, hz, hz', hg, hst]) | ((first | refine sC ?_ | refine sH ?_ | refine sI ?_ | refine sJ ?_); try simp only [thenK, blockK, loopK, loopG, if_true, if_false, reduceEqDiff]) | refine sD ?_ | refine sE ?_ | refine sF rfl ?_ | refine sG rfl ?_)
    exact ⟨_, _, _, Ghost.refl _ _, rfl, GhostV.refl _ _ _, rfl⟩
  · right
    refine ⟨[.arr 32 2 [.agg [.int .i64 0, .nils]]], fun σ m hob => ?_⟩
    have hz : (e == 0) = false := by simpa using he
    have hz' : ((0 : Int) != 0) = false := rfl
    refine Ok.of_body layOk Tryz.func15 rfl (by decide) (by simp [Tryz.ntmps15]) fun C hP hn hσ hfix hdd => ?_
    rw [show Tryz.f15.ntmps = 34 from rfl] at hn
    have hL : LayOk C.P L := hP ▸ layOk
    have hm : C.P.follows .mixedOrders = true := hP ▸ mixed
    repeat (first | ((first | refine sA hL hn rfl ?_ | refine sB hL hn rfl ?_); simp only [go_sem, Nat.reduceBEq, Int.reduceLT, Int.reduceLE, reduceAdd, reduceEqDiff, reduceIte, reduceSub, Nat.reduceLT, reduceMul, reduceLeDiff, reduceCtorEq, hob]) | ((first | refine sC ?_ | refine sH ?_ | refine sI ?_ | refine sJ ?_); try simp only [thenK, blockK, loopK, loopG, if_true, if_false, reduceEqDiff]) | refine sD ?_ | refine sE ?_ | refine sF rfl ?_ | refine sG rfl ?_)
    refine sK hP hL hn rfl rfl (hmaps _) rfl rfl rfl rfl ?_; simp (maxSteps := 2000000) only [go_sem, Nat.reduceBEq, Int.reduceLT, Int.reduceLE, reduceAdd, reduceEqDiff, reduceIte, reduceSub, Nat.reduceLT, reduceMul, reduceLeDiff, reduceCtorEq]
    refine sK hP hL hn rfl rfl (hused _) rfl rfl rfl rfl ?_; simp (maxSteps := 2000000) only [go_sem, Nat.reduceBEq, Int.reduceLT, Int.reduceLE, reduceAdd, reduceEqDiff, reduceIte, reduceSub, Nat.reduceLT, reduceMul, reduceLeDiff, reduceCtorEq]
    repeat (first | ((first | refine sA hL hn rfl ?_ | refine sB hL hn rfl ?_); simp only [go_sem, Nat.reduceBEq, Int.reduceLT, Int.reduceLE, reduceAdd, reduceEqDiff, reduceIte, reduceSub, Nat.reduceLT, reduceMul, reduceLeDiff, reduceCtorEq, hz', hob]) | ((first | refine sC ?_ | refine sH ?_ | refine sI ?_ | refine sJ ?_); try simp only [thenK, blockK, loopK, loopG, if_true, if_false, reduceEqDiff]) | refine sD ?_ | refine sE ?_ | refine sF rfl ?_ | refine sG rfl ?_)
    refine sK hP hL hn rfl rfl (hwo _) rfl rfl rfl rfl ?_; simp (maxSteps := 2000000) only [go_sem, Nat.reduceBEq, Int.reduceLT, Int.reduceLE, reduceAdd, reduceEqDiff, reduceIte, reduceSub, Nat.reduceLT, reduceMul, reduceLeDiff, reduceCtorEq]
    repeat (first | ((first | refine sA hL hn rfl ?_ | refine sB hL hn rfl ?_); simp only [go_sem, Nat.reduceBEq, Int.reduceLT, Int.reduceLE, reduceAdd, reduceEqDiff, reduceIte, reduceSub, Nat.reduceLT, reduceMul, reduceLeDiff, reduceCtorEq, hz]) | ((first | refine sC ?_ | refine sH ?_ | refine sI ?_ | refine sJ ?_); try simp only [thenK, blockK, loopK, loopG, if_true, if_false, reduceEqDiff]) | refine sD ?_ | refine sE ?_ | refine sF rfl ?_ | refine sG rfl ?_)
    exact ⟨_, _, _, Ghost.refl _ _, rfl, GhostV.refl _ _ _, rfl⟩
theorem all_eBs (rs : List UInt8) : ((rs.map eB).all fun y => y.cells.all DV.one) = true := by
  rw [List.all_eq_true]
  intro y hy
  obtain ⟨x, _, rfl⟩ := List.mem_map.1 hy
  rfl
theorem low_eB (n : Nat) (b : UInt8) : Low n (eB b) := (low_int _ _).2 trivial
theorem cloneBRaw_ok (c : Nat) (xs : List UInt8) (h0 : 0 < xs.length) (h1 : xs.length ≤ 1048576) (σ : List Ob) : Ok Tryz.prog 14 [.vec c 1 (xs.map eB)] σ (.ret (.sl σ.length xs.length 0 xs.length)) (σ ++ [.arr 5 1 (xs.map eB)]) := by
  obtain ⟨X, hX⟩ : ∃ X, X = xs.map eB := ⟨_, rfl⟩
  have hXl : X.length = xs.length := by rw [hX, List.length_map]
  have aX := all_eBs xs
  rw [← hX] at aX ⊢
  simp only [DV.cells] at aX
  have hcap : X.length ≤ 140737488355328 := by omega
  have n0 : (X.length = 0) = False := eq_false (by omega)
  obtain ⟨x, R, hXR⟩ : ∃ x R, X = x :: R := by
    cases X with
    | nil => simp at hXl; omega
    | cons x R => exact ⟨x, R, rfl⟩
  rw [hXR] at aX hcap n0 hXl ⊢
  rw [List.length_cons] at hcap
  refine Ok.of_body layOk Tryz.func14 rfl (by decide) (by simp [Tryz.ntmps14]) fun C hP hn hσ hfix hdd => ?_
  rw [show Tryz.f14.ntmps = 8 from rfl] at hn
  have hL : LayOk C.P L := hP ▸ layOk
  have hm : C.P.follows .mixedOrders = true := hP ▸ mixed
  repeat (first | ((first | refine sA hL hn rfl ?_ | refine sB hL hn rfl ?_); simp only [go_sem, Nat.reduceBEq, Int.reduceLT, Int.reduceLE, reduceAdd, reduceEqDiff, reduceIte, reduceSub, Nat.reduceLT, reduceMul, reduceLeDiff, reduceCtorEq, appDV, aX, hcap, n0, Array.size_empty, List.size_toArray]) | ((first | refine sC ?_ | refine sH ?_ | refine sI ?_ | refine sJ ?_); try simp only [thenK, blockK, loopK, loopG, if_true, if_false, reduceEqDiff]) | refine sD ?_ | refine sE ?_ | refine sF rfl ?_ | refine sG rfl ?_)
  rw [← hXl]
  exact ⟨_, _, _, Ghost.refl _ _, rfl, GhostV.refl _ _ _, rfl⟩
theorem cloneB_ok (c : Nat) (xs : List UInt8) (h1 : xs.length ≤ 1048576) (σ : List Ob) : Ok Tryz.prog 14 [.vec c 1 (xs.map eB)] σ (.ret (.vec 0 1 (xs.map eB))) σ := by
  rcases Nat.eq_zero_or_pos xs.length with h0 | h0
  · obtain rfl := List.length_eq_zero_iff.1 h0
    show Ok _ _ [.vec c 1 []] σ (.ret (.vec 0 1 [])) σ
    refine (OkE.thaw (c := 0) (R := fun D => D = .vec 0 1 []) ?_ (by simp [low_vec]) σ).ok fun o σ' ⟨e, D', e1, e2⟩ => by subst e2; exact ⟨e1, e⟩
    refine OkE.of_body layOk Tryz.func14 rfl (by decide) (by simp [Tryz.ntmps14]) fun C hP hn hσ hfix hdd => ?_
    rw [show Tryz.f14.ntmps = 8 from rfl] at hn
    have hL : LayOk C.P L := hP ▸ layOk
    have hm : C.P.follows .mixedOrders = true := hP ▸ mixed
    repeat (first | ((first | refine sA hL hn rfl ?_ | refine sB hL hn rfl ?_); simp only [go_sem, Nat.reduceBEq, Int.reduceLT, Int.reduceLE, reduceAdd, reduceEqDiff, reduceIte, reduceSub, Nat.reduceLT, reduceMul, reduceLeDiff, reduceCtorEq]) | ((first | refine sC ?_ | refine sH ?_ | refine sI ?_ | refine sJ ?_); try simp only [thenK, blockK, loopK, loopG, if_true, if_false, reduceEqDiff]) | refine sD ?_ | refine sE ?_ | refine sF rfl ?_ | refine sG rfl ?_)
    refine SWops.eqNil hL (by rw [hn]; rfl) rfl rfl ⟨_, _, rfl, rfl⟩ rfl rfl fun b hb => ?_
    refine SWops.nil ?_
    simp only [upo, up, thenK]
    cases b
    · repeat (first | ((first | refine sA hL hn rfl ?_ | refine sB hL hn rfl ?_); simp only [go_sem, Nat.reduceBEq, Int.reduceLT, Int.reduceLE, reduceAdd, reduceEqDiff, reduceIte, reduceSub, Nat.reduceLT, reduceMul, reduceLeDiff, reduceCtorEq, appDV]) | ((first | refine sC ?_ | refine sH ?_ | refine sI ?_ | refine sJ ?_); try simp only [thenK, blockK, loopK, loopG, if_true, if_false, reduceEqDiff]) | refine sD ?_ | refine sE ?_ | refine sF rfl ?_ | refine sG rfl ?_)
      refine ⟨.ret .emp, [], ⟨_, _, rfl, .emp, rfl⟩, ?_⟩
      exact ⟨_, _, _, Ghost.refl _ _, rfl, GhostV.refl _ _ _, rfl⟩
    · repeat (first | ((first | refine sA hL hn rfl ?_ | refine sB hL hn rfl ?_); simp only [go_sem, Nat.reduceBEq, Int.reduceLT, Int.reduceLE, reduceAdd, reduceEqDiff, reduceIte, reduceSub, Nat.reduceLT, reduceMul, reduceLeDiff, reduceCtorEq]) | ((first | refine sC ?_ | refine sH ?_ | refine sI ?_ | refine sJ ?_); try simp only [thenK, blockK, loopK, loopG, if_true, if_false, reduceEqDiff]) | refine sD ?_ | refine sE ?_ | refine sF rfl ?_ | refine sG rfl ?_)
      refine ⟨.ret .nils, [], ⟨_, _, rfl, .nil, rfl⟩, ?_⟩
      exact ⟨_, _, _, Ghost.refl _ _, rfl, GhostV.refl _ _ _, rfl⟩
  · exact Ok.thaw (c := 0) (cloneBRaw_ok c xs h0 h1 []) (Fz.list eB (low_eB 0) (t := 5) (k := 1) rfl) (by simp [low_vec]; intro a _; exact low_eB 0 a) σ
theorem copyBRaw_ok (c : Nat) (xs : List UInt8) (h1 : xs.length ≤ 1048576) (σ : List Ob) : Ok Tryz.prog 18 [.vec c 1 (xs.map eB)] σ (.ret (.sl σ.length xs.length 0 xs.length)) (σ ++ [.arr 5 1 (xs.map eB)]) := by
  refine Ok.of_body layOk Tryz.func18 rfl (by decide) (by simp [Tryz.ntmps18]) fun C hP hn hσ hfix hdd => ?_
  rw [show Tryz.f18.ntmps = 7 from rfl] at hn
  have hL : LayOk C.P L := hP ▸ layOk
  have hm : C.P.follows .mixedOrders = true := hP ▸ mixed
  have a1 := all_eBs xs
  simp only [DV.cells] at a1
  have hcap : xs.length ≤ 140737488355328 := by omega
  repeat (first | ((first | refine sA hL hn rfl ?_ | refine sB hL hn rfl ?_); simp only [go_sem, Nat.reduceBEq, Int.reduceLT, Int.reduceLE, reduceAdd, reduceEqDiff, reduceIte, reduceSub, Nat.reduceLT, reduceMul, reduceLeDiff, reduceCtorEq, appDV, List.length_map, a1, hcap]) | ((first | refine sC ?_ | refine sH ?_ | refine sI ?_ | refine sJ ?_); try simp only [thenK, blockK, loopK, loopG, if_true, if_false, reduceEqDiff]) | refine sD ?_ | refine sE ?_ | refine sF rfl ?_ | refine sG rfl ?_)
  exact ⟨_, _, _, Ghost.refl _ _, rfl, GhostV.refl _ _ _, rfl⟩
theorem copyB_ok (c : Nat) (xs : List UInt8) (h1 : xs.length ≤ 1048576) (σ : List Ob) : Ok Tryz.prog 18 [.vec c 1 (xs.map eB)] σ (.ret (.vec 0 1 (xs.map eB))) σ :=
  Ok.thaw (c := 0) (copyBRaw_ok c xs h1 []) (Fz.list eB (low_eB 0) (t := 5) (k := 1) rfl) (by simp [low_vec]; intro a _; exact low_eB 0 a) σ
theorem all_eD (c : Nat) (rs : List (List UInt8)) : ((rs.map (eD c)).all fun y => y.cells.all DV.one) = true := by
  rw [List.all_eq_true]
  intro y hy
  obtain ⟨x, _, rfl⟩ := List.mem_map.1 hy
  rfl
theorem copyListRaw_ok (c d : Nat) (xs : List (List UInt8)) (h1 : xs.length ≤ 1048576) (h2 : ∀ x ∈ xs, x.length ≤ 1048576) (σ : List Ob) : Ok Tryz.prog 6 [.vec d 1 (xs.map (eD c))] σ (.ret (.sl σ.length xs.length 0 xs.length)) (σ ++ [.arr 48 1 (xs.map (eD 0))]) := by
  obtain ⟨X, hX⟩ : ∃ X, X = xs.map (eD c) := ⟨_, rfl⟩
  have hXl : X.length = xs.length := by rw [hX, List.length_map]
  have hXm := lowIff (eD c) (fun n => low_eD n c) xs
  rw [← hX] at hXm ⊢
  refine Ok.of_body layOk Tryz.func6 rfl (by decide) (by simp [Tryz.ntmps6]) fun C hP hn hσ hfix hdd => ?_
  rw [show Tryz.f6.ntmps = 20 from rfl] at hn
  have hL : LayOk C.P L := hP ▸ layOk
  have hm : C.P.follows .mixedOrders = true := hP ▸ mixed
  repeat (first | ((first | refine sA hL hn rfl ?_ | refine sB hL hn rfl ?_); simp only [go_sem, Nat.reduceBEq, Int.reduceLT, Int.reduceLE, reduceAdd, reduceEqDiff, reduceIte, reduceSub, Nat.reduceLT, reduceMul, reduceLeDiff, reduceCtorEq]) | ((first | refine sC ?_ | refine sH ?_ | refine sI ?_ | refine sJ ?_); try simp only [thenK, blockK, loopK, loopG, if_true, if_false, reduceEqDiff]) | refine sD ?_ | refine sE ?_ | refine sF rfl ?_ | refine sG rfl ?_)
  refine SW.lpg (fun x : Nat × List (List UInt8) => ⟨[(0, .vec d 1 X), (3, .sl σ.length x.2.length 0 x.2.length), (4, .int .i64 x.1)], σ ++ [.arr 48 1 (x.2.map (eD 0))]⟩) (fun x => xs.length - x.1) (fun x => x.1 ≤ xs.length ∧ x.2 = xs.take x.1) (0, []) ⟨by simp, rfl⟩ ?_ ?_
  · exact Ghost.trans (Ghost.newNil 3 48 1 (by simp [lk])) (.of (by simp) (by simp [agree, lk, up]))
  rintro ⟨k, out⟩ ⟨hk, hout⟩
  simp only at hk hout
  have hol : out.length = k := by rw [hout]; simp; omega
  by_cases hlt : k < xs.length
  · have e1 : decide ((k : Int) < (X.length : Int)) = true := decide_eq_true (by omega)
    have e2 : (0 ≤ (k : Int) ∧ (k : Int) < (X.length : Int)) := by omega
    obtain ⟨x, hx⟩ : ∃ x, x = xs[k] := ⟨_, rfl⟩
    obtain ⟨xl, hxl⟩ : ∃ xl, xl = x.map eB := ⟨_, rfl⟩
    have hxm := lowIff eB low_eB x
    have hcp := fun σ => copyB_ok c x (h2 x (by rw [hx]; exact List.getElem_mem _)) σ
    rw [← hxl] at hxm hcp
    have e3 : X[k]?.getD .undef = .vec c 1 xl := by rw [hX, hxl, hx]; simp [hlt, eD]
    have w1 : IntKind.i64.wrap ((k : Int) + 1) = ((k + 1 : Nat) : Int) := wi (by omega) (by omega)
    have hnx : xs.take (k + 1) = out ++ [x] := by rw [List.take_succ_eq_append_getElem hlt, hout, hx]
    obtain ⟨O, hO⟩ : ∃ O, O = out.map (eD 0) := ⟨_, rfl⟩
    have hOl : O.length = out.length := by rw [hO, List.length_map]
    have aO := all_eD 0 out
    rw [← hO] at aO
    simp only [DV.cells] at aO
    rw [← hO]
    have hcap : (out.length + 1) * 24 ≤ 140737488355328 := by omega
    have q1 : (out ++ [x]).map (eD 0) = O ++ [.vec 0 1 xl] := by rw [List.map_append, ← hO, hxl]; rfl
    have q2 : (out ++ [x]).length = out.length + 1 := by simp
    repeat (first | ((first | refine sA hL hn rfl ?_ | refine sB hL hn rfl ?_); simp only [go_sem, Nat.reduceBEq, Int.reduceLT, Int.reduceLE, reduceAdd, reduceEqDiff, reduceIte, reduceSub, Nat.reduceLT, reduceMul, reduceLeDiff, reduceCtorEq, e1, e2, e3]) | ((first | refine sC ?_ | refine sH ?_ | refine sI ?_ | refine sJ ?_); try simp only [thenK, blockK, loopK, loopG, if_true, if_false, reduceEqDiff]) | refine sD ?_ | refine sE ?_ | refine sF rfl ?_ | refine sG rfl ?_)
    refine sK hP hL hn rfl rfl (hcp _) rfl rfl rfl rfl ?_; simp (maxSteps := 2000000) only [go_sem, Nat.reduceBEq, Int.reduceLT, Int.reduceLE, reduceAdd, reduceEqDiff, reduceIte, reduceSub, Nat.reduceLT, reduceMul, reduceLeDiff, reduceCtorEq, appDV, aO, hOl, hcap]
    repeat (first | ((first | refine sA hL hn rfl ?_ | refine sB hL hn rfl ?_); simp only [go_sem, Nat.reduceBEq, Int.reduceLT, Int.reduceLE, reduceAdd, reduceEqDiff, reduceIte, reduceSub, Nat.reduceLT, reduceMul, reduceLeDiff, reduceCtorEq, appDV, aO, hOl, hcap, w1]) | ((first | refine sC ?_ | refine sH ?_ | refine sI ?_ | refine sJ ?_); try simp only [thenK, blockK, loopK, loopG, if_true, if_false, reduceEqDiff]) | refine sD ?_ | refine sE ?_ | refine sF rfl ?_ | refine sG rfl ?_)
    refine Lp.nextg (k + 1, out ++ [x]) ⟨by simp only; omega, hnx.symm⟩ (by simp only; omega) ?_
    have q3 := low_ob (eD 0) (fun n => low_eD n 0) (σ.length + 1) 48 1 (out ++ [x])
    rw [q1] at q3
    simp only [q1, q2]
    exact Ghost.keep 1 _ hσ hfix (by simp [agree, lk, hOl]) (by simp [lk, low_int, low_bool, low_str, low_nils, low_nilp, low_nilf, low_nili, low_undef, low_skip, low_vec, low_agg, low_tup, low_fn, low_vptr, low_iface, low_ptr, low_sl, low_mp, low_it, low_yld, low_emp, lowEnv, lowObs, lowOb, tmpObs, isArr, hXm]) ⟨q3, trivial⟩ (by simp [lk, low_int, low_bool, low_str, low_nils, low_nilp, low_nilf, low_nili, low_undef, low_skip, low_vec, low_agg, low_tup, low_fn, low_vptr, low_iface, low_ptr, low_sl, low_mp, low_it, low_yld, low_emp, lowEnv, lowObs, lowOb, tmpObs, isArr, hxm])
  · have e1 : decide ((k : Int) < (X.length : Int)) = false := decide_eq_false (by omega)
    obtain rfl : k = xs.length := by omega
    rw [List.take_length] at hout
    subst hout
    repeat (first | ((first | refine sA hL hn rfl ?_ | refine sB hL hn rfl ?_); simp only [go_sem, Nat.reduceBEq, Int.reduceLT, Int.reduceLE, reduceAdd, reduceEqDiff, reduceIte, reduceSub, Nat.reduceLT, reduceMul, reduceLeDiff, reduceCtorEq, e1]) | ((first | refine sC ?_ | refine sH ?_ | refine sI ?_ | refine sJ ?_); try simp only [thenK, blockK, loopK, loopG, if_true, if_false, reduceEqDiff]) | refine sD ?_ | refine sE ?_ | refine sF rfl ?_ | refine sG rfl ?_)
    exact ⟨_, _, _, Ghost.refl _ _, rfl, GhostV.refl _ _ _, rfl⟩
theorem copyList_ok (c d : Nat) (xs : List (List UInt8)) (h1 : xs.length ≤ 1048576) (h2 : ∀ x ∈ xs, x.length ≤ 1048576) (σ : List Ob) : Ok Tryz.prog 6 [.vec d 1 (xs.map (eD c))] σ (.ret (.vec 0 1 (xs.map (eD 0)))) σ :=
  Ok.thaw (c := 0) (copyListRaw_ok c d xs h1 h2 []) (Fz.list (eD 0) (low_eD 0 0) (t := 48) (k := 1) rfl) (by simp [low_vec]; intro a _; exact low_eD 0 c a) σ
end Go.VL
end
section
set_option linter.unusedSimpArgs false
set_option linter.unusedVariables false
set_option maxRecDepth 10000
set_option maxHeartbeats 2000000
namespace Go.VL
open Go Go.Proofs
open Nat (reduceAdd reduceEqDiff reduceSub reduceMul reduceLeDiff)

def numF (n : Int) : Int := IntKind.i64.wrap (mn n 2147483647)
theorem number_ok (n : Int) (σ : List Ob) : Ok Tryz.prog 33 [.int .u64 n] σ (.ret (.int .i64 (numF n))) σ := by
  unfold numF
  refine Ok.of_body layOk Tryz.func33 rfl (by decide) (by simp [Tryz.ntmps33]) fun C hP hn hσ hfix hdd => ?_
  rw [show Tryz.f33.ntmps = 6 from rfl] at hn
  have hL : LayOk C.P L := hP ▸ layOk
  have hm : C.P.follows .mixedOrders = true := hP ▸ mixed
  repeat (first | ((first | refine sA hL hn rfl ?_ | refine sB hL hn rfl ?_); simp only [go_sem, Nat.reduceBEq, Int.reduceLT, Int.reduceLE, reduceAdd, reduceEqDiff, reduceIte, reduceSub, Nat.reduceLT, reduceMul, reduceLeDiff, reduceCtorEq]) | ((first | refine sC ?_ | refine sH ?_ | refine sI ?_ | refine sJ ?_); try simp only [thenK, blockK, loopK, loopG, if_true, if_false, reduceEqDiff]) | refine sD ?_ | refine sE ?_ | refine sF rfl ?_ | refine sG rfl ?_)
  exact ⟨_, _, _, Ghost.refl _ _, rfl, GhostV.refl _ _ _, rfl⟩
def itF (k a : Int) : Int := bits .u64 .or (IntKind.u64.wrap (IntKind.u64.wrap k * 2 ^ min (Int.toNat 56) 64)) a
theorem item_ok (k a b : Int) (σ : List Ob) : Ok Tryz.prog 38 [.int .i64 k, .int .u64 a, .int .u64 b] σ (.ret (.agg [.int .u64 (itF k a), .int .u64 b])) σ := by
  have hb : ∀ a b : Int, buildDV L 27 [(0, .int .u64 a), (1, .int .u64 b)] = some (.agg [.int .u64 a, .int .u64 b]) := fun _ _ => rfl
  refine Ok.of_body layOk Tryz.func38 rfl (by decide) (by simp [Tryz.ntmps38]) fun C hP hn hσ hfix hdd => ?_
  rw [show Tryz.f38.ntmps = 14 from rfl] at hn
  have hL : LayOk C.P L := hP ▸ layOk
  have hm : C.P.follows .mixedOrders = true := hP ▸ mixed
  unfold itF
  repeat (first | ((first | refine sA hL hn rfl ?_ | refine sB hL hn rfl ?_); simp only [go_sem, Nat.reduceBEq, Int.reduceLT, Int.reduceLE, reduceAdd, reduceEqDiff, reduceIte, reduceSub, Nat.reduceLT, reduceMul, reduceLeDiff, reduceCtorEq, hb]) | ((first | refine sC ?_ | refine sH ?_ | refine sI ?_ | refine sJ ?_); try simp only [thenK, blockK, loopK, loopG, if_true, if_false, reduceEqDiff]) | refine sD ?_ | refine sE ?_ | refine sF rfl ?_ | refine sG rfl ?_)
  refine ⟨_, .agg [.int .u64 (bits .u64 .or (IntKind.u64.wrap (IntKind.u64.wrap k * 2 ^ min (Int.toNat 56) 64)) a), .int .u64 b], _, Ghost.refl _ _, ?_, GhostV.none (by rw [hn]; decide) hσ hfix (by simp [lk, low_int, low_bool, low_str, low_nils, low_nilp, low_nilf, low_nili, low_undef, low_skip, low_vec, low_agg, low_tup, low_fn, low_vptr, low_iface, low_ptr, low_sl, low_mp, low_it, low_yld, low_emp, lowEnv, lowObs, lowOb, tmpObs, isArr]) (by simp [lk, low_int, low_bool, low_str, low_nils, low_nilp, low_nilf, low_nili, low_undef, low_skip, low_vec, low_agg, low_tup, low_fn, low_vptr, low_iface, low_ptr, low_sl, low_mp, low_it, low_yld, low_emp, lowEnv, lowObs, lowOb, tmpObs, isArr]), rfl⟩
  show resDV L _ [Go.ResultVar.cell 6 27] = _
  simp only [resDV, resL, resDV1, go_sem, Nat.reduceBEq, Int.reduceLT, Int.reduceLE, reduceAdd, reduceEqDiff, reduceIte, reduceSub, Nat.reduceLT, reduceMul, reduceLeDiff, reduceCtorEq]
def e8F (s : ByteArray) (o : Nat) : Nat → Int
  | 0 => 0
  | k + 1 => match s.data[o + k]? with
    | some c => bits .u64 .or (e8F s o k) (IntKind.u64.wrap (IntKind.u64.wrap (c.toNat : Int) * 2 ^ min (8 * k) 64))
    | none => e8F s o k
theorem eight_ok (s : ByteArray) (hs : s.size ≤ 1000000000) (o : Nat) (ho : o ≤ 8) (σ : List Ob) : Ok Tryz.prog 39 [.str s, .int .i64 o] σ (.ret (.int .u64 (e8F s o 8))) σ := by
  refine Ok.of_body layOk Tryz.func39 rfl (by decide) (by simp [Tryz.ntmps39]) fun C hP hn hσ hfix hdd => ?_
  rw [show Tryz.f39.ntmps = 28 from rfl] at hn
  have hL : LayOk C.P L := hP ▸ layOk
  have hm : C.P.follows .mixedOrders = true := hP ▸ mixed
  repeat (first | ((first | refine sA hL hn rfl ?_ | refine sB hL hn rfl ?_); simp only [go_sem, Nat.reduceBEq, Int.reduceLT, Int.reduceLE, reduceAdd, reduceEqDiff, reduceIte, reduceSub, Nat.reduceLT, reduceMul, reduceLeDiff, reduceCtorEq]) | ((first | refine sC ?_ | refine sH ?_ | refine sI ?_ | refine sJ ?_); try simp only [thenK, blockK, loopK, loopG, if_true, if_false, reduceEqDiff]) | refine sD ?_ | refine sE ?_ | refine sF rfl ?_ | refine sG rfl ?_)
  refine SW.lpg (fun x : Nat => ⟨[(0, .str s), (1, .int .i64 o), (4, .int .u64 (e8F s o x)), (6, .int .i64 x)], σ⟩) (fun x => 8 - x) (fun x => x ≤ 8) 0 (by simp) (.of rfl (by simp [agree, lk, e8F])) ?_
  intro k hk
  by_cases hlt : k < 8
  · have e1 : decide ((k : Int) < 8) = true := decide_eq_true (by omega)
    have w1 : IntKind.i64.wrap ((k : Int) + 1) = ((k + 1 : Nat) : Int) := wi (by omega) (by omega)
    have w2 : IntKind.i64.wrap ((o : Int) + (k : Int)) = ((o + k : Nat) : Int) := wi (by omega) (by omega)
    have w3 : IntKind.i64.wrap (8 * (k : Int)) = ((8 * k : Nat) : Int) := wi (by omega) (by omega)
    by_cases hs2 : o + k < s.size
    · have d1 : decide (((o + k : Nat) : Int) < (s.size : Int)) = true := decide_eq_true (by omega)
      have hpos : 0 ≤ ((o + k : Nat) : Int) := by omega
      have hneg : (((8 * k : Nat) : Int) < 0) = False := eq_false (by omega)
      obtain ⟨c, hc⟩ : ∃ c, s.data[o + k]? = some c := ⟨_, Array.getElem?_eq_getElem hs2⟩
      have q : e8F s o (k + 1) = bits .u64 .or (e8F s o k) (IntKind.u64.wrap (IntKind.u64.wrap (c.toNat : Int) * 2 ^ min (8 * k) 64)) := by rw [e8F, hc]
      repeat (first | ((first | refine sA hL hn rfl ?_ | refine sB hL hn rfl ?_); simp only [go_sem, Nat.reduceBEq, Int.reduceLT, Int.reduceLE, reduceAdd, reduceEqDiff, reduceIte, reduceSub, Nat.reduceLT, reduceMul, reduceLeDiff, reduceCtorEq, e1, w2, d1, hpos, hc, w3, hneg, w1]) | ((first | refine sC ?_ | refine sH ?_ | refine sI ?_ | refine sJ ?_); try simp only [thenK, blockK, loopK, loopG, if_true, if_false, reduceEqDiff]) | refine sD ?_ | refine sE ?_ | refine sF rfl ?_ | refine sG rfl ?_)
      exact Lp.nextg (k + 1) (by omega) (by omega) (.of rfl (by simp [agree, lk, q]))
    · have d1 : decide (((o + k : Nat) : Int) < (s.size : Int)) = false := decide_eq_false (by omega)
      have q : e8F s o (k + 1) = e8F s o k := by
        have : s.data[o + k]? = none := Array.getElem?_eq_none (by show s.size ≤ _; omega)
        rw [e8F, this]
      repeat (first | ((first | refine sA hL hn rfl ?_ | refine sB hL hn rfl ?_); simp only [go_sem, Nat.reduceBEq, Int.reduceLT, Int.reduceLE, reduceAdd, reduceEqDiff, reduceIte, reduceSub, Nat.reduceLT, reduceMul, reduceLeDiff, reduceCtorEq, e1, w2, d1, w1]) | ((first | refine sC ?_ | refine sH ?_ | refine sI ?_ | refine sJ ?_); try simp only [thenK, blockK, loopK, loopG, if_true, if_false, reduceEqDiff]) | refine sD ?_ | refine sE ?_ | refine sF rfl ?_ | refine sG rfl ?_)
      exact Lp.nextg (k + 1) (by omega) (by omega) (.of rfl (by simp [agree, lk, q]))
  · have e1 : decide ((k : Int) < 8) = false := decide_eq_false (by omega)
    obtain rfl : k = 8 := by omega
    repeat (first | ((first | refine sA hL hn rfl ?_ | refine sB hL hn rfl ?_); simp only [go_sem, Nat.reduceBEq, Int.reduceLT, Int.reduceLE, reduceAdd, reduceEqDiff, reduceIte, reduceSub, Nat.reduceLT, reduceMul, reduceLeDiff, reduceCtorEq, e1]) | ((first | refine sC ?_ | refine sH ?_ | refine sI ?_ | refine sJ ?_); try simp only [thenK, blockK, loopK, loopG, if_true, if_false, reduceEqDiff]) | refine sD ?_ | refine sE ?_ | refine sF rfl ?_ | refine sG rfl ?_)
    exact ⟨_, _, _, Ghost.refl _ _, rfl, GhostV.refl _ _ _, rfl⟩
theorem octs_map : ∀ (l : List Int), octs (l.map (DV.int .u8)) = some (l.map fun n => UInt8.ofNat n.toNat)
  | [] => rfl
  | x :: r => by simp only [List.map_cons, octs, octs_map r, Option.map_some]
def txF (a b : Int) : Nat → Int × Int × List Int
  | 0 => (a, b, [])
  | k + 1 => match txF a b k with
    | (a, b, l) => (bits .u64 .or (a.fdiv (2 ^ min (Int.toNat 8) 64)) (IntKind.u64.wrap (b * 2 ^ min (Int.toNat 56) 64)), b.fdiv (2 ^ min (Int.toNat 8) 64), l ++ [IntKind.u8.wrap a])
theorem low_u8 (n : Nat) (x : Int) : Low n (.int .u8 x) := (low_int _ _).2 trivial
theorem textRaw_ok (a b n : Int) (hn0 : 0 ≤ n) (σ : List Ob) : Ok Tryz.prog 34 [.int .u64 a, .int .u64 b, .int .i64 n] σ (.ret (.str (strOf (((txF a b 16).2.2.take (mn n 16).toNat).map fun n => UInt8.ofNat n.toNat)))) (σ ++ [.arr 5 1 ((txF a b 16).2.2.map (DV.int .u8))]) := by
  refine Ok.of_body layOk Tryz.func34 rfl (by decide) (by simp [Tryz.ntmps34]) fun C hP hn hσ hfix hdd => ?_
  rw [show Tryz.f34.ntmps = 30 from rfl] at hn
  have hL : LayOk C.P L := hP ▸ layOk
  have hm : C.P.follows .mixedOrders = true := hP ▸ mixed
  repeat (first | ((first | refine sA hL hn rfl ?_ | refine sB hL hn rfl ?_); simp only [go_sem, Nat.reduceBEq, Int.reduceLT, Int.reduceLE, reduceAdd, reduceEqDiff, reduceIte, reduceSub, Nat.reduceLT, reduceMul, reduceLeDiff, reduceCtorEq]) | ((first | refine sC ?_ | refine sH ?_ | refine sI ?_ | refine sJ ?_); try simp only [thenK, blockK, loopK, loopG, if_true, if_false, reduceEqDiff]) | refine sD ?_ | refine sE ?_ | refine sF rfl ?_ | refine sG rfl ?_)
  refine SW.lpg (fun x : Nat × Int × Int × List Int => ⟨[(0, .int .u64 x.2.1), (1, .int .u64 x.2.2.1), (2, .int .i64 n), (7, .sl σ.length x.2.2.2.length 0 x.2.2.2.length), (8, .int .i64 x.1)], σ ++ [.arr 5 1 (x.2.2.2.map (DV.int .u8))]⟩) (fun x => 16 - x.1) (fun x => x.1 ≤ 16 ∧ x.2.2.2.length = x.1 ∧ x.2 = txF a b x.1) (0, a, b, []) ⟨by simp, rfl, rfl⟩ ?_ ?_
  · exact Ghost.trans (Ghost.newNil 7 5 1 (by simp [lk])) (.of (by simp) (by simp [agree, lk, up]))
  rintro ⟨k, a1, b1, out⟩ ⟨hk, hol, htx⟩
  simp only at hk hol htx
  obtain ⟨O, hO⟩ : ∃ O, O = out.map (DV.int .u8) := ⟨_, rfl⟩
  have hOl : O.length = out.length := by rw [hO, List.length_map]
  by_cases hlt : k < 16
  · have e1 : decide ((k : Int) < 16) = true := decide_eq_true (by omega)
    have w1 : IntKind.i64.wrap ((k : Int) + 1) = ((k + 1 : Nat) : Int) := wi (by omega) (by omega)
    have hcap : (out.length + 1) ≤ 140737488355328 := by omega
    have hnx : txF a b (k + 1) = (bits .u64 .or (a1.fdiv (2 ^ min (Int.toNat 8) 64)) (IntKind.u64.wrap (b1 * 2 ^ min (Int.toNat 56) 64)), b1.fdiv (2 ^ min (Int.toNat 8) 64), out ++ [IntKind.u8.wrap a1]) := by rw [txF, ← htx]
    have q1 : (out ++ [IntKind.u8.wrap a1]).map (DV.int .u8) = O ++ [.int .u8 (IntKind.u8.wrap a1)] := by rw [List.map_append, ← hO]; rfl
    have q2 : (out ++ [IntKind.u8.wrap a1]).length = out.length + 1 := by simp
    have q3 := low_ob (DV.int .u8) low_u8 (σ.length + 1) 5 1 (out ++ [IntKind.u8.wrap a1])
    rw [q1] at q3
    rw [← hO]
    repeat (first | ((first | refine sA hL hn rfl ?_ | refine sB hL hn rfl ?_); simp only [go_sem, Nat.reduceBEq, Int.reduceLT, Int.reduceLE, reduceAdd, reduceEqDiff, reduceIte, reduceSub, Nat.reduceLT, reduceMul, reduceLeDiff, reduceCtorEq, e1, appDV, hOl, hcap, w1]) | ((first | refine sC ?_ | refine sH ?_ | refine sI ?_ | refine sJ ?_); try simp only [thenK, blockK, loopK, loopG, if_true, if_false, reduceEqDiff]) | refine sD ?_ | refine sE ?_ | refine sF rfl ?_ | refine sG rfl ?_)
    refine Lp.nextg (k + 1, txF a b (k + 1)) ⟨by simp only; omega, by rw [hnx]; simp [hol], rfl⟩ (by simp only; omega) ?_
    rw [hnx]
    simp only [q1, q2]
    exact Ghost.keep 1 _ hσ hfix (by simp [agree, lk, hOl]) (by simp [lk, low_int, low_bool, low_str, low_nils, low_nilp, low_nilf, low_nili, low_undef, low_skip, low_vec, low_agg, low_tup, low_fn, low_vptr, low_iface, low_ptr, low_sl, low_mp, low_it, low_yld, low_emp, lowEnv, lowObs, lowOb, tmpObs, isArr]) ⟨q3, trivial⟩ (by simp [lk, low_int, low_bool, low_str, low_nils, low_nilp, low_nilf, low_nili, low_undef, low_skip, low_vec, low_agg, low_tup, low_fn, low_vptr, low_iface, low_ptr, low_sl, low_mp, low_it, low_yld, low_emp, lowEnv, lowObs, lowOb, tmpObs, isArr])
  · have e1 : decide ((k : Int) < 16) = false := decide_eq_false (by omega)
    obtain rfl : k = 16 := by omega
    rw [← htx]
    obtain ⟨q, hq⟩ : ∃ q, q = (mn n 16).toNat := ⟨_, rfl⟩
    have hq16 : q ≤ 16 := by rw [hq]; unfold mn; split <;> omega
    have hqn : mn n 16 = (q : Int) := by rw [hq]; unfold mn; split <;> omega
    have hqn2 : mn n ((16 : Nat) : Int) = (q : Int) := hqn
    have bq : bound (some (.int .i64 (q : Int))) 16 16 = some q := bound_i hq16
    have b0 : bound none 0 q = some 0 := rfl
    have hoct : octs (List.take q O) = some ((out.take q).map fun n => UInt8.ofNat n.toNat) := by rw [hO, ← List.map_take]; exact octs_map _
    have hisO : isOct L 5 = true := rfl
    rw [← hq, ← hO]
    repeat (first | ((first | refine sA hL hn rfl ?_ | refine sB hL hn rfl ?_); simp only [go_sem, Nat.reduceBEq, Int.reduceLT, Int.reduceLE, reduceAdd, reduceEqDiff, reduceIte, reduceSub, Nat.reduceLT, reduceMul, reduceLeDiff, reduceCtorEq, e1, hol, hqn, hqn2, sliceDV, bq, b0, hOl, hoct, hisO, Nat.sub_zero, hq16]) | ((first | refine sC ?_ | refine sH ?_ | refine sI ?_ | refine sJ ?_); try simp only [thenK, blockK, loopK, loopG, if_true, if_false, reduceEqDiff]) | refine sD ?_ | refine sE ?_ | refine sF rfl ?_ | refine sG rfl ?_)
    exact ⟨_, _, _, Ghost.refl _ _, rfl, GhostV.refl _ _ _, rfl⟩
theorem text_ok (a b n : Int) (hn0 : 0 ≤ n) (σ : List Ob) : Ok Tryz.prog 34 [.int .u64 a, .int .u64 b, .int .i64 n] σ (.ret (.str (strOf (((txF a b 16).2.2.take (mn n 16).toNat).map fun n => UInt8.ofNat n.toNat)))) σ :=
  Ok.thaw (c := 0) (textRaw_ok a b n hn0 []) (.low ((low_str _).2 trivial)) (by simp [low_int]) σ
end Go.VL
end
