/- Proved: MetaLoads: whatever items and data come in (together of bulk at most 1048576), the call returns true and they read as they did; no other condition. This text is part 10 of 15. -/
import Derived.Test.YthobgocbfoigfaaGreatW09
section
set_option linter.unusedSimpArgs false
set_option linter.unusedVariables false
set_option maxRecDepth 10000
set_option maxHeartbeats 4000000
namespace Go.VL
open Go Go.Proofs
open Nat (reduceAdd reduceEqDiff reduceSub reduceMul reduceLeDiff)
def di31_6 : List DI := [⟨[0], [], false, [0], some 16, []⟩, ⟨[5], [], false, [0], some 17, []⟩, ⟨[16, 17], [0, 1], false, [0], some 18, [0, 1]⟩, ⟨[18], [0, 1, 2], false, [0], some 19, [2]⟩, ⟨[1], [], false, [0], some 20, []⟩, ⟨[5], [], false, [0], some 21, []⟩, ⟨[20, 21], [4, 5], false, [0], some 22, [4, 5]⟩, ⟨[22], [4, 5, 6], false, [0], some 23, [6]⟩, ⟨[19, 23], rg 0 8, false, [0], some 24, [3, 7]⟩]
def di16_6 : List DI := [⟨[0], [], false, [0], some 16, []⟩, ⟨[5], [], false, [0], some 17, []⟩, ⟨[16, 17], [0, 1], false, [0], some 18, [0, 1]⟩, ⟨[18], [0, 1, 2], false, [0], some 19, [2]⟩, ⟨[1], [], false, [0], some 20, []⟩, ⟨[5], [], false, [0], some 21, []⟩, ⟨[20, 21], [4, 5], false, [0], some 22, [4, 5]⟩, ⟨[22], [4, 5, 6], false, [0], some 23, [6]⟩, ⟨[19, 23], rg 0 8, false, [0], some 24, [3, 7]⟩]

def eB (b : UInt8) : DV := .int .u8 b.toNat
/-- A snapshot. -/
structure Sn where
  id : Int
  name : ByteArray
  size : Int
  list : List Ex
def eZ (c : Nat) (x : Sn) : DV := .agg [.int .i64 x.id, .str x.name, .int .i64 x.size, .vec c 3 (x.list.map eX)]
/-- Octets. -/
def eD (c : Nat) (x : List UInt8) : DV := .vec c 1 (x.map eB)
theorem low_eZ (n c : Nat) (x : Sn) : Low n (eZ c x) := by
  unfold eZ
  rw [low_agg]
  intro z hz
  simp only [List.mem_cons, List.not_mem_nil, or_false] at hz
  rcases hz with rfl | rfl | rfl | rfl
  · exact (low_int _ _).2 trivial
  · exact (low_str _).2 trivial
  · exact (low_int _ _).2 trivial
  · exact low_vecX _ _ _
theorem low_eD (n c : Nat) (x : List UInt8) : Low n (eD c x) := by
  unfold eD
  rw [low_vec]
  intro z hz
  obtain ⟨b, _, rfl⟩ := List.mem_map.1 hz
  exact (low_int _ _).2 trivial
def idxF {α : Type} (p : α → Bool) : List α → Nat → Int
  | [], _ => -1
  | x :: r, k => if p x then (k : Int) else idxF p r (k + 1)
theorem idxF_any {α : Type} (p : α → Bool) : ∀ (l : List α) (k : Nat), decide (idxF p l k ≥ 0) = l.any p
  | [], k => rfl
  | x :: r, k => by
    unfold idxF
    rw [List.any_cons]
    cases h : p x
    · simp only [Bool.false_eq_true, if_false, Bool.false_or]
      exact idxF_any p r (k + 1)
    · simp
theorem indexSpan_ok  (d : Nat) (xs : List Sp) (g : FuncId) (caps : List DV) (p : Sp → Bool) (σ : List Ob) (hg : ∀ x ∈ xs, Ok Tryz.prog g ([eS x] ++ caps) σ (.ret (.bool (p x))) σ) (hlc : ∀ x ∈ caps, Low σ.length x) :
    Ok Tryz.prog 65 [.vec d 2 (xs.map (eS)), .fn g caps] σ (.ret (.int .i64 (idxF p xs 0))) σ := by
  obtain ⟨X, hX⟩ : ∃ X, X = xs.map (eS) := ⟨_, rfl⟩
  have hXl : X.length = xs.length := by rw [hX, List.length_map]
  rw [← hX]
  refine Ok.of_body layOk Tryz.func65 rfl (by decide) (by simp [Tryz.ntmps65]) fun C hP hn hσ hfix hdd => ?_
  rw [show Tryz.f65.ntmps = 19 from rfl] at hn
  have hL : LayOk C.P L := hP ▸ layOk
  have hm : C.P.follows .mixedOrders = true := hP ▸ mixed
  refine SW.vlen 0 rfl fun hlen => ?_
  repeat (first | ((first | refine sA hL hn rfl ?_ | refine sB hL hn rfl ?_); simp only [go_sem, Nat.reduceBEq, Int.reduceLT, Int.reduceLE, reduceAdd, reduceEqDiff, reduceIte, reduceSub, Nat.reduceLT, reduceMul, reduceLeDiff, reduceCtorEq]) | ((first | refine sC ?_ | refine sH ?_ | refine sI ?_ | refine sJ ?_); try simp only [thenK, blockK, loopK, loopG, if_true, if_false, reduceEqDiff]) | refine sD ?_ | refine sE ?_ | refine sF rfl ?_ | refine sG rfl ?_)
  rw [hXl] at hlen
  refine SW.lpg (fun k : Nat => ⟨[(0, .vec d 2 X), (1, .fn g caps), (7, .int .i64 xs.length), (8, .int .i64 k)], σ⟩) (fun k => xs.length - k) (fun k => k ≤ xs.length ∧ idxF p (xs.drop k) k = idxF p xs 0) 0 ⟨by omega, rfl⟩ (.of rfl (by simp [agree, lk, hXl])) ?_
  intro k ⟨hk, hg2⟩
  by_cases hlt : k < xs.length
  · have e1 : decide ((k : Int) < (xs.length : Int)) = true := decide_eq_true (by omega)
    have e2 : (0 ≤ (k : Int) ∧ (k : Int) < (X.length : Int)) := by omega
    obtain ⟨x, hx⟩ : ∃ x, x = xs[k] := ⟨_, rfl⟩
    have e3 : X[k]?.getD .undef = .agg [.int .i64 x.a, .int .i64 x.l] := by rw [hX, hx]; simp [hlt, eS, eI]
    have w1 : IntKind.i64.wrap ((k : Int) + 1) = ((k + 1 : Nat) : Int) := wi (by omega) (by omega)
    rw [List.drop_eq_getElem_cons hlt, ← hx, idxF] at hg2
    repeat (first | ((first | refine sA hL hn rfl ?_ | refine sB hL hn rfl ?_); simp only [go_sem, Nat.reduceBEq, Int.reduceLT, Int.reduceLE, reduceAdd, reduceEqDiff, reduceIte, reduceSub, Nat.reduceLT, reduceMul, reduceLeDiff, reduceCtorEq, e1, e2, e3]) | ((first | refine sC ?_ | refine sH ?_ | refine sI ?_ | refine sJ ?_); try simp only [thenK, blockK, loopK, loopG, if_true, if_false, reduceEqDiff]) | refine sD ?_ | refine sE ?_ | refine sF rfl ?_ | refine sG rfl ?_)
    have hc := hg x (by rw [hx]; exact List.getElem_mem _)
    cases hp : p x
    · rw [hp] at hg2 hc
      simp only [Bool.false_eq_true, if_false] at hg2
      refine sK hP hL hn rfl rfl (hc) rfl rfl rfl rfl ?_; simp (maxSteps := 2000000) only [go_sem, Nat.reduceBEq, Int.reduceLT, Int.reduceLE, reduceAdd, reduceEqDiff, reduceIte, reduceSub, Nat.reduceLT, reduceMul, reduceLeDiff, reduceCtorEq]
      repeat (first | ((first | refine sA hL hn rfl ?_ | refine sB hL hn rfl ?_); simp only [go_sem, Nat.reduceBEq, Int.reduceLT, Int.reduceLE, reduceAdd, reduceEqDiff, reduceIte, reduceSub, Nat.reduceLT, reduceMul, reduceLeDiff, reduceCtorEq, w1]) | ((first | refine sC ?_ | refine sH ?_ | refine sI ?_ | refine sJ ?_); try simp only [thenK, blockK, loopK, loopG, if_true, if_false, reduceEqDiff]) | refine sD ?_ | refine sE ?_ | refine sF rfl ?_ | refine sG rfl ?_)
      exact Lp.nextg (k + 1) ⟨by omega, hg2⟩ (by omega) (.of rfl (by simp [agree, lk]))
    · rw [hp] at hg2 hc
      simp only [if_true] at hg2
      rw [← hg2]
      refine sK hP hL hn rfl rfl (hc) rfl rfl rfl rfl ?_; simp (maxSteps := 2000000) only [go_sem, Nat.reduceBEq, Int.reduceLT, Int.reduceLE, reduceAdd, reduceEqDiff, reduceIte, reduceSub, Nat.reduceLT, reduceMul, reduceLeDiff, reduceCtorEq]
      repeat (first | ((first | refine sA hL hn rfl ?_ | refine sB hL hn rfl ?_); simp only [go_sem, Nat.reduceBEq, Int.reduceLT, Int.reduceLE, reduceAdd, reduceEqDiff, reduceIte, reduceSub, Nat.reduceLT, reduceMul, reduceLeDiff, reduceCtorEq]) | ((first | refine sC ?_ | refine sH ?_ | refine sI ?_ | refine sJ ?_); try simp only [thenK, blockK, loopK, loopG, if_true, if_false, reduceEqDiff]) | refine sD ?_ | refine sE ?_ | refine sF rfl ?_ | refine sG rfl ?_)
      exact ⟨_, _, _, Ghost.refl _ _, rfl, GhostV.refl _ _ _, rfl⟩
  · have e1 : decide ((k : Int) < (xs.length : Int)) = false := decide_eq_false (by omega)
    rw [List.drop_eq_nil_of_le (by omega)] at hg2
    rw [← hg2]
    repeat (first | ((first | refine sA hL hn rfl ?_ | refine sB hL hn rfl ?_); simp only [go_sem, Nat.reduceBEq, Int.reduceLT, Int.reduceLE, reduceAdd, reduceEqDiff, reduceIte, reduceSub, Nat.reduceLT, reduceMul, reduceLeDiff, reduceCtorEq, e1]) | ((first | refine sC ?_ | refine sH ?_ | refine sI ?_ | refine sJ ?_); try simp only [thenK, blockK, loopK, loopG, if_true, if_false, reduceEqDiff]) | refine sD ?_ | refine sE ?_ | refine sF rfl ?_ | refine sG rfl ?_)
    exact ⟨_, _, _, Ghost.refl _ _, rfl, GhostV.refl _ _ _, rfl⟩
theorem containsSpan_ok  (d : Nat) (xs : List Sp) (g : FuncId) (caps : List DV) (p : Sp → Bool) (σ : List Ob) (hg : ∀ x ∈ xs, Ok Tryz.prog g ([eS x] ++ caps) σ (.ret (.bool (p x))) σ) (hlc : ∀ x ∈ caps, Low σ.length x) :
    Ok Tryz.prog 49 [.vec d 2 (xs.map (eS)), .fn g caps] σ (.ret (.bool (xs.any p))) σ := by
  rw [← idxF_any p xs 0]
  refine Ok.of_body layOk Tryz.func49 rfl (by decide) (by simp [Tryz.ntmps49]) fun C hP hn hσ hfix hdd => ?_
  rw [show Tryz.f49.ntmps = 9 from rfl] at hn
  have hL : LayOk C.P L := hP ▸ layOk
  have hm : C.P.follows .mixedOrders = true := hP ▸ mixed
  repeat (first | ((first | refine sA hL hn rfl ?_ | refine sB hL hn rfl ?_); simp only [go_sem, Nat.reduceBEq, Int.reduceLT, Int.reduceLE, reduceAdd, reduceEqDiff, reduceIte, reduceSub, Nat.reduceLT, reduceMul, reduceLeDiff, reduceCtorEq]) | ((first | refine sC ?_ | refine sH ?_ | refine sI ?_ | refine sJ ?_); try simp only [thenK, blockK, loopK, loopG, if_true, if_false, reduceEqDiff]) | refine sD ?_ | refine sE ?_ | refine sF rfl ?_ | refine sG rfl ?_)
  refine sK hP hL hn rfl rfl (indexSpan_ok  d xs g caps p _ hg hlc) rfl rfl rfl rfl ?_; simp (maxSteps := 2000000) only [go_sem, Nat.reduceBEq, Int.reduceLT, Int.reduceLE, reduceAdd, reduceEqDiff, reduceIte, reduceSub, Nat.reduceLT, reduceMul, reduceLeDiff, reduceCtorEq]
  repeat (first | ((first | refine sA hL hn rfl ?_ | refine sB hL hn rfl ?_); simp only [go_sem, Nat.reduceBEq, Int.reduceLT, Int.reduceLE, reduceAdd, reduceEqDiff, reduceIte, reduceSub, Nat.reduceLT, reduceMul, reduceLeDiff, reduceCtorEq]) | ((first | refine sC ?_ | refine sH ?_ | refine sI ?_ | refine sJ ?_); try simp only [thenK, blockK, loopK, loopG, if_true, if_false, reduceEqDiff]) | refine sD ?_ | refine sE ?_ | refine sF rfl ?_ | refine sG rfl ?_)
  exact ⟨_, _, _, Ghost.refl _ _, rfl, GhostV.refl _ _ _, rfl⟩
theorem indexSnap_ok (c : Nat) (d : Nat) (xs : List Sn) (g : FuncId) (caps : List DV) (p : Sn → Bool) (σ : List Ob) (hg : ∀ x ∈ xs, Ok Tryz.prog g ([eZ c x] ++ caps) σ (.ret (.bool (p x))) σ) (hlc : ∀ x ∈ caps, Low σ.length x) :
    Ok Tryz.prog 46 [.vec d 4 (xs.map (eZ c)), .fn g caps] σ (.ret (.int .i64 (idxF p xs 0))) σ := by
  obtain ⟨X, hX⟩ : ∃ X, X = xs.map (eZ c) := ⟨_, rfl⟩
  have hXl : X.length = xs.length := by rw [hX, List.length_map]
  rw [← hX]
  refine Ok.of_body layOk Tryz.func46 rfl (by decide) (by simp [Tryz.ntmps46]) fun C hP hn hσ hfix hdd => ?_
  rw [show Tryz.f46.ntmps = 19 from rfl] at hn
  have hL : LayOk C.P L := hP ▸ layOk
  have hm : C.P.follows .mixedOrders = true := hP ▸ mixed
  refine SW.vlen 0 rfl fun hlen => ?_
  repeat (first | ((first | refine sA hL hn rfl ?_ | refine sB hL hn rfl ?_); simp only [go_sem, Nat.reduceBEq, Int.reduceLT, Int.reduceLE, reduceAdd, reduceEqDiff, reduceIte, reduceSub, Nat.reduceLT, reduceMul, reduceLeDiff, reduceCtorEq]) | ((first | refine sC ?_ | refine sH ?_ | refine sI ?_ | refine sJ ?_); try simp only [thenK, blockK, loopK, loopG, if_true, if_false, reduceEqDiff]) | refine sD ?_ | refine sE ?_ | refine sF rfl ?_ | refine sG rfl ?_)
  rw [hXl] at hlen
  refine SW.lpg (fun k : Nat => ⟨[(0, .vec d 4 X), (1, .fn g caps), (7, .int .i64 xs.length), (8, .int .i64 k)], σ⟩) (fun k => xs.length - k) (fun k => k ≤ xs.length ∧ idxF p (xs.drop k) k = idxF p xs 0) 0 ⟨by omega, rfl⟩ (.of rfl (by simp [agree, lk, hXl])) ?_
  intro k ⟨hk, hg2⟩
  by_cases hlt : k < xs.length
  · have e1 : decide ((k : Int) < (xs.length : Int)) = true := decide_eq_true (by omega)
    have e2 : (0 ≤ (k : Int) ∧ (k : Int) < (X.length : Int)) := by omega
    obtain ⟨x, hx⟩ : ∃ x, x = xs[k] := ⟨_, rfl⟩
    have e3 : X[k]?.getD .undef = .agg [.int .i64 x.id, .str x.name, .int .i64 x.size, .vec c 3 (x.list.map eX)] := by rw [hX, hx]; simp [hlt, eZ]
    have w1 : IntKind.i64.wrap ((k : Int) + 1) = ((k + 1 : Nat) : Int) := wi (by omega) (by omega)
    rw [List.drop_eq_getElem_cons hlt, ← hx, idxF] at hg2
    repeat (first | ((first | refine sA hL hn rfl ?_ | refine sB hL hn rfl ?_); simp only [go_sem, Nat.reduceBEq, Int.reduceLT, Int.reduceLE, reduceAdd, reduceEqDiff, reduceIte, reduceSub, Nat.reduceLT, reduceMul, reduceLeDiff, reduceCtorEq, e1, e2, e3]) | ((first | refine sC ?_ | refine sH ?_ | refine sI ?_ | refine sJ ?_); try simp only [thenK, blockK, loopK, loopG, if_true, if_false, reduceEqDiff]) | refine sD ?_ | refine sE ?_ | refine sF rfl ?_ | refine sG rfl ?_)
    have hc := hg x (by rw [hx]; exact List.getElem_mem _)
    cases hp : p x
    · rw [hp] at hg2 hc
      simp only [Bool.false_eq_true, if_false] at hg2
      refine sK hP hL hn rfl rfl (hc) rfl rfl rfl rfl ?_; simp (maxSteps := 2000000) only [go_sem, Nat.reduceBEq, Int.reduceLT, Int.reduceLE, reduceAdd, reduceEqDiff, reduceIte, reduceSub, Nat.reduceLT, reduceMul, reduceLeDiff, reduceCtorEq]
      repeat (first | ((first | refine sA hL hn rfl ?_ | refine sB hL hn rfl ?_); simp only [go_sem, Nat.reduceBEq, Int.reduceLT, Int.reduceLE, reduceAdd, reduceEqDiff, reduceIte, reduceSub, Nat.reduceLT, reduceMul, reduceLeDiff, reduceCtorEq, w1]) | ((first | refine sC ?_ | refine sH ?_ | refine sI ?_ | refine sJ ?_); try simp only [thenK, blockK, loopK, loopG, if_true, if_false, reduceEqDiff]) | refine sD ?_ | refine sE ?_ | refine sF rfl ?_ | refine sG rfl ?_)
      exact Lp.nextg (k + 1) ⟨by omega, hg2⟩ (by omega) (.of rfl (by simp [agree, lk]))
    · rw [hp] at hg2 hc
      simp only [if_true] at hg2
      rw [← hg2]
      refine sK hP hL hn rfl rfl (hc) rfl rfl rfl rfl ?_; simp (maxSteps := 2000000) only [go_sem, Nat.reduceBEq, Int.reduceLT, Int.reduceLE, reduceAdd, reduceEqDiff, reduceIte, reduceSub, Nat.reduceLT, reduceMul, reduceLeDiff, reduceCtorEq]
      repeat (first | ((first | refine sA hL hn rfl ?_ | refine sB hL hn rfl ?_); simp only [go_sem, Nat.reduceBEq, Int.reduceLT, Int.reduceLE, reduceAdd, reduceEqDiff, reduceIte, reduceSub, Nat.reduceLT, reduceMul, reduceLeDiff, reduceCtorEq]) | ((first | refine sC ?_ | refine sH ?_ | refine sI ?_ | refine sJ ?_); try simp only [thenK, blockK, loopK, loopG, if_true, if_false, reduceEqDiff]) | refine sD ?_ | refine sE ?_ | refine sF rfl ?_ | refine sG rfl ?_)
      exact ⟨_, _, _, Ghost.refl _ _, rfl, GhostV.refl _ _ _, rfl⟩
  · have e1 : decide ((k : Int) < (xs.length : Int)) = false := decide_eq_false (by omega)
    rw [List.drop_eq_nil_of_le (by omega)] at hg2
    rw [← hg2]
    repeat (first | ((first | refine sA hL hn rfl ?_ | refine sB hL hn rfl ?_); simp only [go_sem, Nat.reduceBEq, Int.reduceLT, Int.reduceLE, reduceAdd, reduceEqDiff, reduceIte, reduceSub, Nat.reduceLT, reduceMul, reduceLeDiff, reduceCtorEq, e1]) | ((first | refine sC ?_ | refine sH ?_ | refine sI ?_ | refine sJ ?_); try simp only [thenK, blockK, loopK, loopG, if_true, if_false, reduceEqDiff]) | refine sD ?_ | refine sE ?_ | refine sF rfl ?_ | refine sG rfl ?_)
    exact ⟨_, _, _, Ghost.refl _ _, rfl, GhostV.refl _ _ _, rfl⟩
theorem containsSnap_ok (c : Nat) (d : Nat) (xs : List Sn) (g : FuncId) (caps : List DV) (p : Sn → Bool) (σ : List Ob) (hg : ∀ x ∈ xs, Ok Tryz.prog g ([eZ c x] ++ caps) σ (.ret (.bool (p x))) σ) (hlc : ∀ x ∈ caps, Low σ.length x) :
    Ok Tryz.prog 25 [.vec d 4 (xs.map (eZ c)), .fn g caps] σ (.ret (.bool (xs.any p))) σ := by
  rw [← idxF_any p xs 0]
  refine Ok.of_body layOk Tryz.func25 rfl (by decide) (by simp [Tryz.ntmps25]) fun C hP hn hσ hfix hdd => ?_
  rw [show Tryz.f25.ntmps = 9 from rfl] at hn
  have hL : LayOk C.P L := hP ▸ layOk
  have hm : C.P.follows .mixedOrders = true := hP ▸ mixed
  repeat (first | ((first | refine sA hL hn rfl ?_ | refine sB hL hn rfl ?_); simp only [go_sem, Nat.reduceBEq, Int.reduceLT, Int.reduceLE, reduceAdd, reduceEqDiff, reduceIte, reduceSub, Nat.reduceLT, reduceMul, reduceLeDiff, reduceCtorEq]) | ((first | refine sC ?_ | refine sH ?_ | refine sI ?_ | refine sJ ?_); try simp only [thenK, blockK, loopK, loopG, if_true, if_false, reduceEqDiff]) | refine sD ?_ | refine sE ?_ | refine sF rfl ?_ | refine sG rfl ?_)
  refine sK hP hL hn rfl rfl (indexSnap_ok c d xs g caps p _ hg hlc) rfl rfl rfl rfl ?_; simp (maxSteps := 2000000) only [go_sem, Nat.reduceBEq, Int.reduceLT, Int.reduceLE, reduceAdd, reduceEqDiff, reduceIte, reduceSub, Nat.reduceLT, reduceMul, reduceLeDiff, reduceCtorEq]
  repeat (first | ((first | refine sA hL hn rfl ?_ | refine sB hL hn rfl ?_); simp only [go_sem, Nat.reduceBEq, Int.reduceLT, Int.reduceLE, reduceAdd, reduceEqDiff, reduceIte, reduceSub, Nat.reduceLT, reduceMul, reduceLeDiff, reduceCtorEq]) | ((first | refine sC ?_ | refine sH ?_ | refine sI ?_ | refine sJ ?_); try simp only [thenK, blockK, loopK, loopG, if_true, if_false, reduceEqDiff]) | refine sD ?_ | refine sE ?_ | refine sF rfl ?_ | refine sG rfl ?_)
  exact ⟨_, _, _, Ghost.refl _ _, rfl, GhostV.refl _ _ _, rfl⟩
theorem indexData_ok (c : Nat) (d : Nat) (xs : List (List UInt8)) (g : FuncId) (caps : List DV) (p : (List UInt8) → Bool) (σ : List Ob) (hg : ∀ x ∈ xs, Ok Tryz.prog g ([eD c x] ++ caps) σ (.ret (.bool (p x))) σ) (hlc : ∀ x ∈ caps, Low σ.length x) :
    Ok Tryz.prog 47 [.vec d 1 (xs.map (eD c)), .fn g caps] σ (.ret (.int .i64 (idxF p xs 0))) σ := by
  obtain ⟨X, hX⟩ : ∃ X, X = xs.map (eD c) := ⟨_, rfl⟩
  have hXl : X.length = xs.length := by rw [hX, List.length_map]
  rw [← hX]
  refine Ok.of_body layOk Tryz.func47 rfl (by decide) (by simp [Tryz.ntmps47]) fun C hP hn hσ hfix hdd => ?_
  rw [show Tryz.f47.ntmps = 19 from rfl] at hn
  have hL : LayOk C.P L := hP ▸ layOk
  have hm : C.P.follows .mixedOrders = true := hP ▸ mixed
  refine SW.vlen 0 rfl fun hlen => ?_
  repeat (first | ((first | refine sA hL hn rfl ?_ | refine sB hL hn rfl ?_); simp only [go_sem, Nat.reduceBEq, Int.reduceLT, Int.reduceLE, reduceAdd, reduceEqDiff, reduceIte, reduceSub, Nat.reduceLT, reduceMul, reduceLeDiff, reduceCtorEq]) | ((first | refine sC ?_ | refine sH ?_ | refine sI ?_ | refine sJ ?_); try simp only [thenK, blockK, loopK, loopG, if_true, if_false, reduceEqDiff]) | refine sD ?_ | refine sE ?_ | refine sF rfl ?_ | refine sG rfl ?_)
  rw [hXl] at hlen
  refine SW.lpg (fun k : Nat => ⟨[(0, .vec d 1 X), (1, .fn g caps), (7, .int .i64 xs.length), (8, .int .i64 k)], σ⟩) (fun k => xs.length - k) (fun k => k ≤ xs.length ∧ idxF p (xs.drop k) k = idxF p xs 0) 0 ⟨by omega, rfl⟩ (.of rfl (by simp [agree, lk, hXl])) ?_
  intro k ⟨hk, hg2⟩
  by_cases hlt : k < xs.length
  · have e1 : decide ((k : Int) < (xs.length : Int)) = true := decide_eq_true (by omega)
    have e2 : (0 ≤ (k : Int) ∧ (k : Int) < (X.length : Int)) := by omega
    obtain ⟨x, hx⟩ : ∃ x, x = xs[k] := ⟨_, rfl⟩
    have e3 : X[k]?.getD .undef = .vec c 1 (x.map eB) := by rw [hX, hx]; simp [hlt, eD]
    have w1 : IntKind.i64.wrap ((k : Int) + 1) = ((k + 1 : Nat) : Int) := wi (by omega) (by omega)
    rw [List.drop_eq_getElem_cons hlt, ← hx, idxF] at hg2
    repeat (first | ((first | refine sA hL hn rfl ?_ | refine sB hL hn rfl ?_); simp only [go_sem, Nat.reduceBEq, Int.reduceLT, Int.reduceLE, reduceAdd, reduceEqDiff, reduceIte, reduceSub, Nat.reduceLT, reduceMul, reduceLeDiff, reduceCtorEq, e1, e2, e3]) | ((first | refine sC ?_ | refine sH ?_ | refine sI ?_ | refine sJ ?_); try simp only [thenK, blockK, loopK, loopG, if_true, if_false, reduceEqDiff]) | refine sD ?_ | refine sE ?_ | refine sF rfl ?_ | refine sG rfl ?_)
    have hc := hg x (by rw [hx]; exact List.getElem_mem _)
    cases hp : p x
    · rw [hp] at hg2 hc
      simp only [Bool.false_eq_true, if_false] at hg2
      refine sK hP hL hn rfl rfl (hc) rfl rfl rfl rfl ?_; simp (maxSteps := 2000000) only [go_sem, Nat.reduceBEq, Int.reduceLT, Int.reduceLE, reduceAdd, reduceEqDiff, reduceIte, reduceSub, Nat.reduceLT, reduceMul, reduceLeDiff, reduceCtorEq]
      repeat (first | ((first | refine sA hL hn rfl ?_ | refine sB hL hn rfl ?_); simp only [go_sem, Nat.reduceBEq, Int.reduceLT, Int.reduceLE, reduceAdd, reduceEqDiff, reduceIte, reduceSub, Nat.reduceLT, reduceMul, reduceLeDiff, reduceCtorEq, w1]) | ((first | refine sC ?_ | refine sH ?_ | refine sI ?_ | refine sJ ?_); try simp only [thenK, blockK, loopK, loopG, if_true, if_false, reduceEqDiff]) | refine sD ?_ | refine sE ?_ | refine sF rfl ?_ | refine sG rfl ?_)
      exact Lp.nextg (k + 1) ⟨by omega, hg2⟩ (by omega) (.of rfl (by simp [agree, lk]))
    · rw [hp] at hg2 hc
      simp only [if_true] at hg2
      rw [← hg2]
      refine sK hP hL hn rfl rfl (hc) rfl rfl rfl rfl ?_; simp (maxSteps := 2000000) only [go_sem, Nat.reduceBEq, Int.reduceLT, Int.reduceLE, reduceAdd, reduceEqDiff, reduceIte, reduceSub, Nat.reduceLT, reduceMul, reduceLeDiff, reduceCtorEq]
      repeat (first | ((first | refine sA hL hn rfl ?_ | refine sB hL hn rfl ?_); simp only [go_sem, Nat.reduceBEq, Int.reduceLT, Int.reduceLE, reduceAdd, reduceEqDiff, reduceIte, reduceSub, Nat.reduceLT, reduceMul, reduceLeDiff, reduceCtorEq]) | ((first | refine sC ?_ | refine sH ?_ | refine sI ?_ | refine sJ ?_); try simp only [thenK, blockK, loopK, loopG, if_true, if_false, reduceEqDiff]) | refine sD ?_ | refine sE ?_ | refine sF rfl ?_ | refine sG rfl ?_)
      exact ⟨_, _, _, Ghost.refl _ _, rfl, GhostV.refl _ _ _, rfl⟩
  · have e1 : decide ((k : Int) < (xs.length : Int)) = false := decide_eq_false (by omega)
    rw [List.drop_eq_nil_of_le (by omega)] at hg2
    rw [← hg2]
    repeat (first | ((first | refine sA hL hn rfl ?_ | refine sB hL hn rfl ?_); simp only [go_sem, Nat.reduceBEq, Int.reduceLT, Int.reduceLE, reduceAdd, reduceEqDiff, reduceIte, reduceSub, Nat.reduceLT, reduceMul, reduceLeDiff, reduceCtorEq, e1]) | ((first | refine sC ?_ | refine sH ?_ | refine sI ?_ | refine sJ ?_); try simp only [thenK, blockK, loopK, loopG, if_true, if_false, reduceEqDiff]) | refine sD ?_ | refine sE ?_ | refine sF rfl ?_ | refine sG rfl ?_)
    exact ⟨_, _, _, Ghost.refl _ _, rfl, GhostV.refl _ _ _, rfl⟩
theorem containsData_ok (c : Nat) (d : Nat) (xs : List (List UInt8)) (g : FuncId) (caps : List DV) (p : (List UInt8) → Bool) (σ : List Ob) (hg : ∀ x ∈ xs, Ok Tryz.prog g ([eD c x] ++ caps) σ (.ret (.bool (p x))) σ) (hlc : ∀ x ∈ caps, Low σ.length x) :
    Ok Tryz.prog 27 [.vec d 1 (xs.map (eD c)), .fn g caps] σ (.ret (.bool (xs.any p))) σ := by
  rw [← idxF_any p xs 0]
  refine Ok.of_body layOk Tryz.func27 rfl (by decide) (by simp [Tryz.ntmps27]) fun C hP hn hσ hfix hdd => ?_
  rw [show Tryz.f27.ntmps = 9 from rfl] at hn
  have hL : LayOk C.P L := hP ▸ layOk
  have hm : C.P.follows .mixedOrders = true := hP ▸ mixed
  repeat (first | ((first | refine sA hL hn rfl ?_ | refine sB hL hn rfl ?_); simp only [go_sem, Nat.reduceBEq, Int.reduceLT, Int.reduceLE, reduceAdd, reduceEqDiff, reduceIte, reduceSub, Nat.reduceLT, reduceMul, reduceLeDiff, reduceCtorEq]) | ((first | refine sC ?_ | refine sH ?_ | refine sI ?_ | refine sJ ?_); try simp only [thenK, blockK, loopK, loopG, if_true, if_false, reduceEqDiff]) | refine sD ?_ | refine sE ?_ | refine sF rfl ?_ | refine sG rfl ?_)
  refine sK hP hL hn rfl rfl (indexData_ok c d xs g caps p _ hg hlc) rfl rfl rfl rfl ?_; simp (maxSteps := 2000000) only [go_sem, Nat.reduceBEq, Int.reduceLT, Int.reduceLE, reduceAdd, reduceEqDiff, reduceIte, reduceSub, Nat.reduceLT, reduceMul, reduceLeDiff, reduceCtorEq]
  repeat (first | ((first | refine sA hL hn rfl ?_ | refine sB hL hn rfl ?_); simp only [go_sem, Nat.reduceBEq, Int.reduceLT, Int.reduceLE, reduceAdd, reduceEqDiff, reduceIte, reduceSub, Nat.reduceLT, reduceMul, reduceLeDiff, reduceCtorEq]) | ((first | refine sC ?_ | refine sH ?_ | refine sI ?_ | refine sJ ?_); try simp only [thenK, blockK, loopK, loopG, if_true, if_false, reduceEqDiff]) | refine sD ?_ | refine sE ?_ | refine sF rfl ?_ | refine sG rfl ?_)
  exact ⟨_, _, _, Ghost.refl _ _, rfl, GhostV.refl _ _ _, rfl⟩
theorem equalSpan_ok (c d : Nat) (xs ys : List Sp) (σ : List Ob) : Ok Tryz.prog 31 [.vec c 2 (xs.map eS), .vec d 2 (ys.map eS)] σ (.ret (.bool (decide (xs = ys)))) σ := by
  obtain ⟨X, hX⟩ : ∃ X, X = xs.map (eS) := ⟨_, rfl⟩
  have hXl : X.length = xs.length := by rw [hX, List.length_map]
  obtain ⟨Y, hY⟩ : ∃ Y, Y = ys.map (eS) := ⟨_, rfl⟩
  have hYl : Y.length = ys.length := by rw [hY, List.length_map]
  rw [← hX, ← hY]
  refine Ok.of_body layOk Tryz.func31 rfl (by decide) (by simp [Tryz.ntmps31]) fun C hP hn hσ hfix hdd => ?_
  rw [show Tryz.f31.ntmps = 26 from rfl] at hn
  have hL : LayOk C.P L := hP ▸ layOk
  have hm : C.P.follows .mixedOrders = true := hP ▸ mixed
  refine SW.vlen 0 rfl fun hlen => ?_
  rw [hXl] at hlen
  by_cases hne : xs.length = ys.length
  · have d0 : ((X.length : Int) != (Y.length : Int)) = false := by rw [hXl, hYl, hne]; simp
    repeat (first | ((first | refine sA hL hn rfl ?_ | refine sB hL hn rfl ?_); simp only [go_sem, Nat.reduceBEq, Int.reduceLT, Int.reduceLE, reduceAdd, reduceEqDiff, reduceIte, reduceSub, Nat.reduceLT, reduceMul, reduceLeDiff, reduceCtorEq, d0]) | ((first | refine sC ?_ | refine sH ?_ | refine sI ?_ | refine sJ ?_); try simp only [thenK, blockK, loopK, loopG, if_true, if_false, reduceEqDiff]) | refine sD ?_ | refine sE ?_ | refine sF rfl ?_ | refine sG rfl ?_)
    refine SW.lpg (fun k : Nat => ⟨[(0, .vec c 2 X), (1, .vec d 2 Y), (12, .int .i64 xs.length), (13, .int .i64 k)], σ⟩) (fun k => xs.length - k) (fun k => k ≤ xs.length ∧ ∀ j, j < k → xs[j]? = ys[j]?) 0 ⟨by omega, fun j hj => absurd hj (by omega)⟩ (.of rfl (by simp [agree, lk, hXl])) ?_
    intro k ⟨hk, hg2⟩
    by_cases hlt : k < xs.length
    · have e1 : decide ((k : Int) < (xs.length : Int)) = true := decide_eq_true (by omega)
      have e2 : (0 ≤ (k : Int) ∧ (k : Int) < (X.length : Int)) := by omega
      have e2' : (0 ≤ (k : Int) ∧ (k : Int) < (Y.length : Int)) := by omega
      obtain ⟨x, hx⟩ : ∃ x, x = xs[k] := ⟨_, rfl⟩
      obtain ⟨y, hy⟩ : ∃ y, y = ys[k]'(by omega) := ⟨_, rfl⟩
      have e3 : X[k]?.getD .undef = .agg [.int .i64 x.a, .int .i64 x.l] := by rw [hX, hx]; simp [hlt, eS, eI]
      have e3' : Y[k]?.getD .undef = .agg [.int .i64 y.a, .int .i64 y.l] := by rw [hY, hy]; simp [show k < ys.length by omega, eS, eI]
      have hxk : xs[k]? = some x := by rw [hx]; exact List.getElem?_eq_getElem hlt
      have hyk : ys[k]? = some y := by rw [hy]; exact List.getElem?_eq_getElem _
      have w1 : IntKind.i64.wrap ((k : Int) + 1) = ((k + 1 : Nat) : Int) := wi (by omega) (by omega)
      repeat (first | ((first | refine sA hL hn rfl ?_ | refine sB hL hn rfl ?_); simp only [go_sem, Nat.reduceBEq, Int.reduceLT, Int.reduceLE, reduceAdd, reduceEqDiff, reduceIte, reduceSub, Nat.reduceLT, reduceMul, reduceLeDiff, reduceCtorEq, e1]) | ((first | refine sC ?_ | refine sH ?_ | refine sI ?_ | refine sJ ?_); try simp only [thenK, blockK, loopK, loopG, if_true, if_false, reduceEqDiff]) | refine sD ?_ | refine sE ?_ | refine sF rfl ?_ | refine sG rfl ?_)
      refine sM hL hm hn di31_6 [σ] rfl rfl rfl ?_
      unfold di31_6
      cases h1 : (x.a == y.a)
      · have hd : decide (xs = ys) = false := decide_eq_false fun e => by
          rw [e, hyk] at hxk; cases hxk; simp at h1
        rw [hd]
        repeat (rw [dgo_cons]; simp (maxSteps := 2000000) only [go_sem, Nat.reduceBEq, Int.reduceLT, Int.reduceLE, reduceAdd, reduceEqDiff, reduceIte, reduceSub, Nat.reduceLT, reduceMul, reduceLeDiff, reduceCtorEq, e2, e2', e3, e3', h1])
        try rw [dgo_nil]
        try simp only [go_sem, Nat.reduceBEq, Int.reduceLT, Int.reduceLE, reduceAdd, reduceEqDiff, reduceIte, reduceSub, Nat.reduceLT, reduceMul, reduceLeDiff, reduceCtorEq, e2, e2', e3, e3', h1]
        repeat (first | ((first | refine sA hL hn rfl ?_ | refine sB hL hn rfl ?_); simp only [go_sem, Nat.reduceBEq, Int.reduceLT, Int.reduceLE, reduceAdd, reduceEqDiff, reduceIte, reduceSub, Nat.reduceLT, reduceMul, reduceLeDiff, reduceCtorEq]) | ((first | refine sC ?_ | refine sH ?_ | refine sI ?_ | refine sJ ?_); try simp only [thenK, blockK, loopK, loopG, if_true, if_false, reduceEqDiff]) | refine sD ?_ | refine sE ?_ | refine sF rfl ?_ | refine sG rfl ?_)
        exact ⟨_, _, _, Ghost.refl _ _, rfl, GhostV.refl _ _ _, rfl⟩
      cases h2 : (x.l == y.l)
      · have hd : decide (xs = ys) = false := decide_eq_false fun e => by
          rw [e, hyk] at hxk; cases hxk; simp at h2
        rw [hd]
        repeat (rw [dgo_cons]; simp (maxSteps := 2000000) only [go_sem, Nat.reduceBEq, Int.reduceLT, Int.reduceLE, reduceAdd, reduceEqDiff, reduceIte, reduceSub, Nat.reduceLT, reduceMul, reduceLeDiff, reduceCtorEq, e2, e2', e3, e3', h1, h2])
        try rw [dgo_nil]
        try simp only [go_sem, Nat.reduceBEq, Int.reduceLT, Int.reduceLE, reduceAdd, reduceEqDiff, reduceIte, reduceSub, Nat.reduceLT, reduceMul, reduceLeDiff, reduceCtorEq, e2, e2', e3, e3', h1, h2]
        repeat (first | ((first | refine sA hL hn rfl ?_ | refine sB hL hn rfl ?_); simp only [go_sem, Nat.reduceBEq, Int.reduceLT, Int.reduceLE, reduceAdd, reduceEqDiff, reduceIte, reduceSub, Nat.reduceLT, reduceMul, reduceLeDiff, reduceCtorEq]) | ((first | refine sC ?_ | refine sH ?_ | refine sI ?_ | refine sJ ?_); try simp only [thenK, blockK, loopK, loopG, if_true, if_false, reduceEqDiff]) | refine sD ?_ | refine sE ?_ | refine sF rfl ?_ | refine sG rfl ?_)
        exact ⟨_, _, _, Ghost.refl _ _, rfl, GhostV.refl _ _ _, rfl⟩
      · have hxy : x = y := by
          cases x; cases y
          simp only [beq_iff_eq] at h1 h2
          simp [h1, h2]
        repeat (rw [dgo_cons]; simp (maxSteps := 2000000) only [go_sem, Nat.reduceBEq, Int.reduceLT, Int.reduceLE, reduceAdd, reduceEqDiff, reduceIte, reduceSub, Nat.reduceLT, reduceMul, reduceLeDiff, reduceCtorEq, e2, e2', e3, e3', h1, h2])
        try rw [dgo_nil]
        try simp only [go_sem, Nat.reduceBEq, Int.reduceLT, Int.reduceLE, reduceAdd, reduceEqDiff, reduceIte, reduceSub, Nat.reduceLT, reduceMul, reduceLeDiff, reduceCtorEq, e2, e2', e3, e3', h1, h2]
        repeat (first | ((first | refine sA hL hn rfl ?_ | refine sB hL hn rfl ?_); simp only [go_sem, Nat.reduceBEq, Int.reduceLT, Int.reduceLE, reduceAdd, reduceEqDiff, reduceIte, reduceSub, Nat.reduceLT, reduceMul, reduceLeDiff, reduceCtorEq, w1]) | ((first | refine sC ?_ | refine sH ?_ | refine sI ?_ | refine sJ ?_); try simp only [thenK, blockK, loopK, loopG, if_true, if_false, reduceEqDiff]) | refine sD ?_ | refine sE ?_ | refine sF rfl ?_ | refine sG rfl ?_)
        refine Lp.nextg (k + 1) ⟨by omega, fun j hj => ?_⟩ (by omega) (.of rfl (by simp [agree, lk]))
        by_cases hjk : j = k
        · subst hjk
          rw [hxk, hyk, hxy]
        · exact hg2 j (by omega)
    · have e1 : decide ((k : Int) < (xs.length : Int)) = false := decide_eq_false (by omega)
      have hd : decide (xs = ys) = true := decide_eq_true (List.ext_getElem? fun j => by
        rcases Nat.lt_or_ge j k with h | h
        · exact hg2 j h
        · rw [List.getElem?_eq_none (by omega), List.getElem?_eq_none (by omega)])
      rw [hd]
      repeat (first | ((first | refine sA hL hn rfl ?_ | refine sB hL hn rfl ?_); simp only [go_sem, Nat.reduceBEq, Int.reduceLT, Int.reduceLE, reduceAdd, reduceEqDiff, reduceIte, reduceSub, Nat.reduceLT, reduceMul, reduceLeDiff, reduceCtorEq, e1]) | ((first | refine sC ?_ | refine sH ?_ | refine sI ?_ | refine sJ ?_); try simp only [thenK, blockK, loopK, loopG, if_true, if_false, reduceEqDiff]) | refine sD ?_ | refine sE ?_ | refine sF rfl ?_ | refine sG rfl ?_)
      exact ⟨_, _, _, Ghost.refl _ _, rfl, GhostV.refl _ _ _, rfl⟩
  · have d0 : ((X.length : Int) != (Y.length : Int)) = true := by rw [hXl, hYl]; simp; omega
    have hd : decide (xs = ys) = false := decide_eq_false fun e => hne (congrArg _ e)
    rw [hd]
    repeat (first | ((first | refine sA hL hn rfl ?_ | refine sB hL hn rfl ?_); simp only [go_sem, Nat.reduceBEq, Int.reduceLT, Int.reduceLE, reduceAdd, reduceEqDiff, reduceIte, reduceSub, Nat.reduceLT, reduceMul, reduceLeDiff, reduceCtorEq, d0]) | ((first | refine sC ?_ | refine sH ?_ | refine sI ?_ | refine sJ ?_); try simp only [thenK, blockK, loopK, loopG, if_true, if_false, reduceEqDiff]) | refine sD ?_ | refine sE ?_ | refine sF rfl ?_ | refine sG rfl ?_)
    exact ⟨_, _, _, Ghost.refl _ _, rfl, GhostV.refl _ _ _, rfl⟩
theorem equalItem_ok (c d : Nat) (xs ys : List It) (σ : List Ob) : Ok Tryz.prog 16 [.vec c 2 (xs.map eT), .vec d 2 (ys.map eT)] σ (.ret (.bool (decide (xs = ys)))) σ := by
  obtain ⟨X, hX⟩ : ∃ X, X = xs.map (eT) := ⟨_, rfl⟩
  have hXl : X.length = xs.length := by rw [hX, List.length_map]
  obtain ⟨Y, hY⟩ : ∃ Y, Y = ys.map (eT) := ⟨_, rfl⟩
  have hYl : Y.length = ys.length := by rw [hY, List.length_map]
  rw [← hX, ← hY]
  refine Ok.of_body layOk Tryz.func16 rfl (by decide) (by simp [Tryz.ntmps16]) fun C hP hn hσ hfix hdd => ?_
  rw [show Tryz.f16.ntmps = 26 from rfl] at hn
  have hL : LayOk C.P L := hP ▸ layOk
  have hm : C.P.follows .mixedOrders = true := hP ▸ mixed
  refine SW.vlen 0 rfl fun hlen => ?_
  rw [hXl] at hlen
  by_cases hne : xs.length = ys.length
  · have d0 : ((X.length : Int) != (Y.length : Int)) = false := by rw [hXl, hYl, hne]; simp
    repeat (first | ((first | refine sA hL hn rfl ?_ | refine sB hL hn rfl ?_); simp only [go_sem, Nat.reduceBEq, Int.reduceLT, Int.reduceLE, reduceAdd, reduceEqDiff, reduceIte, reduceSub, Nat.reduceLT, reduceMul, reduceLeDiff, reduceCtorEq, d0]) | ((first | refine sC ?_ | refine sH ?_ | refine sI ?_ | refine sJ ?_); try simp only [thenK, blockK, loopK, loopG, if_true, if_false, reduceEqDiff]) | refine sD ?_ | refine sE ?_ | refine sF rfl ?_ | refine sG rfl ?_)
    refine SW.lpg (fun k : Nat => ⟨[(0, .vec c 2 X), (1, .vec d 2 Y), (12, .int .i64 xs.length), (13, .int .i64 k)], σ⟩) (fun k => xs.length - k) (fun k => k ≤ xs.length ∧ ∀ j, j < k → xs[j]? = ys[j]?) 0 ⟨by omega, fun j hj => absurd hj (by omega)⟩ (.of rfl (by simp [agree, lk, hXl])) ?_
    intro k ⟨hk, hg2⟩
    by_cases hlt : k < xs.length
    · have e1 : decide ((k : Int) < (xs.length : Int)) = true := decide_eq_true (by omega)
      have e2 : (0 ≤ (k : Int) ∧ (k : Int) < (X.length : Int)) := by omega
      have e2' : (0 ≤ (k : Int) ∧ (k : Int) < (Y.length : Int)) := by omega
      obtain ⟨x, hx⟩ : ∃ x, x = xs[k] := ⟨_, rfl⟩
      obtain ⟨y, hy⟩ : ∃ y, y = ys[k]'(by omega) := ⟨_, rfl⟩
      have e3 : X[k]?.getD .undef = .agg [.int .u64 x.k, .int .u64 x.v] := by rw [hX, hx]; simp [hlt, eT, eN]
      have e3' : Y[k]?.getD .undef = .agg [.int .u64 y.k, .int .u64 y.v] := by rw [hY, hy]; simp [show k < ys.length by omega, eT, eN]
      have hxk : xs[k]? = some x := by rw [hx]; exact List.getElem?_eq_getElem hlt
      have hyk : ys[k]? = some y := by rw [hy]; exact List.getElem?_eq_getElem _
      have w1 : IntKind.i64.wrap ((k : Int) + 1) = ((k + 1 : Nat) : Int) := wi (by omega) (by omega)
      repeat (first | ((first | refine sA hL hn rfl ?_ | refine sB hL hn rfl ?_); simp only [go_sem, Nat.reduceBEq, Int.reduceLT, Int.reduceLE, reduceAdd, reduceEqDiff, reduceIte, reduceSub, Nat.reduceLT, reduceMul, reduceLeDiff, reduceCtorEq, e1]) | ((first | refine sC ?_ | refine sH ?_ | refine sI ?_ | refine sJ ?_); try simp only [thenK, blockK, loopK, loopG, if_true, if_false, reduceEqDiff]) | refine sD ?_ | refine sE ?_ | refine sF rfl ?_ | refine sG rfl ?_)
      refine sM hL hm hn di16_6 [σ] rfl rfl rfl ?_
      unfold di16_6
      cases h1 : (x.k == y.k)
      · have hd : decide (xs = ys) = false := decide_eq_false fun e => by
          rw [e, hyk] at hxk; cases hxk; simp at h1
        rw [hd]
        repeat (rw [dgo_cons]; simp (maxSteps := 2000000) only [go_sem, Nat.reduceBEq, Int.reduceLT, Int.reduceLE, reduceAdd, reduceEqDiff, reduceIte, reduceSub, Nat.reduceLT, reduceMul, reduceLeDiff, reduceCtorEq, e2, e2', e3, e3', h1])
        try rw [dgo_nil]
        try simp only [go_sem, Nat.reduceBEq, Int.reduceLT, Int.reduceLE, reduceAdd, reduceEqDiff, reduceIte, reduceSub, Nat.reduceLT, reduceMul, reduceLeDiff, reduceCtorEq, e2, e2', e3, e3', h1]
        repeat (first | ((first | refine sA hL hn rfl ?_ | refine sB hL hn rfl ?_); simp only [go_sem, Nat.reduceBEq, Int.reduceLT, Int.reduceLE, reduceAdd, reduceEqDiff, reduceIte, reduceSub, Nat.reduceLT, reduceMul, reduceLeDiff, reduceCtorEq]) | ((first | refine sC ?_ | refine sH ?_ | refine sI ?_ | refine sJ ?_); try simp only [thenK, blockK, loopK, loopG, if_true, if_false, reduceEqDiff]) | refine sD ?_ | refine sE ?_ | refine sF rfl ?_ | refine sG rfl ?_)
        exact ⟨_, _, _, Ghost.refl _ _, rfl, GhostV.refl _ _ _, rfl⟩
      cases h2 : (x.v == y.v)
      · have hd : decide (xs = ys) = false := decide_eq_false fun e => by
          rw [e, hyk] at hxk; cases hxk; simp at h2
        rw [hd]
        repeat (rw [dgo_cons]; simp (maxSteps := 2000000) only [go_sem, Nat.reduceBEq, Int.reduceLT, Int.reduceLE, reduceAdd, reduceEqDiff, reduceIte, reduceSub, Nat.reduceLT, reduceMul, reduceLeDiff, reduceCtorEq, e2, e2', e3, e3', h1, h2])
        try rw [dgo_nil]
        try simp only [go_sem, Nat.reduceBEq, Int.reduceLT, Int.reduceLE, reduceAdd, reduceEqDiff, reduceIte, reduceSub, Nat.reduceLT, reduceMul, reduceLeDiff, reduceCtorEq, e2, e2', e3, e3', h1, h2]
        repeat (first | ((first | refine sA hL hn rfl ?_ | refine sB hL hn rfl ?_); simp only [go_sem, Nat.reduceBEq, Int.reduceLT, Int.reduceLE, reduceAdd, reduceEqDiff, reduceIte, reduceSub, Nat.reduceLT, reduceMul, reduceLeDiff, reduceCtorEq]) | ((first | refine sC ?_ | refine sH ?_ | refine sI ?_ | refine sJ ?_); try simp only [thenK, blockK, loopK, loopG, if_true, if_false, reduceEqDiff]) | refine sD ?_ | refine sE ?_ | refine sF rfl ?_ | refine sG rfl ?_)
        exact ⟨_, _, _, Ghost.refl _ _, rfl, GhostV.refl _ _ _, rfl⟩
      · have hxy : x = y := by
          cases x; cases y
          simp only [beq_iff_eq] at h1 h2
          simp [h1, h2]
        repeat (rw [dgo_cons]; simp (maxSteps := 2000000) only [go_sem, Nat.reduceBEq, Int.reduceLT, Int.reduceLE, reduceAdd, reduceEqDiff, reduceIte, reduceSub, Nat.reduceLT, reduceMul, reduceLeDiff, reduceCtorEq, e2, e2', e3, e3', h1, h2])
        try rw [dgo_nil]
        try simp only [go_sem, Nat.reduceBEq, Int.reduceLT, Int.reduceLE, reduceAdd, reduceEqDiff, reduceIte, reduceSub, Nat.reduceLT, reduceMul, reduceLeDiff, reduceCtorEq, e2, e2', e3, e3', h1, h2]
        repeat (first | ((first | refine sA hL hn rfl ?_ | refine sB hL hn rfl ?_); simp only [go_sem, Nat.reduceBEq, Int.reduceLT, Int.reduceLE, reduceAdd, reduceEqDiff, reduceIte, reduceSub, Nat.reduceLT, reduceMul, reduceLeDiff, reduceCtorEq, w1]) | ((first | refine sC ?_ | refine sH ?_ | refine sI ?_ | refine sJ ?_); try simp only [thenK, blockK, loopK, loopG, if_true, if_false, reduceEqDiff]) | refine sD ?_ | refine sE ?_ | refine sF rfl ?_ | refine sG rfl ?_)
        refine Lp.nextg (k + 1) ⟨by omega, fun j hj => ?_⟩ (by omega) (.of rfl (by simp [agree, lk]))
        by_cases hjk : j = k
        · subst hjk
          rw [hxk, hyk, hxy]
        · exact hg2 j (by omega)
    · have e1 : decide ((k : Int) < (xs.length : Int)) = false := decide_eq_false (by omega)
      have hd : decide (xs = ys) = true := decide_eq_true (List.ext_getElem? fun j => by
        rcases Nat.lt_or_ge j k with h | h
        · exact hg2 j h
        · rw [List.getElem?_eq_none (by omega), List.getElem?_eq_none (by omega)])
      rw [hd]
      repeat (first | ((first | refine sA hL hn rfl ?_ | refine sB hL hn rfl ?_); simp only [go_sem, Nat.reduceBEq, Int.reduceLT, Int.reduceLE, reduceAdd, reduceEqDiff, reduceIte, reduceSub, Nat.reduceLT, reduceMul, reduceLeDiff, reduceCtorEq, e1]) | ((first | refine sC ?_ | refine sH ?_ | refine sI ?_ | refine sJ ?_); try simp only [thenK, blockK, loopK, loopG, if_true, if_false, reduceEqDiff]) | refine sD ?_ | refine sE ?_ | refine sF rfl ?_ | refine sG rfl ?_)
      exact ⟨_, _, _, Ghost.refl _ _, rfl, GhostV.refl _ _ _, rfl⟩
  · have d0 : ((X.length : Int) != (Y.length : Int)) = true := by rw [hXl, hYl]; simp; omega
    have hd : decide (xs = ys) = false := decide_eq_false fun e => hne (congrArg _ e)
    rw [hd]
    repeat (first | ((first | refine sA hL hn rfl ?_ | refine sB hL hn rfl ?_); simp only [go_sem, Nat.reduceBEq, Int.reduceLT, Int.reduceLE, reduceAdd, reduceEqDiff, reduceIte, reduceSub, Nat.reduceLT, reduceMul, reduceLeDiff, reduceCtorEq, d0]) | ((first | refine sC ?_ | refine sH ?_ | refine sI ?_ | refine sJ ?_); try simp only [thenK, blockK, loopK, loopG, if_true, if_false, reduceEqDiff]) | refine sD ?_ | refine sE ?_ | refine sF rfl ?_ | refine sG rfl ?_)
    exact ⟨_, _, _, Ghost.refl _ _, rfl, GhostV.refl _ _ _, rfl⟩
end Go.VL
end
section
set_option linter.unusedSimpArgs false
set_option linter.unusedVariables false
set_option maxRecDepth 10000
set_option maxHeartbeats 2000000
namespace Go.VL
open Go Go.Proofs
open Nat (reduceAdd reduceEqDiff reduceSub reduceMul reduceLeDiff)

def spOf (r : Rf) : Sp := ⟨r.p, r.l⟩
theorem usedBad_ok (c d : Nat) (l : List (Int × List Ex)) (h : refsCheckF l ≠ 0) (σ : List Ob) : Ok Tryz.prog 29 [.vec d 2 (l.map (eM c))] σ (.ret (.tup [.nils, .int .i64 (refsCheckF l)])) σ := by
  refine Ok.of_body layOk Tryz.func29 rfl (by decide) (by simp [Tryz.ntmps29]) fun C hP hn hσ hfix hdd => ?_
  rw [show Tryz.f29.ntmps = 34 from rfl] at hn
  have hL : LayOk C.P L := hP ▸ layOk
  have hm : C.P.follows .mixedOrders = true := hP ▸ mixed
  have hz : (refsCheckF l != 0) = true := by simpa using h
  repeat (first | ((first | refine sA hL hn rfl ?_ | refine sB hL hn rfl ?_); simp only [go_sem, Nat.reduceBEq, Int.reduceLT, Int.reduceLE, reduceAdd, reduceEqDiff, reduceIte, reduceSub, Nat.reduceLT, reduceMul, reduceLeDiff, reduceCtorEq]) | ((first | refine sC ?_ | refine sH ?_ | refine sI ?_ | refine sJ ?_); try simp only [thenK, blockK, loopK, loopG, if_true, if_false, reduceEqDiff]) | refine sD ?_ | refine sE ?_ | refine sF rfl ?_ | refine sG rfl ?_)
  refine sK hP hL hn rfl rfl (refsBad_ok c d l h _) rfl rfl rfl rfl ?_; simp (maxSteps := 2000000) only [go_sem, Nat.reduceBEq, Int.reduceLT, Int.reduceLE, reduceAdd, reduceEqDiff, reduceIte, reduceSub, Nat.reduceLT, reduceMul, reduceLeDiff, reduceCtorEq]
  repeat (first | ((first | refine sA hL hn rfl ?_ | refine sB hL hn rfl ?_); simp only [go_sem, Nat.reduceBEq, Int.reduceLT, Int.reduceLE, reduceAdd, reduceEqDiff, reduceIte, reduceSub, Nat.reduceLT, reduceMul, reduceLeDiff, reduceCtorEq, hz]) | ((first | refine sC ?_ | refine sH ?_ | refine sI ?_ | refine sJ ?_); try simp only [thenK, blockK, loopK, loopG, if_true, if_false, reduceEqDiff]) | refine sD ?_ | refine sE ?_ | refine sF rfl ?_ | refine sG rfl ?_)
  exact ⟨_, _, _, Ghost.refl _ _, rfl, GhostV.refl _ _ _, rfl⟩
theorem used_ok (c d : Nat) (l : List (Int × List Ex)) (h : refsCheckF l = 0) : ∃ D : List Sp, D.length ≤ 9216 ∧ ∀ σ, Ok Tryz.prog 29 [.vec d 2 (l.map (eM c))] σ (.ret (.tup [.vec 0 2 (D.map eS), .int .i64 0])) σ := by
  obtain ⟨rs, hr, hok⟩ := refs_ok c d l h
  obtain ⟨D, hD, hj⟩ := join_ok 0 (rs.map spOf) (by rw [List.length_map]; omega)
  rw [List.length_map] at hD
  refine ⟨D, by omega, fun σ => ?_⟩
  obtain ⟨Y, hY⟩ : ∃ Y, Y = rs.map eR := ⟨_, rfl⟩
  have hYl : Y.length = rs.length := by rw [hY, List.length_map]
  rw [← hY] at hok
  have hlY : Low σ.length (.vec 0 4 Y) := by rw [hY]; exact low_vecR _ _ _
  refine Ok.of_body layOk Tryz.func29 rfl (by decide) (by simp [Tryz.ntmps29]) fun C hP hn hσ hfix hdd => ?_
  rw [show Tryz.f29.ntmps = 34 from rfl] at hn
  have hL : LayOk C.P L := hP ▸ layOk
  have hm : C.P.follows .mixedOrders = true := hP ▸ mixed
  repeat (first | ((first | refine sA hL hn rfl ?_ | refine sB hL hn rfl ?_); simp only [go_sem, Nat.reduceBEq, Int.reduceLT, Int.reduceLE, reduceAdd, reduceEqDiff, reduceIte, reduceSub, Nat.reduceLT, reduceMul, reduceLeDiff, reduceCtorEq]) | ((first | refine sC ?_ | refine sH ?_ | refine sI ?_ | refine sJ ?_); try simp only [thenK, blockK, loopK, loopG, if_true, if_false, reduceEqDiff]) | refine sD ?_ | refine sE ?_ | refine sF rfl ?_ | refine sG rfl ?_)
  refine sK hP hL hn rfl rfl (hok _) rfl rfl rfl rfl ?_; simp (maxSteps := 2000000) only [go_sem, Nat.reduceBEq, Int.reduceLT, Int.reduceLE, reduceAdd, reduceEqDiff, reduceIte, reduceSub, Nat.reduceLT, reduceMul, reduceLeDiff, reduceCtorEq]
  repeat (first | ((first | refine sA hL hn rfl ?_ | refine sB hL hn rfl ?_); simp only [go_sem, Nat.reduceBEq, Int.reduceLT, Int.reduceLE, reduceAdd, reduceEqDiff, reduceIte, reduceSub, Nat.reduceLT, reduceMul, reduceLeDiff, reduceCtorEq]) | ((first | refine sC ?_ | refine sH ?_ | refine sI ?_ | refine sJ ?_); try simp only [thenK, blockK, loopK, loopG, if_true, if_false, reduceEqDiff]) | refine sD ?_ | refine sE ?_ | refine sF rfl ?_ | refine sG rfl ?_)
  refine SW.lpg (fun x : Nat × List Sp => ⟨[(3, .int .i64 0), (6, .sl σ.length x.2.length 0 x.2.length), (17, .vec 0 4 Y), (18, .int .i64 rs.length), (19, .int .i64 x.1)], σ ++ [.arr 73 2 (x.2.map eS)]⟩) (fun x => rs.length - x.1) (fun x => x.1 ≤ rs.length ∧ x.2 = (rs.take x.1).map spOf) (0, []) ⟨by simp, by simp⟩ ?_ ?_
  · refine Ghost.trans (Ghost.newNil 6 73 2 (by simp [lk])) (.of (by simp) (by simp [agree, lk, up, hYl]))
  rintro ⟨k, out⟩ ⟨hk, hout⟩
  simp only at hk hout
  have hol : out.length = k := by rw [hout]; simp; omega
  by_cases hlt : k < rs.length
  · have e1 : decide ((k : Int) < (rs.length : Int)) = true := decide_eq_true (by omega)
    have e2 : (0 ≤ (k : Int) ∧ (k : Int) < (Y.length : Int)) := by omega
    obtain ⟨x, hx⟩ : ∃ x, x = rs[k] := ⟨_, rfl⟩
    have e3 : Y[k]?.getD .undef = .agg [.int .i64 x.p, .int .i64 x.l, .int .i64 x.o, .int .i64 x.v] := by rw [hY, hx]; simp [hlt, eR, eI]
    have w1 : IntKind.i64.wrap ((k : Int) + 1) = ((k + 1 : Nat) : Int) := wi (by omega) (by omega)
    have hnx : (rs.take (k + 1)).map spOf = out ++ [spOf x] := by rw [List.take_succ_eq_append_getElem hlt, List.map_append, ← hout, hx]; rfl
    have hb : ∀ a b : Int, buildDV L 73 [(0, .int .i64 a), (1, .int .i64 b)] = some (.agg [.int .i64 a, .int .i64 b]) := fun _ _ => rfl
    obtain ⟨O, hO⟩ : ∃ O, O = out.map eS := ⟨_, rfl⟩
    have hOl : O.length = out.length := by rw [hO, List.length_map]
    have aO := all_eS out
    rw [← hO] at aO
    simp only [DV.cells] at aO
    rw [← hO]
    have hcap : (out.length + 1) * 16 ≤ 140737488355328 := by omega
    have q1 : (out ++ [spOf x]).map eS = O ++ [.agg [.int .i64 x.p, .int .i64 x.l]] := by rw [List.map_append, ← hO]; rfl
    have q2 : (out ++ [spOf x]).length = out.length + 1 := by simp
    repeat (first | ((first | refine sA hL hn rfl ?_ | refine sB hL hn rfl ?_); simp only [go_sem, Nat.reduceBEq, Int.reduceLT, Int.reduceLE, reduceAdd, reduceEqDiff, reduceIte, reduceSub, Nat.reduceLT, reduceMul, reduceLeDiff, reduceCtorEq, e1, e2, e3, hb, appDV, aO, hOl, hcap, w1]) | ((first | refine sC ?_ | refine sH ?_ | refine sI ?_ | refine sJ ?_); try simp only [thenK, blockK, loopK, loopG, if_true, if_false, reduceEqDiff]) | refine sD ?_ | refine sE ?_ | refine sF rfl ?_ | refine sG rfl ?_)
    refine Lp.nextg (k + 1, out ++ [spOf x]) ⟨by simp only; omega, hnx.symm⟩ (by simp only; omega) ?_
    have q3 := low_spOb (σ.length + 1) 73 2 (out ++ [spOf x])
    rw [q1] at q3
    simp only [q1, q2]
    refine Ghost.keep 1 _ hσ hfix (by simp [agree, lk, hYl, hOl]) ?_ ⟨q3, trivial⟩ (by simp [lk, low_int, low_bool, low_str, low_nils, low_nilp, low_nilf, low_nili, low_undef, low_skip, low_vec, low_agg, low_tup, low_fn, low_vptr, low_iface, low_ptr, low_sl, low_mp, low_it, low_yld, low_emp, lowEnv, lowObs, lowOb, tmpObs, isArr, eX, eI])
    exact ⟨(low_int _ _).2 trivial, (low_sl _ _ _ _).2 (by simp), by rw [hY]; exact low_vecR _ _ _, (low_int _ _).2 trivial, (low_int _ _).2 trivial, trivial⟩
  · have e1 : decide ((k : Int) < (rs.length : Int)) = false := decide_eq_false (by omega)
    obtain rfl : k = rs.length := by omega
    rw [List.take_length] at hout
    rw [← hout] at hj
    refine SW.ghost (Ghost.give1 0 6 [(3, .int .i64 0), (18, .int .i64 rs.length), (19, .int .i64 rs.length)] hσ hfix (by simp [agree, lk]) ⟨(low_int _ _).2 trivial, (low_int _ _).2 trivial, (low_int _ _).2 trivial, trivial⟩ (fun x hx => by
      obtain ⟨a, _, rfl⟩ := List.mem_map.1 hx
      exact low_eS _ a)) ?_
    repeat (first | ((first | refine sA hL hn rfl ?_ | refine sB hL hn rfl ?_); simp only [go_sem, Nat.reduceBEq, Int.reduceLT, Int.reduceLE, reduceAdd, reduceEqDiff, reduceIte, reduceSub, Nat.reduceLT, reduceMul, reduceLeDiff, reduceCtorEq, e1]) | ((first | refine sC ?_ | refine sH ?_ | refine sI ?_ | refine sJ ?_); try simp only [thenK, blockK, loopK, loopG, if_true, if_false, reduceEqDiff]) | refine sD ?_ | refine sE ?_ | refine sF rfl ?_ | refine sG rfl ?_)
    refine sK hP hL hn rfl rfl (hj _) rfl rfl rfl rfl ?_; simp (maxSteps := 2000000) only [go_sem, Nat.reduceBEq, Int.reduceLT, Int.reduceLE, reduceAdd, reduceEqDiff, reduceIte, reduceSub, Nat.reduceLT, reduceMul, reduceLeDiff, reduceCtorEq]
    repeat (first | ((first | refine sA hL hn rfl ?_ | refine sB hL hn rfl ?_); simp only [go_sem, Nat.reduceBEq, Int.reduceLT, Int.reduceLE, reduceAdd, reduceEqDiff, reduceIte, reduceSub, Nat.reduceLT, reduceMul, reduceLeDiff, reduceCtorEq]) | ((first | refine sC ?_ | refine sH ?_ | refine sI ?_ | refine sJ ?_); try simp only [thenK, blockK, loopK, loopG, if_true, if_false, reduceEqDiff]) | refine sD ?_ | refine sE ?_ | refine sF rfl ?_ | refine sG rfl ?_)
    exact ⟨_, _, _, Ghost.refl _ _, rfl, GhostV.refl _ _ _, rfl⟩

/-! ### free -/
def newE (n : Int) : Int := if decide (n < 0) then 4 else if decide (n > 65536) then 4 else 0
theorem newBad_ok (n : Int) (h : newE n ≠ 0) (σ : List Ob) : Ok Tryz.prog 32 [.int .i64 n] σ (.ret (.tup [.agg [.int .i64 0, .nils], .int .i64 4])) σ := by
  refine Ok.of_body layOk Tryz.func32 rfl (by decide) (by simp [Tryz.ntmps32]) fun C hP hn hσ hfix hdd => ?_
  rw [show Tryz.f32.ntmps = 21 from rfl] at hn
  have hL : LayOk C.P L := hP ▸ layOk
  have hm : C.P.follows .mixedOrders = true := hP ▸ mixed
  have hb : buildDV L 32 [] = some (.agg [.int .i64 0, .nils]) := rfl
  unfold newE at h
  cases d1 : decide (n < 0)
  · cases d2 : decide (n > 65536)
    · rw [d1, d2] at h; exact absurd rfl h
    · repeat (first | ((first | refine sA hL hn rfl ?_ | refine sB hL hn rfl ?_); simp only [go_sem, Nat.reduceBEq, Int.reduceLT, Int.reduceLE, reduceAdd, reduceEqDiff, reduceIte, reduceSub, Nat.reduceLT, reduceMul, reduceLeDiff, reduceCtorEq, d1, d2, hb]) | ((first | refine sC ?_ | refine sH ?_ | refine sI ?_ | refine sJ ?_); try simp only [thenK, blockK, loopK, loopG, if_true, if_false, reduceEqDiff]) | refine sD ?_ | refine sE ?_ | refine sF rfl ?_ | refine sG rfl ?_)
      refine ⟨_, .tup [.agg [.int .i64 0, .nils], .int .i64 4], _, Ghost.refl _ _, ?_, GhostV.none (by rw [hn]; decide) hσ hfix (by simp [lk, low_int, low_bool, low_str, low_nils, low_nilp, low_nilf, low_nili, low_undef, low_skip, low_vec, low_agg, low_tup, low_fn, low_vptr, low_iface, low_ptr, low_sl, low_mp, low_it, low_yld, low_emp, lowEnv, lowObs, lowOb, tmpObs, isArr]) (by simp [lk, low_int, low_bool, low_str, low_nils, low_nilp, low_nilf, low_nili, low_undef, low_skip, low_vec, low_agg, low_tup, low_fn, low_vptr, low_iface, low_ptr, low_sl, low_mp, low_it, low_yld, low_emp, lowEnv, lowObs, lowOb, tmpObs, isArr]), rfl⟩
      show resDV L _ [Go.ResultVar.cell 2 32, Go.ResultVar.tmp 3] = _
      simp only [resDV, resL, resDV1, go_sem, Nat.reduceBEq, Int.reduceLT, Int.reduceLE, reduceAdd, reduceEqDiff, reduceIte, reduceSub, Nat.reduceLT, reduceMul, reduceLeDiff, reduceCtorEq]
  · repeat (first | ((first | refine sA hL hn rfl ?_ | refine sB hL hn rfl ?_); simp only [go_sem, Nat.reduceBEq, Int.reduceLT, Int.reduceLE, reduceAdd, reduceEqDiff, reduceIte, reduceSub, Nat.reduceLT, reduceMul, reduceLeDiff, reduceCtorEq, d1, hb]) | ((first | refine sC ?_ | refine sH ?_ | refine sI ?_ | refine sJ ?_); try simp only [thenK, blockK, loopK, loopG, if_true, if_false, reduceEqDiff]) | refine sD ?_ | refine sE ?_ | refine sF rfl ?_ | refine sG rfl ?_)
    refine ⟨_, .tup [.agg [.int .i64 0, .nils], .int .i64 4], _, Ghost.refl _ _, ?_, GhostV.none (by rw [hn]; decide) hσ hfix (by simp [lk, low_int, low_bool, low_str, low_nils, low_nilp, low_nilf, low_nili, low_undef, low_skip, low_vec, low_agg, low_tup, low_fn, low_vptr, low_iface, low_ptr, low_sl, low_mp, low_it, low_yld, low_emp, lowEnv, lowObs, lowOb, tmpObs, isArr]) (by simp [lk, low_int, low_bool, low_str, low_nils, low_nilp, low_nilf, low_nili, low_undef, low_skip, low_vec, low_agg, low_tup, low_fn, low_vptr, low_iface, low_ptr, low_sl, low_mp, low_it, low_yld, low_emp, lowEnv, lowObs, lowOb, tmpObs, isArr]), rfl⟩
    show resDV L _ [Go.ResultVar.cell 2 32, Go.ResultVar.tmp 3] = _
    simp only [resDV, resL, resDV1, go_sem, Nat.reduceBEq, Int.reduceLT, Int.reduceLE, reduceAdd, reduceEqDiff, reduceIte, reduceSub, Nat.reduceLT, reduceMul, reduceLeDiff, reduceCtorEq]
theorem newRaw1_ok (n : Int) (h : newE n = 0) (h1 : n > 0) (σ : List Ob) : Ok Tryz.prog 32 [.int .i64 n] σ (.ret (.tup [.agg [.int .i64 n, .sl (σ.length + 2) 1 0 1], .int .i64 0])) (σ ++ [.arr 32 2 [.agg [.int .i64 n, .sl (σ.length + 2) 1 0 1]], .arr 32 2 [.agg [.int .i64 n, .sl (σ.length + 2) 1 0 1]], .arr 73 2 [.agg [.int .i64 0, .int .i64 n]]]) := by
  refine Ok.of_body layOk Tryz.func32 rfl (by decide) (by simp [Tryz.ntmps32]) fun C hP hn hσ hfix hdd => ?_
  rw [show Tryz.f32.ntmps = 21 from rfl] at hn
  have hL : LayOk C.P L := hP ▸ layOk
  have hm : C.P.follows .mixedOrders = true := hP ▸ mixed
  have hb : buildDV L 32 [(0, .int .i64 n)] = some (.agg [.int .i64 n, .nils]) := rfl
  have hb2 : buildDV L 73 [(0, .int .i64 0), (1, .int .i64 n)] = some (.agg [.int .i64 0, .int .i64 n]) := rfl
  unfold newE at h
  cases d1 : decide (n < 0)
  · cases d2 : decide (n > 65536)
    · have d3 : decide (n > 0) = true := decide_eq_true h1
      repeat (first | ((first | refine sA hL hn rfl ?_ | refine sB hL hn rfl ?_); simp only [go_sem, Nat.reduceBEq, Int.reduceLT, Int.reduceLE, reduceAdd, reduceEqDiff, reduceIte, reduceSub, Nat.reduceLT, reduceMul, reduceLeDiff, reduceCtorEq, d1, d2, d3, hb, hb2]) | ((first | refine sC ?_ | refine sH ?_ | refine sI ?_ | refine sJ ?_); try simp only [thenK, blockK, loopK, loopG, if_true, if_false, reduceEqDiff]) | refine sD ?_ | refine sE ?_ | refine sF rfl ?_ | refine sG rfl ?_)
      refine ⟨_, .tup [.agg [.int .i64 n, .sl (σ.length + 2) 1 0 1], .int .i64 0], _, Ghost.refl _ _, ?_, GhostV.refl _ _ _, rfl⟩
      show resDV L _ [Go.ResultVar.cell 2 32, Go.ResultVar.tmp 3] = _
      simp only [resDV, resL, resDV1, go_sem, Nat.reduceBEq, Int.reduceLT, Int.reduceLE, reduceAdd, reduceEqDiff, reduceIte, reduceSub, Nat.reduceLT, reduceMul, reduceLeDiff, reduceCtorEq]
    · rw [d1, d2] at h; cases h
  · rw [d1] at h; cases h
theorem newRaw0_ok (n : Int) (h : newE n = 0) (h1 : ¬ n > 0) (σ : List Ob) : Ok Tryz.prog 32 [.int .i64 n] σ (.ret (.tup [.agg [.int .i64 n, .nils], .int .i64 0])) σ := by
  refine Ok.of_body layOk Tryz.func32 rfl (by decide) (by simp [Tryz.ntmps32]) fun C hP hn hσ hfix hdd => ?_
  rw [show Tryz.f32.ntmps = 21 from rfl] at hn
  have hL : LayOk C.P L := hP ▸ layOk
  have hm : C.P.follows .mixedOrders = true := hP ▸ mixed
  have hb : buildDV L 32 [(0, .int .i64 n)] = some (.agg [.int .i64 n, .nils]) := rfl
  unfold newE at h
  cases d1 : decide (n < 0)
  · cases d2 : decide (n > 65536)
    · have d3 : decide (n > 0) = false := decide_eq_false h1
      repeat (first | ((first | refine sA hL hn rfl ?_ | refine sB hL hn rfl ?_); simp only [go_sem, Nat.reduceBEq, Int.reduceLT, Int.reduceLE, reduceAdd, reduceEqDiff, reduceIte, reduceSub, Nat.reduceLT, reduceMul, reduceLeDiff, reduceCtorEq, d1, d2, d3, hb]) | ((first | refine sC ?_ | refine sH ?_ | refine sI ?_ | refine sJ ?_); try simp only [thenK, blockK, loopK, loopG, if_true, if_false, reduceEqDiff]) | refine sD ?_ | refine sE ?_ | refine sF rfl ?_ | refine sG rfl ?_)
      refine ⟨_, .tup [.agg [.int .i64 n, .nils], .int .i64 0], _, Ghost.refl _ _, ?_, GhostV.none (by rw [hn]; decide) hσ hfix (by simp [lk, low_int, low_bool, low_str, low_nils, low_nilp, low_nilf, low_nili, low_undef, low_skip, low_vec, low_agg, low_tup, low_fn, low_vptr, low_iface, low_ptr, low_sl, low_mp, low_it, low_yld, low_emp, lowEnv, lowObs, lowOb, tmpObs, isArr]) (by simp [lk, low_int, low_bool, low_str, low_nils, low_nilp, low_nilf, low_nili, low_undef, low_skip, low_vec, low_agg, low_tup, low_fn, low_vptr, low_iface, low_ptr, low_sl, low_mp, low_it, low_yld, low_emp, lowEnv, lowObs, lowOb, tmpObs, isArr]), rfl⟩
      show resDV L _ [Go.ResultVar.cell 2 32, Go.ResultVar.tmp 3] = _
      simp only [resDV, resL, resDV1, go_sem, Nat.reduceBEq, Int.reduceLT, Int.reduceLE, reduceAdd, reduceEqDiff, reduceIte, reduceSub, Nat.reduceLT, reduceMul, reduceLeDiff, reduceCtorEq]
    · rw [d1, d2] at h; cases h
  · rw [d1] at h; cases h
theorem new_ok (n : Int) (h : newE n = 0) : ∃ sp : DV, sp.one = true ∧ Low 0 sp ∧ ∀ σ, Ok Tryz.prog 32 [.int .i64 n] σ (.ret (.tup [.agg [.int .i64 n, sp], .int .i64 0])) σ := by
  by_cases h1 : n > 0
  · refine ⟨.vec 0 2 ([⟨0, n⟩].map eS), rfl, low_spans 0 0 2 _, fun σ => Ok.thaw (c := 0) (newRaw1_ok n h h1 []) (Fz.two ?_ (.low ((low_int _ _).2 trivial))) (by simp [low_int]) σ⟩
    refine .agg rfl fun i x y hx hy => ?_
    match i, hx, hy with
    | 0, hx, hy => cases hx; cases hy; exact .low ((low_int _ _).2 trivial)
    | 1, hx, hy => cases hx; cases hy; exact Fz.list eS (low_eS 0) (l := [⟨0, n⟩]) (t := 73) (k := 2) rfl
    | i + 2, hx, _ => simp at hx
  · exact ⟨.nils, rfl, low_nils.2 trivial, newRaw0_ok n h h1⟩
end Go.VL
end
section
set_option linter.unusedSimpArgs false
set_option linter.unusedVariables false
set_option maxRecDepth 10000
set_option maxHeartbeats 2000000
namespace Go.VL
open Go Go.Proofs
open Nat (reduceAdd reduceEqDiff reduceSub reduceMul reduceLeDiff)

theorem lt_of_get {α : Type} {l : List α} {i : Nat} {x : α} (h : l[i]? = some x) : i < l.length := (List.getElem?_eq_some_iff.1 h).1
theorem full_ok (n : Int) (m t : Nat) (X : List DV) (σ : List Ob) (hob : σ[m]? = some (.arr t 2 X)) (hX : X.length ≤ 1024) : Ok Tryz.prog 54 [.int .i64 n, .sl m X.length 0 X.length] σ (.ret (.tup [.agg [.int .i64 n, .sl m X.length 0 X.length], .int .i64 0])) σ := by
  refine Ok.of_body layOk Tryz.func54 rfl (by decide) (by simp [Tryz.ntmps54]) fun C hP hn hσ hfix hdd => ?_
  rw [show Tryz.f54.ntmps = 13 from rfl] at hn
  have hL : LayOk C.P L := hP ▸ layOk
  have hm : C.P.follows .mixedOrders = true := hP ▸ mixed
  have hml := lt_of_get hob
  have d1 : decide ((X.length : Int) > 1024) = false := decide_eq_false (by omega)
  have hb : buildDV L 32 [(0, .int .i64 n), (1, .sl m X.length 0 X.length)] = some (.agg [.int .i64 n, .sl m X.length 0 X.length]) := rfl
  repeat (first | ((first | refine sA hL hn rfl ?_ | refine sB hL hn rfl ?_); simp only [go_sem, Nat.reduceBEq, Int.reduceLT, Int.reduceLE, reduceAdd, reduceEqDiff, reduceIte, reduceSub, Nat.reduceLT, reduceMul, reduceLeDiff, reduceCtorEq, d1, hb, hob]) | ((first | refine sC ?_ | refine sH ?_ | refine sI ?_ | refine sJ ?_); try simp only [thenK, blockK, loopK, loopG, if_true, if_false, reduceEqDiff]) | refine sD ?_ | refine sE ?_ | refine sF rfl ?_ | refine sG rfl ?_)
  refine ⟨_, .tup [.agg [.int .i64 n, .sl m X.length 0 X.length], .int .i64 0], _, Ghost.refl _ _, ?_, GhostV.none (by rw [hn]; decide) hσ hfix (by simp [lk, low_int, low_bool, low_str, low_nils, low_nilp, low_nilf, low_nili, low_undef, low_skip, low_vec, low_agg, low_tup, low_fn, low_vptr, low_iface, low_ptr, low_sl, low_mp, low_it, low_yld, low_emp, lowEnv, lowObs, lowOb, tmpObs, isArr]; exact hml) (by simp [lk, low_int, low_bool, low_str, low_nils, low_nilp, low_nilf, low_nili, low_undef, low_skip, low_vec, low_agg, low_tup, low_fn, low_vptr, low_iface, low_ptr, low_sl, low_mp, low_it, low_yld, low_emp, lowEnv, lowObs, lowOb, tmpObs, isArr]; omega), rfl⟩
  show resDV L _ [Go.ResultVar.cell 4 32, Go.ResultVar.tmp 5] = _
  simp only [resDV, resL, resDV1, go_sem, Nat.reduceBEq, Int.reduceLT, Int.reduceLE, reduceAdd, reduceEqDiff, reduceIte, reduceSub, Nat.reduceLT, reduceMul, reduceLeDiff, reduceCtorEq]
theorem fullBad_ok (n : Int) (m t : Nat) (X : List DV) (σ : List Ob) (hob : σ[m]? = some (.arr t 2 X)) (hX : ¬ X.length ≤ 1024) : Ok Tryz.prog 54 [.int .i64 n, .sl m X.length 0 X.length] σ (.ret (.tup [.agg [.int .i64 0, .nils], .int .i64 51])) σ := by
  refine Ok.of_body layOk Tryz.func54 rfl (by decide) (by simp [Tryz.ntmps54]) fun C hP hn hσ hfix hdd => ?_
  rw [show Tryz.f54.ntmps = 13 from rfl] at hn
  have hL : LayOk C.P L := hP ▸ layOk
  have hm : C.P.follows .mixedOrders = true := hP ▸ mixed
  have d1 : decide ((X.length : Int) > 1024) = true := decide_eq_true (by omega)
  have hb : buildDV L 32 [] = some (.agg [.int .i64 0, .nils]) := rfl
  repeat (first | ((first | refine sA hL hn rfl ?_ | refine sB hL hn rfl ?_); simp only [go_sem, Nat.reduceBEq, Int.reduceLT, Int.reduceLE, reduceAdd, reduceEqDiff, reduceIte, reduceSub, Nat.reduceLT, reduceMul, reduceLeDiff, reduceCtorEq, d1, hb, hob]) | ((first | refine sC ?_ | refine sH ?_ | refine sI ?_ | refine sJ ?_); try simp only [thenK, blockK, loopK, loopG, if_true, if_false, reduceEqDiff]) | refine sD ?_ | refine sE ?_ | refine sF rfl ?_ | refine sG rfl ?_)
  refine ⟨_, .tup [.agg [.int .i64 0, .nils], .int .i64 51], _, Ghost.refl _ _, ?_, GhostV.none (by rw [hn]; decide) hσ hfix (by simp [lk, low_int, low_bool, low_str, low_nils, low_nilp, low_nilf, low_nili, low_undef, low_skip, low_vec, low_agg, low_tup, low_fn, low_vptr, low_iface, low_ptr, low_sl, low_mp, low_it, low_yld, low_emp, lowEnv, lowObs, lowOb, tmpObs, isArr]) (by simp [lk, low_int, low_bool, low_str, low_nils, low_nilp, low_nilf, low_nili, low_undef, low_skip, low_vec, low_agg, low_tup, low_fn, low_vptr, low_iface, low_ptr, low_sl, low_mp, low_it, low_yld, low_emp, lowEnv, lowObs, lowOb, tmpObs, isArr]), rfl⟩
  show resDV L _ [Go.ResultVar.cell 4 32, Go.ResultVar.tmp 5] = _
  simp only [resDV, resL, resDV1, go_sem, Nat.reduceBEq, Int.reduceLT, Int.reduceLE, reduceAdd, reduceEqDiff, reduceIte, reduceSub, Nat.reduceLT, reduceMul, reduceLeDiff, reduceCtorEq]
theorem without1_ok (x : Sp) (m : Nat) (n : Int) (σ : List Ob) (hob : σ[m]? = some (.arr 3 1 [.int .i64 n])) : Ok Tryz.prog 50 ([eS x] ++ [.ptr m 1 0 0]) σ (.ret (.bool (!insideF x n))) σ := by
  refine Ok.of_body layOk Tryz.func50 rfl (by decide) (by simp [Tryz.ntmps50]) fun C hP hn hσ hfix hdd => ?_
  rw [show Tryz.f50.ntmps = 8 from rfl] at hn
  have hL : LayOk C.P L := hP ▸ layOk
  have hm : C.P.follows .mixedOrders = true := hP ▸ mixed
  have hml := lt_of_get hob
  have hg : ∀ l : List Ob, (σ ++ l)[m]? = some (.arr 3 1 [.int .i64 n]) := fun l => by rw [List.getElem?_append_left hml]; exact hob
  repeat (first | ((first | refine sA hL hn rfl ?_ | refine sB hL hn rfl ?_); simp only [go_sem, Nat.reduceBEq, Int.reduceLT, Int.reduceLE, reduceAdd, reduceEqDiff, reduceIte, reduceSub, Nat.reduceLT, reduceMul, reduceLeDiff, reduceCtorEq, eS, eI, hg]) | ((first | refine sC ?_ | refine sH ?_ | refine sI ?_ | refine sJ ?_); try simp only [thenK, blockK, loopK, loopG, if_true, if_false, reduceEqDiff]) | refine sD ?_ | refine sE ?_ | refine sF rfl ?_ | refine sG rfl ?_)
  refine sK hP hL hn rfl rfl (inside_ok x n _) rfl rfl rfl rfl ?_; simp (maxSteps := 2000000) only [go_sem, Nat.reduceBEq, Int.reduceLT, Int.reduceLE, reduceAdd, reduceEqDiff, reduceIte, reduceSub, Nat.reduceLT, reduceMul, reduceLeDiff, reduceCtorEq, eS, eI]
  repeat (first | ((first | refine sA hL hn rfl ?_ | refine sB hL hn rfl ?_); simp only [go_sem, Nat.reduceBEq, Int.reduceLT, Int.reduceLE, reduceAdd, reduceEqDiff, reduceIte, reduceSub, Nat.reduceLT, reduceMul, reduceLeDiff, reduceCtorEq]) | ((first | refine sC ?_ | refine sH ?_ | refine sI ?_ | refine sJ ?_); try simp only [thenK, blockK, loopK, loopG, if_true, if_false, reduceEqDiff]) | refine sD ?_ | refine sE ?_ | refine sF rfl ?_ | refine sG rfl ?_)
  exact ⟨_, _, _, Ghost.refl _ _, rfl, GhostV.none (by rw [hn]; decide) hσ hfix (by simp [lk, low_int, low_bool, low_str, low_nils, low_nilp, low_nilf, low_nili, low_undef, low_skip, low_vec, low_agg, low_tup, low_fn, low_vptr, low_iface, low_ptr, low_sl, low_mp, low_it, low_yld, low_emp, lowEnv, lowObs, lowOb, tmpObs, isArr, eS, eI]) (by simp [lk, low_int, low_bool, low_str, low_nils, low_nilp, low_nilf, low_nili, low_undef, low_skip, low_vec, low_agg, low_tup, low_fn, low_vptr, low_iface, low_ptr, low_sl, low_mp, low_it, low_yld, low_emp, lowEnv, lowObs, lowOb, tmpObs, isArr, eS, eI]), rfl⟩

theorem cloneSpanE_ok (c : Nat) (σ : List Ob) : OkE Tryz.prog 51 [.vec c 2 []] σ (fun o σ' => σ' = σ ∧ (o = .ret .nils ∨ o = .ret .emp)) := by
  refine OkE.of_body layOk Tryz.func51 rfl (by decide) (by simp [Tryz.ntmps51]) fun C hP hn hσ hfix hdd => ?_
  rw [show Tryz.f51.ntmps = 8 from rfl] at hn
  have hL : LayOk C.P L := hP ▸ layOk
  have hm : C.P.follows .mixedOrders = true := hP ▸ mixed
  repeat (first | ((first | refine sA hL hn rfl ?_ | refine sB hL hn rfl ?_); simp only [go_sem, Nat.reduceBEq, Int.reduceLT, Int.reduceLE, reduceAdd, reduceEqDiff, reduceIte, reduceSub, Nat.reduceLT, reduceMul, reduceLeDiff, reduceCtorEq]) | ((first | refine sC ?_ | refine sH ?_ | refine sI ?_ | refine sJ ?_); try simp only [thenK, blockK, loopK, loopG, if_true, if_false, reduceEqDiff]) | refine sD ?_ | refine sE ?_ | refine sF rfl ?_ | refine sG rfl ?_)
  refine SWops.eqNil hL (by rw [hn]; rfl) rfl rfl ⟨_, _, rfl, rfl⟩ rfl rfl fun b hb => ?_
  refine SWops.nil ?_
  simp only [upo, up, thenK]
  cases b
  · repeat (first | ((first | refine sA hL hn rfl ?_ | refine sB hL hn rfl ?_); simp only [go_sem, Nat.reduceBEq, Int.reduceLT, Int.reduceLE, reduceAdd, reduceEqDiff, reduceIte, reduceSub, Nat.reduceLT, reduceMul, reduceLeDiff, reduceCtorEq, appDV]) | ((first | refine sC ?_ | refine sH ?_ | refine sI ?_ | refine sJ ?_); try simp only [thenK, blockK, loopK, loopG, if_true, if_false, reduceEqDiff]) | refine sD ?_ | refine sE ?_ | refine sF rfl ?_ | refine sG rfl ?_)
    refine ⟨.ret .emp, σ, ⟨rfl, .inr rfl⟩, ?_⟩
    exact ⟨_, _, _, Ghost.refl _ _, rfl, GhostV.refl _ _ _, rfl⟩
  · repeat (first | ((first | refine sA hL hn rfl ?_ | refine sB hL hn rfl ?_); simp only [go_sem, Nat.reduceBEq, Int.reduceLT, Int.reduceLE, reduceAdd, reduceEqDiff, reduceIte, reduceSub, Nat.reduceLT, reduceMul, reduceLeDiff, reduceCtorEq]) | ((first | refine sC ?_ | refine sH ?_ | refine sI ?_ | refine sJ ?_); try simp only [thenK, blockK, loopK, loopG, if_true, if_false, reduceEqDiff]) | refine sD ?_ | refine sE ?_ | refine sF rfl ?_ | refine sG rfl ?_)
    refine ⟨.ret .nils, σ, ⟨rfl, .inl rfl⟩, ?_⟩
    exact ⟨_, _, _, Ghost.refl _ _, rfl, GhostV.refl _ _ _, rfl⟩
theorem sortSpanN_run : (runs LX FN 100000 52 [.nils, .fn 53 []] (.tup []) && runs LX FN 100000 52 [.emp, .fn 53 []] (.tup [])) = true := by kernel_rfl
theorem sortSpanN_ok (d : DV) (h : d = .nils ∨ d = .emp) (σ : List Ob) : Ok Tryz.prog 52 [d, .fn 53 []] σ (.ret (.tup [])) σ := by
  have := sortSpanN_run
  simp only [Bool.and_eq_true] at this
  rcases h with rfl | rfl
  · exact runs_ok layOkX mixed tabOk this.1 (by simp [low_nils, low_fn]) σ
  · exact runs_ok layOkX mixed tabOk this.2 (by simp [low_emp, low_fn]) σ
def woStep (s : Int × List Sp) (x : Sp) : Int × List Sp := (mx s.1 (w64 (x.a + x.l)), if decide (x.a > s.1) then s.2 ++ [⟨s.1, w64 (x.a - s.1)⟩] else s.2)
theorem woFold_len : ∀ (xs : List Sp) (s : Int × List Sp), (xs.foldl woStep s).2.length ≤ s.2.length + xs.length
  | [], s => Nat.le_refl _
  | x :: r, s => by
    have := woFold_len r (woStep s x)
    have h2 : (woStep s x).2.length ≤ s.2.length + 1 := by
      unfold woStep
      dsimp only
      split <;> simp
    simp only [List.foldl_cons, List.length_cons]
    omega
theorem woNew_ok (n : Int) (c : Nat) (xs : List Sp) (h : newE n ≠ 0) (σ : List Ob) : Ok Tryz.prog 30 [.int .i64 n, .vec c 2 (xs.map eS)] σ (.ret (.tup [.agg [.int .i64 0, .nils], .int .i64 4])) σ := by
  refine Ok.of_body layOk Tryz.func30 rfl (by decide) (by simp [Tryz.ntmps30]) fun C hP hn hσ hfix hdd => ?_
  rw [show Tryz.f30.ntmps = 72 from rfl] at hn
  have hL : LayOk C.P L := hP ▸ layOk
  have hm : C.P.follows .mixedOrders = true := hP ▸ mixed
  have hb : buildDV L 32 [] = some (.agg [.int .i64 0, .nils]) := rfl
  repeat (first | ((first | refine sA hL hn rfl ?_ | refine sB hL hn rfl ?_); simp only [go_sem, Nat.reduceBEq, Int.reduceLT, Int.reduceLE, reduceAdd, reduceEqDiff, reduceIte, reduceSub, Nat.reduceLT, reduceMul, reduceLeDiff, reduceCtorEq]) | ((first | refine sC ?_ | refine sH ?_ | refine sI ?_ | refine sJ ?_); try simp only [thenK, blockK, loopK, loopG, if_true, if_false, reduceEqDiff]) | refine sD ?_ | refine sE ?_ | refine sF rfl ?_ | refine sG rfl ?_)
  refine sK hP hL hn rfl rfl (newBad_ok n h _) rfl rfl rfl rfl ?_; simp (maxSteps := 2000000) only [go_sem, Nat.reduceBEq, Int.reduceLT, Int.reduceLE, reduceAdd, reduceEqDiff, reduceIte, reduceSub, Nat.reduceLT, reduceMul, reduceLeDiff, reduceCtorEq]
  repeat (first | ((first | refine sA hL hn rfl ?_ | refine sB hL hn rfl ?_); simp only [go_sem, Nat.reduceBEq, Int.reduceLT, Int.reduceLE, reduceAdd, reduceEqDiff, reduceIte, reduceSub, Nat.reduceLT, reduceMul, reduceLeDiff, reduceCtorEq, hb]) | ((first | refine sC ?_ | refine sH ?_ | refine sI ?_ | refine sJ ?_); try simp only [thenK, blockK, loopK, loopG, if_true, if_false, reduceEqDiff]) | refine sD ?_ | refine sE ?_ | refine sF rfl ?_ | refine sG rfl ?_)
  refine ⟨_, .tup [.agg [.int .i64 0, .nils], .int .i64 4], _, Ghost.refl _ _, ?_, GhostV.none (by rw [hn]; decide) hσ hfix (by simp [lk, low_int, low_bool, low_str, low_nils, low_nilp, low_nilf, low_nili, low_undef, low_skip, low_vec, low_agg, low_tup, low_fn, low_vptr, low_iface, low_ptr, low_sl, low_mp, low_it, low_yld, low_emp, lowEnv, lowObs, lowOb, tmpObs, isArr]) (by simp [lk, low_int, low_bool, low_str, low_nils, low_nilp, low_nilf, low_nili, low_undef, low_skip, low_vec, low_agg, low_tup, low_fn, low_vptr, low_iface, low_ptr, low_sl, low_mp, low_it, low_yld, low_emp, lowEnv, lowObs, lowOb, tmpObs, isArr]), rfl⟩
  show resDV L _ [Go.ResultVar.cell 4 32, Go.ResultVar.tmp 5] = _
  simp only [resDV, resL, resDV1, go_sem, Nat.reduceBEq, Int.reduceLT, Int.reduceLE, reduceAdd, reduceEqDiff, reduceIte, reduceSub, Nat.reduceLT, reduceMul, reduceLeDiff, reduceCtorEq]
theorem woLong_ok (n : Int) (c : Nat) (xs : List Sp) (h : newE n = 0) (hx : ¬ xs.length ≤ 1024) (σ : List Ob) : Ok Tryz.prog 30 [.int .i64 n, .vec c 2 (xs.map eS)] σ (.ret (.tup [.agg [.int .i64 0, .nils], .int .i64 3])) σ := by
  obtain ⟨sp, hs1, hs2, hnew⟩ := new_ok n h
  have hs3 : sp.cells = [sp] := by cases sp <;> first | rfl | cases hs1
  obtain ⟨X, hX⟩ : ∃ X, X = xs.map eS := ⟨_, rfl⟩
  have hXl : X.length = xs.length := by rw [hX, List.length_map]
  rw [← hX]
  refine Ok.of_body layOk Tryz.func30 rfl (by decide) (by simp [Tryz.ntmps30]) fun C hP hn hσ hfix hdd => ?_
  rw [show Tryz.f30.ntmps = 72 from rfl] at hn
  have hL : LayOk C.P L := hP ▸ layOk
  have hm : C.P.follows .mixedOrders = true := hP ▸ mixed
  have hb : buildDV L 32 [] = some (.agg [.int .i64 0, .nils]) := rfl
  have d1 : decide ((X.length : Int) > 1024) = true := decide_eq_true (by omega)
  simp only [DV.one] at hs1
  simp only [DV.cells] at hs3
  repeat (first | ((first | refine sA hL hn rfl ?_ | refine sB hL hn rfl ?_); simp only [go_sem, Nat.reduceBEq, Int.reduceLT, Int.reduceLE, reduceAdd, reduceEqDiff, reduceIte, reduceSub, Nat.reduceLT, reduceMul, reduceLeDiff, reduceCtorEq]) | ((first | refine sC ?_ | refine sH ?_ | refine sI ?_ | refine sJ ?_); try simp only [thenK, blockK, loopK, loopG, if_true, if_false, reduceEqDiff]) | refine sD ?_ | refine sE ?_ | refine sF rfl ?_ | refine sG rfl ?_)
  refine sK hP hL hn rfl rfl (hnew _) rfl rfl rfl rfl ?_; simp (maxSteps := 2000000) only [go_sem, Nat.reduceBEq, Int.reduceLT, Int.reduceLE, reduceAdd, reduceEqDiff, reduceIte, reduceSub, Nat.reduceLT, reduceMul, reduceLeDiff, reduceCtorEq, hs1, hs3]
  repeat (first | ((first | refine sA hL hn rfl ?_ | refine sB hL hn rfl ?_); simp only [go_sem, Nat.reduceBEq, Int.reduceLT, Int.reduceLE, reduceAdd, reduceEqDiff, reduceIte, reduceSub, Nat.reduceLT, reduceMul, reduceLeDiff, reduceCtorEq, hb, d1, hs1, hs3]) | ((first | refine sC ?_ | refine sH ?_ | refine sI ?_ | refine sJ ?_); try simp only [thenK, blockK, loopK, loopG, if_true, if_false, reduceEqDiff]) | refine sD ?_ | refine sE ?_ | refine sF rfl ?_ | refine sG rfl ?_)
  refine ⟨_, .tup [.agg [.int .i64 0, .nils], .int .i64 3], _, Ghost.refl _ _, ?_, GhostV.none (by rw [hn]; decide) hσ hfix (by simp [lk, low_int, low_bool, low_str, low_nils, low_nilp, low_nilf, low_nili, low_undef, low_skip, low_vec, low_agg, low_tup, low_fn, low_vptr, low_iface, low_ptr, low_sl, low_mp, low_it, low_yld, low_emp, lowEnv, lowObs, lowOb, tmpObs, isArr]) (by simp [lk, low_int, low_bool, low_str, low_nils, low_nilp, low_nilf, low_nili, low_undef, low_skip, low_vec, low_agg, low_tup, low_fn, low_vptr, low_iface, low_ptr, low_sl, low_mp, low_it, low_yld, low_emp, lowEnv, lowObs, lowOb, tmpObs, isArr]; exact fun id _ => hs2 id (Nat.zero_le _)), rfl⟩
  show resDV L _ [Go.ResultVar.cell 4 32, Go.ResultVar.tmp 5] = _
  simp only [resDV, resL, resDV1, go_sem, Nat.reduceBEq, Int.reduceLT, Int.reduceLE, reduceAdd, reduceEqDiff, reduceIte, reduceSub, Nat.reduceLT, reduceMul, reduceLeDiff, reduceCtorEq]
theorem woOut_ok (n : Int) (c : Nat) (xs : List Sp) (h : newE n = 0) (hx : xs.length ≤ 1024) (ha : (xs.any fun x => !insideF x n) = true) (σ : List Ob) : Ok Tryz.prog 30 [.int .i64 n, .vec c 2 (xs.map eS)] σ (.ret (.tup [.agg [.int .i64 0, .nils], .int .i64 4])) σ := by
  obtain ⟨sp, hs1, hs2, hnew⟩ := new_ok n h
  have hs3 : sp.cells = [sp] := by cases sp <;> first | rfl | cases hs1
  have hXl : (xs.map eS).length = xs.length := List.length_map _
  refine Ok.of_body layOk Tryz.func30 rfl (by decide) (by simp [Tryz.ntmps30]) fun C hP hn hσ hfix hdd => ?_
  rw [show Tryz.f30.ntmps = 72 from rfl] at hn
  have hL : LayOk C.P L := hP ▸ layOk
  have hm : C.P.follows .mixedOrders = true := hP ▸ mixed
  have hb : buildDV L 32 [] = some (.agg [.int .i64 0, .nils]) := rfl
  have d1 : decide (((xs.map eS).length : Int) > 1024) = false := decide_eq_false (by omega)
  simp only [DV.one] at hs1
  simp only [DV.cells] at hs3
  repeat (first | ((first | refine sA hL hn rfl ?_ | refine sB hL hn rfl ?_); simp only [go_sem, Nat.reduceBEq, Int.reduceLT, Int.reduceLE, reduceAdd, reduceEqDiff, reduceIte, reduceSub, Nat.reduceLT, reduceMul, reduceLeDiff, reduceCtorEq]) | ((first | refine sC ?_ | refine sH ?_ | refine sI ?_ | refine sJ ?_); try simp only [thenK, blockK, loopK, loopG, if_true, if_false, reduceEqDiff]) | refine sD ?_ | refine sE ?_ | refine sF rfl ?_ | refine sG rfl ?_)
  refine sK hP hL hn rfl rfl (hnew _) rfl rfl rfl rfl ?_; simp (maxSteps := 2000000) only [go_sem, Nat.reduceBEq, Int.reduceLT, Int.reduceLE, reduceAdd, reduceEqDiff, reduceIte, reduceSub, Nat.reduceLT, reduceMul, reduceLeDiff, reduceCtorEq, hs1, hs3]
  repeat (first | ((first | refine sA hL hn rfl ?_ | refine sB hL hn rfl ?_); simp only [go_sem, Nat.reduceBEq, Int.reduceLT, Int.reduceLE, reduceAdd, reduceEqDiff, reduceIte, reduceSub, Nat.reduceLT, reduceMul, reduceLeDiff, reduceCtorEq, hb, d1, hs1, hs3]) | ((first | refine sC ?_ | refine sH ?_ | refine sI ?_ | refine sJ ?_); try simp only [thenK, blockK, loopK, loopG, if_true, if_false, reduceEqDiff]) | refine sD ?_ | refine sE ?_ | refine sF rfl ?_ | refine sG rfl ?_)
  refine sK hP hL hn rfl rfl (containsSpan_ok c xs 50 [.ptr σ.length 1 0 0] (fun x => !insideF x n) _ (fun x _ => without1_ok x σ.length n _ (by simp [own_get0])) (by simp [low_ptr])) rfl rfl rfl rfl ?_; simp (maxSteps := 2000000) only [go_sem, Nat.reduceBEq, Int.reduceLT, Int.reduceLE, reduceAdd, reduceEqDiff, reduceIte, reduceSub, Nat.reduceLT, reduceMul, reduceLeDiff, reduceCtorEq, ha]
  repeat (first | ((first | refine sA hL hn rfl ?_ | refine sB hL hn rfl ?_); simp only [go_sem, Nat.reduceBEq, Int.reduceLT, Int.reduceLE, reduceAdd, reduceEqDiff, reduceIte, reduceSub, Nat.reduceLT, reduceMul, reduceLeDiff, reduceCtorEq, hb, ha]) | ((first | refine sC ?_ | refine sH ?_ | refine sI ?_ | refine sJ ?_); try simp only [thenK, blockK, loopK, loopG, if_true, if_false, reduceEqDiff]) | refine sD ?_ | refine sE ?_ | refine sF rfl ?_ | refine sG rfl ?_)
  refine ⟨_, .tup [.agg [.int .i64 0, .nils], .int .i64 4], _, Ghost.refl _ _, ?_, GhostV.none (by rw [hn]; decide) hσ hfix (by simp [lk, low_int, low_bool, low_str, low_nils, low_nilp, low_nilf, low_nili, low_undef, low_skip, low_vec, low_agg, low_tup, low_fn, low_vptr, low_iface, low_ptr, low_sl, low_mp, low_it, low_yld, low_emp, lowEnv, lowObs, lowOb, tmpObs, isArr]) (by simp [lk, low_int, low_bool, low_str, low_nils, low_nilp, low_nilf, low_nili, low_undef, low_skip, low_vec, low_agg, low_tup, low_fn, low_vptr, low_iface, low_ptr, low_sl, low_mp, low_it, low_yld, low_emp, lowEnv, lowObs, lowOb, tmpObs, isArr]; exact fun id _ => hs2 id (Nat.zero_le _)), rfl⟩
  show resDV L _ [Go.ResultVar.cell 4 32, Go.ResultVar.tmp 5] = _
  simp only [resDV, resL, resDV1, go_sem, Nat.reduceBEq, Int.reduceLT, Int.reduceLE, reduceAdd, reduceEqDiff, reduceIte, reduceSub, Nat.reduceLT, reduceMul, reduceLeDiff, reduceCtorEq]
theorem woSome_ok (n : Int) (c : Nat) (h : newE n = 0) (xs ys : List Sp) (h0 : 0 < xs.length) (hx : xs.length ≤ 1024) (ha : (xs.any fun x => !insideF x n) = false) (hy : ys.length = xs.length)
    (hs : ∀ (m t : Nat) (σ : List Ob), 0 < xs.length → σ[m]? = some (.arr t 2 (xs.map eS)) → Ok Tryz.prog 52 [.sl m xs.length 0 xs.length, .fn 53 []] σ (.ret (.tup [])) (σ.set m (.arr t 2 (ys.map eS)))) (U : List Sp) (hU : U = ys ++ [⟨n, 0⟩]) (hUl : U.length ≤ 1025) (nx : Int) (zs : List Sp) (hz : U.foldl woStep (0, []) = (nx, zs)) (e : Int) (D : DV) (hD : (zs.length ≤ 1024 ∧ e = 0 ∧ D = .agg [.int .i64 n, .sl 5 zs.length 0 zs.length]) ∨ (¬ zs.length ≤ 1024 ∧ e = 51 ∧ D = .agg [.int .i64 0, .nils])) :
    OkE Tryz.prog 30 [.int .i64 n, .vec c 2 (xs.map eS)] [] (fun o O => o = .ret (.tup [D, .int .i64 e]) ∧ ∃ t, O[5]? = some (.arr t 2 (zs.map eS))) := by
  obtain ⟨sp, hs1, hs2, hnew⟩ := new_ok n h
  have hs3 : sp.cells = [sp] := by cases sp <;> first | rfl | cases hs1
  have hXl : (xs.map eS).length = xs.length := List.length_map _
  obtain ⟨σ, hσ0⟩ : ∃ σ : List Ob, σ = [] := ⟨_, rfl⟩
  have h5 : σ.length = 0 := by rw [hσ0]; rfl
  rw [← hσ0]
  refine OkE.of_body layOk Tryz.func30 rfl (by decide) (by simp [Tryz.ntmps30]) fun C hP hn hσ hfix hdd => ?_
  rw [show Tryz.f30.ntmps = 72 from rfl] at hn
  have hL : LayOk C.P L := hP ▸ layOk
  have hm : C.P.follows .mixedOrders = true := hP ▸ mixed
  have hb : buildDV L 32 [] = some (.agg [.int .i64 0, .nils]) := rfl
  have hb3 : buildDV L 73 [(0, .int .i64 n)] = some (.agg [.int .i64 n, .int .i64 0]) := rfl
  have hb2 : ∀ a b : Int, buildDV L 73 [(0, .int .i64 a), (1, .int .i64 b)] = some (.agg [.int .i64 a, .int .i64 b]) := fun _ _ => rfl
  have d1 : decide (((xs.map eS).length : Int) > 1024) = false := decide_eq_false (by first | omega | simp)
  simp only [DV.one] at hs1
  simp only [DV.cells] at hs3
  repeat (first | ((first | refine sA hL hn rfl ?_ | refine sB hL hn rfl ?_); simp only [go_sem, Nat.reduceBEq, Int.reduceLT, Int.reduceLE, reduceAdd, reduceEqDiff, reduceIte, reduceSub, Nat.reduceLT, reduceMul, reduceLeDiff, reduceCtorEq]) | ((first | refine sC ?_ | refine sH ?_ | refine sI ?_ | refine sJ ?_); try simp only [thenK, blockK, loopK, loopG, if_true, if_false, reduceEqDiff]) | refine sD ?_ | refine sE ?_ | refine sF rfl ?_ | refine sG rfl ?_)
  refine sK hP hL hn rfl rfl (hnew _) rfl rfl rfl rfl ?_; simp (maxSteps := 2000000) only [go_sem, Nat.reduceBEq, Int.reduceLT, Int.reduceLE, reduceAdd, reduceEqDiff, reduceIte, reduceSub, Nat.reduceLT, reduceMul, reduceLeDiff, reduceCtorEq, hs1, hs3]
  repeat (first | ((first | refine sA hL hn rfl ?_ | refine sB hL hn rfl ?_); simp only [go_sem, Nat.reduceBEq, Int.reduceLT, Int.reduceLE, reduceAdd, reduceEqDiff, reduceIte, reduceSub, Nat.reduceLT, reduceMul, reduceLeDiff, reduceCtorEq, hb, d1, hs1, hs3]) | ((first | refine sC ?_ | refine sH ?_ | refine sI ?_ | refine sJ ?_); try simp only [thenK, blockK, loopK, loopG, if_true, if_false, reduceEqDiff]) | refine sD ?_ | refine sE ?_ | refine sF rfl ?_ | refine sG rfl ?_)
  refine sK hP hL hn rfl rfl (containsSpan_ok c xs 50 [.ptr σ.length 1 0 0] (fun x => !insideF x n) _ (fun x _ => without1_ok x σ.length n _ (by simp [own_get0])) (by simp [low_ptr])) rfl rfl rfl rfl ?_; simp (maxSteps := 2000000) only [go_sem, Nat.reduceBEq, Int.reduceLT, Int.reduceLE, reduceAdd, reduceEqDiff, reduceIte, reduceSub, Nat.reduceLT, reduceMul, reduceLeDiff, reduceCtorEq, ha]
  repeat (first | ((first | refine sA hL hn rfl ?_ | refine sB hL hn rfl ?_); simp only [go_sem, Nat.reduceBEq, Int.reduceLT, Int.reduceLE, reduceAdd, reduceEqDiff, reduceIte, reduceSub, Nat.reduceLT, reduceMul, reduceLeDiff, reduceCtorEq, hb, ha]) | ((first | refine sC ?_ | refine sH ?_ | refine sI ?_ | refine sJ ?_); try simp only [thenK, blockK, loopK, loopG, if_true, if_false, reduceEqDiff]) | refine sD ?_ | refine sE ?_ | refine sF rfl ?_ | refine sG rfl ?_)
  refine sK hP hL hn rfl rfl (cloneSpan_ok c xs h0 (by omega) _) rfl rfl rfl rfl ?_; simp (maxSteps := 2000000) only [go_sem, Nat.reduceBEq, Int.reduceLT, Int.reduceLE, reduceAdd, reduceEqDiff, reduceIte, reduceSub, Nat.reduceLT, reduceMul, reduceLeDiff, reduceCtorEq]
  repeat (first | ((first | refine sA hL hn rfl ?_ | refine sB hL hn rfl ?_); simp only [go_sem, Nat.reduceBEq, Int.reduceLT, Int.reduceLE, reduceAdd, reduceEqDiff, reduceIte, reduceSub, Nat.reduceLT, reduceMul, reduceLeDiff, reduceCtorEq]) | ((first | refine sC ?_ | refine sH ?_ | refine sI ?_ | refine sJ ?_); try simp only [thenK, blockK, loopK, loopG, if_true, if_false, reduceEqDiff]) | refine sD ?_ | refine sE ?_ | refine sF rfl ?_ | refine sG rfl ?_)
  refine sK hP hL hn rfl rfl (hs (σ.length + 3) 73 _ h0 (by simp [own_get])) rfl rfl rfl rfl ?_; simp (maxSteps := 2000000) only [go_sem, Nat.reduceBEq, Int.reduceLT, Int.reduceLE, reduceAdd, reduceEqDiff, reduceIte, reduceSub, Nat.reduceLT, reduceMul, reduceLeDiff, reduceCtorEq]
  have aY := all_eS ys
  simp only [DV.cells] at aY
  have hcap0 : (xs.length + 1) * 16 ≤ 140737488355328 := by omega
  have hyl : (ys.map eS).length = xs.length := by rw [List.length_map, hy]
  repeat (first | ((first | refine sA hL hn rfl ?_ | refine sB hL hn rfl ?_); simp only [go_sem, Nat.reduceBEq, Int.reduceLT, Int.reduceLE, reduceAdd, reduceEqDiff, reduceIte, reduceSub, Nat.reduceLT, reduceMul, reduceLeDiff, reduceCtorEq, hb3, appDV, aY, hcap0, hyl]) | ((first | refine sC ?_ | refine sH ?_ | refine sI ?_ | refine sJ ?_); try simp only [thenK, blockK, loopK, loopG, if_true, if_false, reduceEqDiff]) | refine sD ?_ | refine sE ?_ | refine sF rfl ?_ | refine sG rfl ?_)
  · have hYs : True := trivial
    have hyl2 := hy.symm
    have hUx : U.length = xs.length + 1 := by rw [hU]; simp [hy]
    have hUm : U.map eS = ys.map eS ++ [.agg [.int .i64 n, .int .i64 0]] := by rw [hU]; simp [eS, eI]
    obtain ⟨Y, hY⟩ : ∃ Y, Y = U.map eS := ⟨_, rfl⟩
    have hYl : Y.length = U.length := by rw [hY, List.length_map]
    refine SW.lpg (fun x : Nat × Int × List Sp => ⟨[(2, .ptr σ.length 1 0 0), (4, .ptr (σ.length + 1) 1 0 0), (6, .ptr (σ.length + 2) 1 0 0), (8, .int .i64 x.2.1), (37, .sl (σ.length + 3) U.length 0 U.length), (38, .int .i64 U.length), (39, .int .i64 x.1)],
      σ ++ [.arr 3 1 [.int .i64 n], .arr 32 2 [.agg [.int .i64 0, .nils]], .arr 32 2 [.agg [.int .i64 n, .sl (σ.length + 5) x.2.2.length 0 x.2.2.length]], .arr 73 2 (U.map eS), .arr 73 2 [.agg [.int .i64 n, .int .i64 0]], .arr 73 2 (x.2.2.map eS)]⟩) (fun x => U.length - x.1) (fun x => x.1 ≤ U.length ∧ x.2 = (U.take x.1).foldl woStep (0, [])) (0, 0, []) ⟨by simp, rfl⟩ ?_ ?_
    · refine Ghost.trans (Ghost.newNilIn (σ.length + 2) 1 73 2 (t := 32) (k := 2) (cs := [.int .i64 n, .nils]) (by simp [own_get]) rfl) (.of (by simp [own_set, hU, hYs, hyl2, eS, eI]) (by simp [agree, lk, hU, hYs, hyl2]))
    rintro ⟨k, next, out⟩ ⟨hk, hout⟩
    simp only at hk hout
    have hol : out.length ≤ 1025 := by
      have := woFold_len (U.take k) (0, [])
      rw [← hout] at this
      simp at this
      omega
    rw [← hY]
    by_cases hlt : k < U.length
    · have e1 : decide ((k : Int) < (U.length : Int)) = true := decide_eq_true (by omega)
      have e2 : (0 ≤ (k : Int) ∧ (k : Int) < (U.length : Int)) := by omega
      obtain ⟨x, hx⟩ : ∃ x, x = U[k] := ⟨_, rfl⟩
      have e3 : Y[k]? = some (.agg [.int .i64 x.a, .int .i64 x.l]) := by rw [hY, hx]; simp [hlt, eS, eI]
      have w1 : IntKind.i64.wrap ((k : Int) + 1) = ((k + 1 : Nat) : Int) := wi (by omega) (by omega)
      have hnx : (U.take (k + 1)).foldl woStep (0, []) = woStep (next, out) x := by rw [List.take_succ_eq_append_getElem hlt, List.foldl_append, ← hout, hx]; rfl
      obtain ⟨O, hO⟩ : ∃ O, O = out.map eS := ⟨_, rfl⟩
      have hOl : O.length = out.length := by rw [hO, List.length_map]
      have aO := all_eS out
      rw [← hO] at aO
      simp only [DV.cells] at aO
      have hcap : (out.length + 1) * 16 ≤ 140737488355328 := by omega
      have hYo := low_spOb (σ.length + 6) 73 2 U
      rw [← hY] at hYo
      rw [← hO]
      cases hd : decide (x.a > next)
      · have q0 : woStep (next, out) x = (mx next (w64 (x.a + x.l)), out) := by unfold woStep; simp only [hd]; rfl
        repeat (first | ((first | refine sA hL hn rfl ?_ | refine sB hL hn rfl ?_); simp only [go_sem, Nat.reduceBEq, Int.reduceLT, Int.reduceLE, reduceAdd, reduceEqDiff, reduceIte, reduceSub, Nat.reduceLT, reduceMul, reduceLeDiff, reduceCtorEq, e1, hYl, e2, e3, hd, w1]) | ((first | refine sC ?_ | refine sH ?_ | refine sI ?_ | refine sJ ?_); try simp only [thenK, blockK, loopK, loopG, if_true, if_false, reduceEqDiff]) | refine sD ?_ | refine sE ?_ | refine sF rfl ?_ | refine sG rfl ?_)
        refine Lp.nextg (k + 1, mx next (w64 (x.a + x.l)), out) ⟨by simp only; omega, by rw [← q0]; exact hnx.symm⟩ (by simp only; omega) ?_
        have q3 := low_spOb (σ.length + 6) 73 2 out
        rw [← hO] at q3
        simp only [← hO, ← hY]
        refine Ghost.keep 6 _ hσ hfix (by simp [agree, lk, hYl, hOl, w64]) ?_ ⟨by simp [lk, low_int, low_bool, low_str, low_nils, low_nilp, low_nilf, low_nili, low_undef, low_skip, low_vec, low_agg, low_tup, low_fn, low_vptr, low_iface, low_ptr, low_sl, low_mp, low_it, low_yld, low_emp, lowEnv, lowObs, lowOb, tmpObs, isArr], by simp [lk, low_int, low_bool, low_str, low_nils, low_nilp, low_nilf, low_nili, low_undef, low_skip, low_vec, low_agg, low_tup, low_fn, low_vptr, low_iface, low_ptr, low_sl, low_mp, low_it, low_yld, low_emp, lowEnv, lowObs, lowOb, tmpObs, isArr], by simp [lk, low_int, low_bool, low_str, low_nils, low_nilp, low_nilf, low_nili, low_undef, low_skip, low_vec, low_agg, low_tup, low_fn, low_vptr, low_iface, low_ptr, low_sl, low_mp, low_it, low_yld, low_emp, lowEnv, lowObs, lowOb, tmpObs, isArr], hYo, by simp [lk, low_int, low_bool, low_str, low_nils, low_nilp, low_nilf, low_nili, low_undef, low_skip, low_vec, low_agg, low_tup, low_fn, low_vptr, low_iface, low_ptr, low_sl, low_mp, low_it, low_yld, low_emp, lowEnv, lowObs, lowOb, tmpObs, isArr], q3, trivial⟩ (by simp [lk, low_int, low_bool, low_str, low_nils, low_nilp, low_nilf, low_nili, low_undef, low_skip, low_vec, low_agg, low_tup, low_fn, low_vptr, low_iface, low_ptr, low_sl, low_mp, low_it, low_yld, low_emp, lowEnv, lowObs, lowOb, tmpObs, isArr])
        exact ⟨(low_ptr _ _ _ _).2 (by simp), (low_ptr _ _ _ _).2 (by simp), (low_ptr _ _ _ _).2 (by simp), (low_int _ _).2 trivial, (low_sl _ _ _ _).2 (by simp), (low_int _ _).2 trivial, (low_int _ _).2 trivial, trivial⟩
      · have q0 : woStep (next, out) x = (mx next (w64 (x.a + x.l)), out ++ [⟨next, w64 (x.a - next)⟩]) := by unfold woStep; simp only [hd]; rfl
        repeat (first | ((first | refine sA hL hn rfl ?_ | refine sB hL hn rfl ?_); simp only [go_sem, Nat.reduceBEq, Int.reduceLT, Int.reduceLE, reduceAdd, reduceEqDiff, reduceIte, reduceSub, Nat.reduceLT, reduceMul, reduceLeDiff, reduceCtorEq, e1, hYl, e2, e3, hd, w1, hb2, appDV, aO, hOl, hcap]) | ((first | refine sC ?_ | refine sH ?_ | refine sI ?_ | refine sJ ?_); try simp only [thenK, blockK, loopK, loopG, if_true, if_false, reduceEqDiff]) | refine sD ?_ | refine sE ?_ | refine sF rfl ?_ | refine sG rfl ?_)
        refine Lp.nextg (k + 1, mx next (w64 (x.a + x.l)), out ++ [⟨next, w64 (x.a - next)⟩]) ⟨by simp only; omega, by rw [← q0]; exact hnx.symm⟩ (by simp only; omega) ?_
        have q1 : (out ++ [(⟨next, w64 (x.a - next)⟩ : Sp)]).map eS = O ++ [.agg [.int .i64 next, .int .i64 (w64 (x.a - next))]] := by rw [List.map_append, ← hO]; rfl
        have q2 : (out ++ [(⟨next, w64 (x.a - next)⟩ : Sp)]).length = out.length + 1 := by simp
        have q3 := low_spOb (σ.length + 6) 73 2 (out ++ [⟨next, w64 (x.a - next)⟩])
        rw [q1] at q3
        simp only [q1, q2, ← hY]
        refine Ghost.keep 6 _ hσ hfix (by simp [agree, lk, hYl, hOl, w64]) ?_ ⟨by simp [lk, low_int, low_bool, low_str, low_nils, low_nilp, low_nilf, low_nili, low_undef, low_skip, low_vec, low_agg, low_tup, low_fn, low_vptr, low_iface, low_ptr, low_sl, low_mp, low_it, low_yld, low_emp, lowEnv, lowObs, lowOb, tmpObs, isArr], by simp [lk, low_int, low_bool, low_str, low_nils, low_nilp, low_nilf, low_nili, low_undef, low_skip, low_vec, low_agg, low_tup, low_fn, low_vptr, low_iface, low_ptr, low_sl, low_mp, low_it, low_yld, low_emp, lowEnv, lowObs, lowOb, tmpObs, isArr], by simp [lk, low_int, low_bool, low_str, low_nils, low_nilp, low_nilf, low_nili, low_undef, low_skip, low_vec, low_agg, low_tup, low_fn, low_vptr, low_iface, low_ptr, low_sl, low_mp, low_it, low_yld, low_emp, lowEnv, lowObs, lowOb, tmpObs, isArr], hYo, by simp [lk, low_int, low_bool, low_str, low_nils, low_nilp, low_nilf, low_nili, low_undef, low_skip, low_vec, low_agg, low_tup, low_fn, low_vptr, low_iface, low_ptr, low_sl, low_mp, low_it, low_yld, low_emp, lowEnv, lowObs, lowOb, tmpObs, isArr], q3, trivial⟩ (by simp [lk, low_int, low_bool, low_str, low_nils, low_nilp, low_nilf, low_nili, low_undef, low_skip, low_vec, low_agg, low_tup, low_fn, low_vptr, low_iface, low_ptr, low_sl, low_mp, low_it, low_yld, low_emp, lowEnv, lowObs, lowOb, tmpObs, isArr])
        exact ⟨(low_ptr _ _ _ _).2 (by simp), (low_ptr _ _ _ _).2 (by simp), (low_ptr _ _ _ _).2 (by simp), (low_int _ _).2 trivial, (low_sl _ _ _ _).2 (by simp), (low_int _ _).2 trivial, (low_int _ _).2 trivial, trivial⟩
    · have e1 : decide ((k : Int) < (U.length : Int)) = false := decide_eq_false (by omega)
      obtain rfl : k = U.length := by omega
      rw [List.take_length, hz] at hout
      cases hout
      obtain ⟨Z, hZ⟩ : ∃ Z, Z = zs.map eS := ⟨_, rfl⟩
      have hZl : Z.length = zs.length := by rw [hZ, List.length_map]
      rw [← hZ, ← hZl]
      repeat (first | ((first | refine sA hL hn rfl ?_ | refine sB hL hn rfl ?_); simp only [go_sem, Nat.reduceBEq, Int.reduceLT, Int.reduceLE, reduceAdd, reduceEqDiff, reduceIte, reduceSub, Nat.reduceLT, reduceMul, reduceLeDiff, reduceCtorEq, e1]) | ((first | refine sC ?_ | refine sH ?_ | refine sI ?_ | refine sJ ?_); try simp only [thenK, blockK, loopK, loopG, if_true, if_false, reduceEqDiff]) | refine sD ?_ | refine sE ?_ | refine sF rfl ?_ | refine sG rfl ?_)
      rcases hD with ⟨hD1, rfl, rfl⟩ | ⟨hD1, rfl, rfl⟩
      · refine sK hP hL hn rfl rfl (full_ok n (σ.length + 5) 73 Z _ (by simp [own_get]) (by omega)) rfl rfl rfl rfl ?_; simp (maxSteps := 2000000) only [go_sem, Nat.reduceBEq, Int.reduceLT, Int.reduceLE, reduceAdd, reduceEqDiff, reduceIte, reduceSub, Nat.reduceLT, reduceMul, reduceLeDiff, reduceCtorEq]
        repeat (first | ((first | refine sA hL hn rfl ?_ | refine sB hL hn rfl ?_); simp only [go_sem, Nat.reduceBEq, Int.reduceLT, Int.reduceLE, reduceAdd, reduceEqDiff, reduceIte, reduceSub, Nat.reduceLT, reduceMul, reduceLeDiff, reduceCtorEq]) | ((first | refine sC ?_ | refine sH ?_ | refine sI ?_ | refine sJ ?_); try simp only [thenK, blockK, loopK, loopG, if_true, if_false, reduceEqDiff]) | refine sD ?_ | refine sE ?_ | refine sF rfl ?_ | refine sG rfl ?_)
        refine ⟨.ret (.tup [.agg [.int .i64 n, .sl (σ.length + 5) Z.length 0 Z.length], .int .i64 0]), σ ++ [.arr 3 1 [.int .i64 n], .arr 32 2 [.agg [.int .i64 n, .sl (σ.length + 5) Z.length 0 Z.length]], .arr 32 2 [.agg [.int .i64 n, .sl (σ.length + 5) Z.length 0 Z.length]], .arr 73 2 (Y), .arr 73 2 [.agg [.int .i64 n, .int .i64 0]], .arr 73 2 Z], ⟨by rw [h5, hZl], by rw [hσ0]; exact ⟨_, rfl⟩⟩, ?_⟩
        refine ⟨_, .tup [.agg [.int .i64 n, .sl (σ.length + 5) Z.length 0 Z.length], .int .i64 0], _, Ghost.refl _ _, ?_, GhostV.refl _ _ _, rfl⟩
        show resDV L _ [Go.ResultVar.cell 4 32, Go.ResultVar.tmp 5] = _
        simp only [resDV, resL, resDV1, go_sem, Nat.reduceBEq, Int.reduceLT, Int.reduceLE, reduceAdd, reduceEqDiff, reduceIte, reduceSub, Nat.reduceLT, reduceMul, reduceLeDiff, reduceCtorEq]
      · refine sK hP hL hn rfl rfl (fullBad_ok n (σ.length + 5) 73 Z _ (by simp [own_get]) (by omega)) rfl rfl rfl rfl ?_; simp (maxSteps := 2000000) only [go_sem, Nat.reduceBEq, Int.reduceLT, Int.reduceLE, reduceAdd, reduceEqDiff, reduceIte, reduceSub, Nat.reduceLT, reduceMul, reduceLeDiff, reduceCtorEq]
        repeat (first | ((first | refine sA hL hn rfl ?_ | refine sB hL hn rfl ?_); simp only [go_sem, Nat.reduceBEq, Int.reduceLT, Int.reduceLE, reduceAdd, reduceEqDiff, reduceIte, reduceSub, Nat.reduceLT, reduceMul, reduceLeDiff, reduceCtorEq]) | ((first | refine sC ?_ | refine sH ?_ | refine sI ?_ | refine sJ ?_); try simp only [thenK, blockK, loopK, loopG, if_true, if_false, reduceEqDiff]) | refine sD ?_ | refine sE ?_ | refine sF rfl ?_ | refine sG rfl ?_)
        refine ⟨.ret (.tup [.agg [.int .i64 0, .nils], .int .i64 51]), σ ++ [.arr 3 1 [.int .i64 n], .arr 32 2 [.agg [.int .i64 0, .nils]], .arr 32 2 [.agg [.int .i64 n, .sl (σ.length + 5) Z.length 0 Z.length]], .arr 73 2 (Y), .arr 73 2 [.agg [.int .i64 n, .int .i64 0]], .arr 73 2 Z], ⟨rfl, by rw [hσ0]; exact ⟨_, rfl⟩⟩, ?_⟩
        refine ⟨_, .tup [.agg [.int .i64 0, .nils], .int .i64 51], _, Ghost.refl _ _, ?_, GhostV.refl _ _ _, rfl⟩
        show resDV L _ [Go.ResultVar.cell 4 32, Go.ResultVar.tmp 5] = _
        simp only [resDV, resL, resDV1, go_sem, Nat.reduceBEq, Int.reduceLT, Int.reduceLE, reduceAdd, reduceEqDiff, reduceIte, reduceSub, Nat.reduceLT, reduceMul, reduceLeDiff, reduceCtorEq]
theorem woNone_ok (n : Int) (c : Nat) (h : newE n = 0)  (U : List Sp) (hU : U = [⟨n, 0⟩]) (hUl : U.length ≤ 1025) (nx : Int) (zs : List Sp) (hz : U.foldl woStep (0, []) = (nx, zs)) (e : Int) (D : DV) (hD : (zs.length ≤ 1024 ∧ e = 0 ∧ D = .agg [.int .i64 n, .sl 5 zs.length 0 zs.length]) ∨ (¬ zs.length ≤ 1024 ∧ e = 51 ∧ D = .agg [.int .i64 0, .nils])) :
    OkE Tryz.prog 30 [.int .i64 n, .vec c 2 (([] : List Sp).map eS)] [] (fun o O => o = .ret (.tup [D, .int .i64 e]) ∧ ∃ t, O[5]? = some (.arr t 2 (zs.map eS))) := by
  obtain ⟨sp, hs1, hs2, hnew⟩ := new_ok n h
  have hs3 : sp.cells = [sp] := by cases sp <;> first | rfl | cases hs1
  have hXl : (([] : List Sp).map eS).length = ([] : List Sp).length := List.length_map _
  obtain ⟨σ, hσ0⟩ : ∃ σ : List Ob, σ = [] := ⟨_, rfl⟩
  have h5 : σ.length = 0 := by rw [hσ0]; rfl
  rw [← hσ0]
  refine OkE.of_body layOk Tryz.func30 rfl (by decide) (by simp [Tryz.ntmps30]) fun C hP hn hσ hfix hdd => ?_
  rw [show Tryz.f30.ntmps = 72 from rfl] at hn
  have hL : LayOk C.P L := hP ▸ layOk
  have hm : C.P.follows .mixedOrders = true := hP ▸ mixed
  have hb : buildDV L 32 [] = some (.agg [.int .i64 0, .nils]) := rfl
  have hb3 : buildDV L 73 [(0, .int .i64 n)] = some (.agg [.int .i64 n, .int .i64 0]) := rfl
  have hb2 : ∀ a b : Int, buildDV L 73 [(0, .int .i64 a), (1, .int .i64 b)] = some (.agg [.int .i64 a, .int .i64 b]) := fun _ _ => rfl
  have d1 : decide (((([] : List Sp).map eS).length : Int) > 1024) = false := decide_eq_false (by first | omega | simp)
  simp only [DV.one] at hs1
  simp only [DV.cells] at hs3
  repeat (first | ((first | refine sA hL hn rfl ?_ | refine sB hL hn rfl ?_); simp only [go_sem, Nat.reduceBEq, Int.reduceLT, Int.reduceLE, reduceAdd, reduceEqDiff, reduceIte, reduceSub, Nat.reduceLT, reduceMul, reduceLeDiff, reduceCtorEq]) | ((first | refine sC ?_ | refine sH ?_ | refine sI ?_ | refine sJ ?_); try simp only [thenK, blockK, loopK, loopG, if_true, if_false, reduceEqDiff]) | refine sD ?_ | refine sE ?_ | refine sF rfl ?_ | refine sG rfl ?_)
  refine sK hP hL hn rfl rfl (hnew _) rfl rfl rfl rfl ?_; simp (maxSteps := 2000000) only [go_sem, Nat.reduceBEq, Int.reduceLT, Int.reduceLE, reduceAdd, reduceEqDiff, reduceIte, reduceSub, Nat.reduceLT, reduceMul, reduceLeDiff, reduceCtorEq, hs1, hs3]
  repeat (first | ((first | refine sA hL hn rfl ?_ | refine sB hL hn rfl ?_); simp only [go_sem, Nat.reduceBEq, Int.reduceLT, Int.reduceLE, reduceAdd, reduceEqDiff, reduceIte, reduceSub, Nat.reduceLT, reduceMul, reduceLeDiff, reduceCtorEq, hb, d1, hs1, hs3]) | ((first | refine sC ?_ | refine sH ?_ | refine sI ?_ | refine sJ ?_); try simp only [thenK, blockK, loopK, loopG, if_true, if_false, reduceEqDiff]) | refine sD ?_ | refine sE ?_ | refine sF rfl ?_ | refine sG rfl ?_)
  refine sK hP hL hn rfl rfl (containsSpan_ok c [] 50 [.ptr σ.length 1 0 0] (fun x => !insideF x n) _ (fun x _ => without1_ok x σ.length n _ (by simp [own_get0])) (by simp [low_ptr])) rfl rfl rfl rfl ?_; simp (maxSteps := 2000000) only [go_sem, Nat.reduceBEq, Int.reduceLT, Int.reduceLE, reduceAdd, reduceEqDiff, reduceIte, reduceSub, Nat.reduceLT, reduceMul, reduceLeDiff, reduceCtorEq, List.any_nil]
  repeat (first | ((first | refine sA hL hn rfl ?_ | refine sB hL hn rfl ?_); simp only [go_sem, Nat.reduceBEq, Int.reduceLT, Int.reduceLE, reduceAdd, reduceEqDiff, reduceIte, reduceSub, Nat.reduceLT, reduceMul, reduceLeDiff, reduceCtorEq, hb, List.any_nil]) | ((first | refine sC ?_ | refine sH ?_ | refine sI ?_ | refine sJ ?_); try simp only [thenK, blockK, loopK, loopG, if_true, if_false, reduceEqDiff]) | refine sD ?_ | refine sE ?_ | refine sF rfl ?_ | refine sG rfl ?_)
  refine SWops.callE hP (by rw [hn]; rfl) (cloneSpanE_ok c _) rfl rfl rfl rfl (fun d σ' h => by obtain ⟨_, h | h⟩ := h <;> cases h) fun d σ' h => ?_
  obtain ⟨rfl, hd⟩ := h
  have hcap0 : 1 * 16 ≤ 140737488355328 := by omega
  have hyl2 : True := trivial
  rcases hd with hd | hd
  all_goals
    cases hd
    refine SWops.go hL (by rw [hn]; rfl) ?_
    simp only [go_sem, Nat.reduceBEq, Int.reduceLT, Int.reduceLE, reduceAdd, reduceEqDiff, reduceIte, reduceSub, Nat.reduceLT, reduceMul, reduceLeDiff, reduceCtorEq]
    repeat (first | ((first | refine sA hL hn rfl ?_ | refine sB hL hn rfl ?_); simp only [go_sem, Nat.reduceBEq, Int.reduceLT, Int.reduceLE, reduceAdd, reduceEqDiff, reduceIte, reduceSub, Nat.reduceLT, reduceMul, reduceLeDiff, reduceCtorEq]) | ((first | refine sC ?_ | refine sH ?_ | refine sI ?_ | refine sJ ?_); try simp only [thenK, blockK, loopK, loopG, if_true, if_false, reduceEqDiff]) | refine sD ?_ | refine sE ?_ | refine sF rfl ?_ | refine sG rfl ?_)
    refine sK hP hL hn rfl rfl (sortSpanN_ok _ (by first | exact .inl rfl | exact .inr rfl) _) rfl rfl rfl rfl ?_; simp (maxSteps := 2000000) only [go_sem, Nat.reduceBEq, Int.reduceLT, Int.reduceLE, reduceAdd, reduceEqDiff, reduceIte, reduceSub, Nat.reduceLT, reduceMul, reduceLeDiff, reduceCtorEq]
    repeat (first | ((first | refine sA hL hn rfl ?_ | refine sB hL hn rfl ?_); simp only [go_sem, Nat.reduceBEq, Int.reduceLT, Int.reduceLE, reduceAdd, reduceEqDiff, reduceIte, reduceSub, Nat.reduceLT, reduceMul, reduceLeDiff, reduceCtorEq, hb3, appDV, hcap0, Array.size_empty, List.size_toArray]) | ((first | refine sC ?_ | refine sH ?_ | refine sI ?_ | refine sJ ?_); try simp only [thenK, blockK, loopK, loopG, if_true, if_false, reduceEqDiff]) | refine sD ?_ | refine sE ?_ | refine sF rfl ?_ | refine sG rfl ?_)
    have hYs : True := trivial
    have hUx : U.length = 1 := by rw [hU]; simp
    have hUm : U.map eS = [.agg [.int .i64 n, .int .i64 0]] := by rw [hU]; simp [eS, eI]
    obtain ⟨Y, hY⟩ : ∃ Y, Y = U.map eS := ⟨_, rfl⟩
    have hYl : Y.length = U.length := by rw [hY, List.length_map]
    refine SW.lpg (fun x : Nat × Int × List Sp => ⟨[(2, .ptr σ.length 1 0 0), (4, .ptr (σ.length + 1) 1 0 0), (6, .ptr (σ.length + 2) 1 0 0), (8, .int .i64 x.2.1), (37, .sl (σ.length + 4) U.length 0 U.length), (38, .int .i64 U.length), (39, .int .i64 x.1)],
      σ ++ [.arr 3 1 [.int .i64 n], .arr 32 2 [.agg [.int .i64 0, .nils]], .arr 32 2 [.agg [.int .i64 n, .sl (σ.length + 5) x.2.2.length 0 x.2.2.length]], .arr 73 2 [.agg [.int .i64 n, .int .i64 0]], .arr 73 2 (U.map eS), .arr 73 2 (x.2.2.map eS)]⟩) (fun x => U.length - x.1) (fun x => x.1 ≤ U.length ∧ x.2 = (U.take x.1).foldl woStep (0, [])) (0, 0, []) ⟨by simp, rfl⟩ ?_ ?_
    · refine Ghost.trans (Ghost.newNilIn (σ.length + 2) 1 73 2 (t := 32) (k := 2) (cs := [.int .i64 n, .nils]) (by simp [own_get]) rfl) (.of (by simp [own_set, hU, hYs, hyl2, eS, eI]) (by simp [agree, lk, hU, hYs, hyl2]))
    rintro ⟨k, next, out⟩ ⟨hk, hout⟩
    simp only at hk hout
    have hol : out.length ≤ 1025 := by
      have := woFold_len (U.take k) (0, [])
      rw [← hout] at this
      simp at this
      omega
    rw [← hY]
    by_cases hlt : k < U.length
    · have e1 : decide ((k : Int) < (U.length : Int)) = true := decide_eq_true (by omega)
      have e2 : (0 ≤ (k : Int) ∧ (k : Int) < (U.length : Int)) := by omega
      obtain ⟨x, hx⟩ : ∃ x, x = U[k] := ⟨_, rfl⟩
      have e3 : Y[k]? = some (.agg [.int .i64 x.a, .int .i64 x.l]) := by rw [hY, hx]; simp [hlt, eS, eI]
      have w1 : IntKind.i64.wrap ((k : Int) + 1) = ((k + 1 : Nat) : Int) := wi (by omega) (by omega)
      have hnx : (U.take (k + 1)).foldl woStep (0, []) = woStep (next, out) x := by rw [List.take_succ_eq_append_getElem hlt, List.foldl_append, ← hout, hx]; rfl
      obtain ⟨O, hO⟩ : ∃ O, O = out.map eS := ⟨_, rfl⟩
      have hOl : O.length = out.length := by rw [hO, List.length_map]
      have aO := all_eS out
      rw [← hO] at aO
      simp only [DV.cells] at aO
      have hcap : (out.length + 1) * 16 ≤ 140737488355328 := by omega
      have hYo := low_spOb (σ.length + 6) 73 2 U
      rw [← hY] at hYo
      rw [← hO]
      cases hd : decide (x.a > next)
      · have q0 : woStep (next, out) x = (mx next (w64 (x.a + x.l)), out) := by unfold woStep; simp only [hd]; rfl
        repeat (first | ((first | refine sA hL hn rfl ?_ | refine sB hL hn rfl ?_); simp only [go_sem, Nat.reduceBEq, Int.reduceLT, Int.reduceLE, reduceAdd, reduceEqDiff, reduceIte, reduceSub, Nat.reduceLT, reduceMul, reduceLeDiff, reduceCtorEq, e1, hYl, e2, e3, hd, w1]) | ((first | refine sC ?_ | refine sH ?_ | refine sI ?_ | refine sJ ?_); try simp only [thenK, blockK, loopK, loopG, if_true, if_false, reduceEqDiff]) | refine sD ?_ | refine sE ?_ | refine sF rfl ?_ | refine sG rfl ?_)
        refine Lp.nextg (k + 1, mx next (w64 (x.a + x.l)), out) ⟨by simp only; omega, by rw [← q0]; exact hnx.symm⟩ (by simp only; omega) ?_
        have q3 := low_spOb (σ.length + 6) 73 2 out
        rw [← hO] at q3
        simp only [← hO, ← hY]
        refine Ghost.keep 6 _ hσ hfix (by simp [agree, lk, hYl, hOl, w64]) ?_ ⟨by simp [lk, low_int, low_bool, low_str, low_nils, low_nilp, low_nilf, low_nili, low_undef, low_skip, low_vec, low_agg, low_tup, low_fn, low_vptr, low_iface, low_ptr, low_sl, low_mp, low_it, low_yld, low_emp, lowEnv, lowObs, lowOb, tmpObs, isArr], by simp [lk, low_int, low_bool, low_str, low_nils, low_nilp, low_nilf, low_nili, low_undef, low_skip, low_vec, low_agg, low_tup, low_fn, low_vptr, low_iface, low_ptr, low_sl, low_mp, low_it, low_yld, low_emp, lowEnv, lowObs, lowOb, tmpObs, isArr], by simp [lk, low_int, low_bool, low_str, low_nils, low_nilp, low_nilf, low_nili, low_undef, low_skip, low_vec, low_agg, low_tup, low_fn, low_vptr, low_iface, low_ptr, low_sl, low_mp, low_it, low_yld, low_emp, lowEnv, lowObs, lowOb, tmpObs, isArr], by simp [lk, low_int, low_bool, low_str, low_nils, low_nilp, low_nilf, low_nili, low_undef, low_skip, low_vec, low_agg, low_tup, low_fn, low_vptr, low_iface, low_ptr, low_sl, low_mp, low_it, low_yld, low_emp, lowEnv, lowObs, lowOb, tmpObs, isArr], hYo, q3, trivial⟩ (by simp [lk, low_int, low_bool, low_str, low_nils, low_nilp, low_nilf, low_nili, low_undef, low_skip, low_vec, low_agg, low_tup, low_fn, low_vptr, low_iface, low_ptr, low_sl, low_mp, low_it, low_yld, low_emp, lowEnv, lowObs, lowOb, tmpObs, isArr])
        exact ⟨(low_ptr _ _ _ _).2 (by simp), (low_ptr _ _ _ _).2 (by simp), (low_ptr _ _ _ _).2 (by simp), (low_int _ _).2 trivial, (low_sl _ _ _ _).2 (by simp), (low_int _ _).2 trivial, (low_int _ _).2 trivial, trivial⟩
      · have q0 : woStep (next, out) x = (mx next (w64 (x.a + x.l)), out ++ [⟨next, w64 (x.a - next)⟩]) := by unfold woStep; simp only [hd]; rfl
        repeat (first | ((first | refine sA hL hn rfl ?_ | refine sB hL hn rfl ?_); simp only [go_sem, Nat.reduceBEq, Int.reduceLT, Int.reduceLE, reduceAdd, reduceEqDiff, reduceIte, reduceSub, Nat.reduceLT, reduceMul, reduceLeDiff, reduceCtorEq, e1, hYl, e2, e3, hd, w1, hb2, appDV, aO, hOl, hcap]) | ((first | refine sC ?_ | refine sH ?_ | refine sI ?_ | refine sJ ?_); try simp only [thenK, blockK, loopK, loopG, if_true, if_false, reduceEqDiff]) | refine sD ?_ | refine sE ?_ | refine sF rfl ?_ | refine sG rfl ?_)
        refine Lp.nextg (k + 1, mx next (w64 (x.a + x.l)), out ++ [⟨next, w64 (x.a - next)⟩]) ⟨by simp only; omega, by rw [← q0]; exact hnx.symm⟩ (by simp only; omega) ?_
        have q1 : (out ++ [(⟨next, w64 (x.a - next)⟩ : Sp)]).map eS = O ++ [.agg [.int .i64 next, .int .i64 (w64 (x.a - next))]] := by rw [List.map_append, ← hO]; rfl
        have q2 : (out ++ [(⟨next, w64 (x.a - next)⟩ : Sp)]).length = out.length + 1 := by simp
        have q3 := low_spOb (σ.length + 6) 73 2 (out ++ [⟨next, w64 (x.a - next)⟩])
        rw [q1] at q3
        simp only [q1, q2, ← hY]
        refine Ghost.keep 6 _ hσ hfix (by simp [agree, lk, hYl, hOl, w64]) ?_ ⟨by simp [lk, low_int, low_bool, low_str, low_nils, low_nilp, low_nilf, low_nili, low_undef, low_skip, low_vec, low_agg, low_tup, low_fn, low_vptr, low_iface, low_ptr, low_sl, low_mp, low_it, low_yld, low_emp, lowEnv, lowObs, lowOb, tmpObs, isArr], by simp [lk, low_int, low_bool, low_str, low_nils, low_nilp, low_nilf, low_nili, low_undef, low_skip, low_vec, low_agg, low_tup, low_fn, low_vptr, low_iface, low_ptr, low_sl, low_mp, low_it, low_yld, low_emp, lowEnv, lowObs, lowOb, tmpObs, isArr], by simp [lk, low_int, low_bool, low_str, low_nils, low_nilp, low_nilf, low_nili, low_undef, low_skip, low_vec, low_agg, low_tup, low_fn, low_vptr, low_iface, low_ptr, low_sl, low_mp, low_it, low_yld, low_emp, lowEnv, lowObs, lowOb, tmpObs, isArr], by simp [lk, low_int, low_bool, low_str, low_nils, low_nilp, low_nilf, low_nili, low_undef, low_skip, low_vec, low_agg, low_tup, low_fn, low_vptr, low_iface, low_ptr, low_sl, low_mp, low_it, low_yld, low_emp, lowEnv, lowObs, lowOb, tmpObs, isArr], hYo, q3, trivial⟩ (by simp [lk, low_int, low_bool, low_str, low_nils, low_nilp, low_nilf, low_nili, low_undef, low_skip, low_vec, low_agg, low_tup, low_fn, low_vptr, low_iface, low_ptr, low_sl, low_mp, low_it, low_yld, low_emp, lowEnv, lowObs, lowOb, tmpObs, isArr])
        exact ⟨(low_ptr _ _ _ _).2 (by simp), (low_ptr _ _ _ _).2 (by simp), (low_ptr _ _ _ _).2 (by simp), (low_int _ _).2 trivial, (low_sl _ _ _ _).2 (by simp), (low_int _ _).2 trivial, (low_int _ _).2 trivial, trivial⟩
    · have e1 : decide ((k : Int) < (U.length : Int)) = false := decide_eq_false (by omega)
      obtain rfl : k = U.length := by omega
      rw [List.take_length, hz] at hout
      cases hout
      obtain ⟨Z, hZ⟩ : ∃ Z, Z = zs.map eS := ⟨_, rfl⟩
      have hZl : Z.length = zs.length := by rw [hZ, List.length_map]
      rw [← hZ, ← hZl]
      repeat (first | ((first | refine sA hL hn rfl ?_ | refine sB hL hn rfl ?_); simp only [go_sem, Nat.reduceBEq, Int.reduceLT, Int.reduceLE, reduceAdd, reduceEqDiff, reduceIte, reduceSub, Nat.reduceLT, reduceMul, reduceLeDiff, reduceCtorEq, e1]) | ((first | refine sC ?_ | refine sH ?_ | refine sI ?_ | refine sJ ?_); try simp only [thenK, blockK, loopK, loopG, if_true, if_false, reduceEqDiff]) | refine sD ?_ | refine sE ?_ | refine sF rfl ?_ | refine sG rfl ?_)
      rcases hD with ⟨hD1, rfl, rfl⟩ | ⟨hD1, rfl, rfl⟩
      · refine sK hP hL hn rfl rfl (full_ok n (σ.length + 5) 73 Z _ (by simp [own_get]) (by omega)) rfl rfl rfl rfl ?_; simp (maxSteps := 2000000) only [go_sem, Nat.reduceBEq, Int.reduceLT, Int.reduceLE, reduceAdd, reduceEqDiff, reduceIte, reduceSub, Nat.reduceLT, reduceMul, reduceLeDiff, reduceCtorEq]
        repeat (first | ((first | refine sA hL hn rfl ?_ | refine sB hL hn rfl ?_); simp only [go_sem, Nat.reduceBEq, Int.reduceLT, Int.reduceLE, reduceAdd, reduceEqDiff, reduceIte, reduceSub, Nat.reduceLT, reduceMul, reduceLeDiff, reduceCtorEq]) | ((first | refine sC ?_ | refine sH ?_ | refine sI ?_ | refine sJ ?_); try simp only [thenK, blockK, loopK, loopG, if_true, if_false, reduceEqDiff]) | refine sD ?_ | refine sE ?_ | refine sF rfl ?_ | refine sG rfl ?_)
        refine ⟨.ret (.tup [.agg [.int .i64 n, .sl (σ.length + 5) Z.length 0 Z.length], .int .i64 0]), σ ++ [.arr 3 1 [.int .i64 n], .arr 32 2 [.agg [.int .i64 n, .sl (σ.length + 5) Z.length 0 Z.length]], .arr 32 2 [.agg [.int .i64 n, .sl (σ.length + 5) Z.length 0 Z.length]], .arr 73 2 [.agg [.int .i64 n, .int .i64 0]], .arr 73 2 (Y), .arr 73 2 Z], ⟨by rw [h5, hZl], by rw [hσ0]; exact ⟨_, rfl⟩⟩, ?_⟩
        refine ⟨_, .tup [.agg [.int .i64 n, .sl (σ.length + 5) Z.length 0 Z.length], .int .i64 0], _, Ghost.refl _ _, ?_, GhostV.refl _ _ _, rfl⟩
        show resDV L _ [Go.ResultVar.cell 4 32, Go.ResultVar.tmp 5] = _
        simp only [resDV, resL, resDV1, go_sem, Nat.reduceBEq, Int.reduceLT, Int.reduceLE, reduceAdd, reduceEqDiff, reduceIte, reduceSub, Nat.reduceLT, reduceMul, reduceLeDiff, reduceCtorEq]
      · refine sK hP hL hn rfl rfl (fullBad_ok n (σ.length + 5) 73 Z _ (by simp [own_get]) (by omega)) rfl rfl rfl rfl ?_; simp (maxSteps := 2000000) only [go_sem, Nat.reduceBEq, Int.reduceLT, Int.reduceLE, reduceAdd, reduceEqDiff, reduceIte, reduceSub, Nat.reduceLT, reduceMul, reduceLeDiff, reduceCtorEq]
        repeat (first | ((first | refine sA hL hn rfl ?_ | refine sB hL hn rfl ?_); simp only [go_sem, Nat.reduceBEq, Int.reduceLT, Int.reduceLE, reduceAdd, reduceEqDiff, reduceIte, reduceSub, Nat.reduceLT, reduceMul, reduceLeDiff, reduceCtorEq]) | ((first | refine sC ?_ | refine sH ?_ | refine sI ?_ | refine sJ ?_); try simp only [thenK, blockK, loopK, loopG, if_true, if_false, reduceEqDiff]) | refine sD ?_ | refine sE ?_ | refine sF rfl ?_ | refine sG rfl ?_)
        refine ⟨.ret (.tup [.agg [.int .i64 0, .nils], .int .i64 51]), σ ++ [.arr 3 1 [.int .i64 n], .arr 32 2 [.agg [.int .i64 0, .nils]], .arr 32 2 [.agg [.int .i64 n, .sl (σ.length + 5) Z.length 0 Z.length]], .arr 73 2 [.agg [.int .i64 n, .int .i64 0]], .arr 73 2 (Y), .arr 73 2 Z], ⟨rfl, by rw [hσ0]; exact ⟨_, rfl⟩⟩, ?_⟩
        refine ⟨_, .tup [.agg [.int .i64 0, .nils], .int .i64 51], _, Ghost.refl _ _, ?_, GhostV.refl _ _ _, rfl⟩
        show resDV L _ [Go.ResultVar.cell 4 32, Go.ResultVar.tmp 5] = _
        simp only [resDV, resL, resDV1, go_sem, Nat.reduceBEq, Int.reduceLT, Int.reduceLE, reduceAdd, reduceEqDiff, reduceIte, reduceSub, Nat.reduceLT, reduceMul, reduceLeDiff, reduceCtorEq]
end Go.VL
end
section
set_option linter.unusedSimpArgs false
set_option linter.unusedVariables false
set_option maxRecDepth 10000
set_option maxHeartbeats 2000000
namespace Go.VL
open Go Go.Proofs
open Nat (reduceAdd reduceEqDiff reduceSub reduceMul reduceLeDiff)

theorem without_ok (n : Int) (c : Nat) (xs : List Sp) : ∃ (e : Int) (D : DV), ((e = 0 ∧ ∃ zs : List Sp, D = .agg [.int .i64 n, .vec 0 2 (zs.map eS)]) ∨ (e ≠ 0 ∧ D = .agg [.int .i64 0, .nils])) ∧
    ∀ σ, Ok Tryz.prog 30 [.int .i64 n, .vec c 2 (xs.map eS)] σ (.ret (.tup [D, .int .i64 e])) σ := by
  have ha : ∀ x ∈ [DV.int .i64 n, DV.vec c 2 (xs.map eS)], Low 0 x := by simp; exact ⟨(low_int _ _).2 trivial, low_spans 0 c 2 xs⟩
  by_cases h : newE n = 0
  rotate_left
  · exact ⟨4, _, .inr ⟨by decide, rfl⟩, woNew_ok n c xs h⟩
  by_cases hx : xs.length ≤ 1024
  rotate_left
  · exact ⟨3, _, .inr ⟨by decide, rfl⟩, woLong_ok n c xs h hx⟩
  cases hany : xs.any fun x => !insideF x n
  rotate_left
  · exact ⟨4, _, .inr ⟨by decide, rfl⟩, woOut_ok n c xs h hx hany⟩
  have key : ∀ (U : List Sp) (nx : Int) (zs : List Sp), U.foldl woStep (0, []) = (nx, zs) → (∀ (e : Int) (D : DV), ((zs.length ≤ 1024 ∧ e = 0 ∧ D = .agg [.int .i64 n, .sl 5 zs.length 0 zs.length]) ∨ (¬ zs.length ≤ 1024 ∧ e = 51 ∧ D = .agg [.int .i64 0, .nils])) →
      OkE Tryz.prog 30 [.int .i64 n, .vec c 2 (xs.map eS)] [] (fun o O => o = .ret (.tup [D, .int .i64 e]) ∧ ∃ t, O[5]? = some (.arr t 2 (zs.map eS)))) →
      ∃ (e : Int) (D : DV), ((e = 0 ∧ ∃ zs : List Sp, D = .agg [.int .i64 n, .vec 0 2 (zs.map eS)]) ∨ (e ≠ 0 ∧ D = .agg [.int .i64 0, .nils])) ∧
        ∀ σ, Ok Tryz.prog 30 [.int .i64 n, .vec c 2 (xs.map eS)] σ (.ret (.tup [D, .int .i64 e])) σ := by
    intro U nx zs hz hok
    by_cases hl : zs.length ≤ 1024
    · refine ⟨0, _, .inl ⟨rfl, zs, rfl⟩, fun σ => (OkE.thaw (c := 0) (R := fun D => D = .tup [.agg [.int .i64 n, .vec 0 2 (zs.map eS)], .int .i64 0]) ((hok 0 _ (.inl ⟨hl, rfl, rfl⟩)).mono ?_) ha σ).ok fun o σ' ⟨e, D', e1, e2⟩ => by subst e2; exact ⟨e1, e⟩⟩
      rintro o O ⟨rfl, t, ht⟩
      refine ⟨_, _, rfl, Fz.two (.agg (ys := [.int .i64 n, .vec 0 2 (zs.map eS)]) rfl fun i x y hx hy => ?_) (.low ((low_int _ _).2 trivial)), rfl⟩
      match i, hx, hy with
      | 0, hx, hy => cases hx; cases hy; exact .low ((low_int _ _).2 trivial)
      | 1, hx, hy => cases hx; cases hy; exact Fz.list eS (low_eS 0) ht
      | i + 2, hx, _ => simp at hx
    · refine ⟨51, _, .inr ⟨by decide, rfl⟩, fun σ => (OkE.thaw (c := 0) (R := fun D => D = .tup [.agg [.int .i64 0, .nils], .int .i64 51]) ((hok 51 _ (.inr ⟨hl, rfl, rfl⟩)).mono ?_) ha σ).ok fun o σ' ⟨e, D', e1, e2⟩ => by subst e2; exact ⟨e1, e⟩⟩
      rintro o O ⟨rfl, t, ht⟩
      exact ⟨_, _, rfl, .low (by simp [low_tup, low_agg, low_int, low_nils]), rfl⟩
  rcases Nat.eq_zero_or_pos xs.length with h0 | h0
  · obtain rfl := List.length_eq_zero_iff.1 h0
    obtain ⟨p, hp⟩ : ∃ p, [(⟨n, 0⟩ : Sp)].foldl woStep (0, []) = p := ⟨_, rfl⟩
    exact key _ p.1 p.2 hp fun e D hD => woNone_ok n c h _ rfl (by simp) p.1 p.2 hp e D hD
  · obtain ⟨ys, e1, _, hs⟩ := sortSpans xs (by omega) (g := 53) fun x y => without2_ok _ _ _ _ _
    obtain ⟨p, hp⟩ : ∃ p, (ys ++ [(⟨n, 0⟩ : Sp)]).foldl woStep (0, []) = p := ⟨_, rfl⟩
    exact key _ p.1 p.2 hp fun e D hD => woSome_ok n c h xs ys h0 hx hany e1 hs _ rfl (by simp; omega) p.1 p.2 hp e D hD

/-! ### free.Check -/
def fcGo (n : Int) : Int → List Sp → Bool
  | _, [] => true
  | last, x :: r => if !insideF x n then false else if decide (x.a ≤ last) then false else fcGo n (w64 (x.a + x.l)) r
def freeCheckF (n : Int) (xs : List Sp) : Int := if decide (n < 0) then 9 else if decide (n > 65536) then 9 else if xs.length > 1024 then 9 else if fcGo n (-1) xs then 0 else 9
theorem freeCheck_ok (n : Int) (c : Nat) (xs : List Sp) (σ : List Ob) : Ok Tryz.prog 19 [.agg [.int .i64 n, .vec c 2 (xs.map eS)]] σ (.ret (.int .i64 (freeCheckF n xs))) σ := by
  have hXX := low_spans 0 c 2 xs
  obtain ⟨X, hX⟩ : ∃ X, X = xs.map eS := ⟨_, rfl⟩
  have hXl : X.length = xs.length := by rw [hX, List.length_map]
  rw [← hX] at hXX ⊢
  have hXm : ∀ m, (∀ x ∈ X, Low m x) ↔ True := fun m => iff_of_true (fun x hx id _ => (low_vec _ _ _).1 hXX x hx id (Nat.zero_le _)) trivial
  unfold freeCheckF
  refine Ok.of_body layOk Tryz.func19 rfl (by decide) (by simp [Tryz.ntmps19]) fun C hP hn hσ hfix hdd => ?_
  rw [show Tryz.f19.ntmps = 44 from rfl] at hn
  have hL : LayOk C.P L := hP ▸ layOk
  have hm : C.P.follows .mixedOrders = true := hP ▸ mixed
  cases d1 : decide (n < 0)
  rotate_left
  · repeat (first | ((first | refine sA hL hn rfl ?_ | refine sB hL hn rfl ?_); simp only [go_sem, Nat.reduceBEq, Int.reduceLT, Int.reduceLE, reduceAdd, reduceEqDiff, reduceIte, reduceSub, Nat.reduceLT, reduceMul, reduceLeDiff, reduceCtorEq, d1]) | ((first | refine sC ?_ | refine sH ?_ | refine sI ?_ | refine sJ ?_); try simp only [thenK, blockK, loopK, loopG, if_true, if_false, reduceEqDiff]) | refine sD ?_ | refine sE ?_ | refine sF rfl ?_ | refine sG rfl ?_)
    exact ⟨_, _, _, Ghost.refl _ _, rfl, GhostV.none (by rw [hn]; decide) hσ hfix (by simp [lk, low_int, low_bool, low_str, low_nils, low_nilp, low_nilf, low_nili, low_undef, low_skip, low_vec, low_agg, low_tup, low_fn, low_vptr, low_iface, low_ptr, low_sl, low_mp, low_it, low_yld, low_emp, lowEnv, lowObs, lowOb, tmpObs, isArr, hXm]) (by simp [lk, low_int, low_bool, low_str, low_nils, low_nilp, low_nilf, low_nili, low_undef, low_skip, low_vec, low_agg, low_tup, low_fn, low_vptr, low_iface, low_ptr, low_sl, low_mp, low_it, low_yld, low_emp, lowEnv, lowObs, lowOb, tmpObs, isArr, hXm]), rfl⟩
  cases d2 : decide (n > 65536)
  rotate_left
  · repeat (first | ((first | refine sA hL hn rfl ?_ | refine sB hL hn rfl ?_); simp only [go_sem, Nat.reduceBEq, Int.reduceLT, Int.reduceLE, reduceAdd, reduceEqDiff, reduceIte, reduceSub, Nat.reduceLT, reduceMul, reduceLeDiff, reduceCtorEq, d1, d2]) | ((first | refine sC ?_ | refine sH ?_ | refine sI ?_ | refine sJ ?_); try simp only [thenK, blockK, loopK, loopG, if_true, if_false, reduceEqDiff]) | refine sD ?_ | refine sE ?_ | refine sF rfl ?_ | refine sG rfl ?_)
    exact ⟨_, _, _, Ghost.refl _ _, rfl, GhostV.none (by rw [hn]; decide) hσ hfix (by simp [lk, low_int, low_bool, low_str, low_nils, low_nilp, low_nilf, low_nili, low_undef, low_skip, low_vec, low_agg, low_tup, low_fn, low_vptr, low_iface, low_ptr, low_sl, low_mp, low_it, low_yld, low_emp, lowEnv, lowObs, lowOb, tmpObs, isArr, hXm]) (by simp [lk, low_int, low_bool, low_str, low_nils, low_nilp, low_nilf, low_nili, low_undef, low_skip, low_vec, low_agg, low_tup, low_fn, low_vptr, low_iface, low_ptr, low_sl, low_mp, low_it, low_yld, low_emp, lowEnv, lowObs, lowOb, tmpObs, isArr, hXm]), rfl⟩
  by_cases h3 : xs.length > 1024
  · have d3 : decide ((X.length : Int) > 1024) = true := decide_eq_true (by omega)
    rw [if_pos h3]
    repeat (first | ((first | refine sA hL hn rfl ?_ | refine sB hL hn rfl ?_); simp only [go_sem, Nat.reduceBEq, Int.reduceLT, Int.reduceLE, reduceAdd, reduceEqDiff, reduceIte, reduceSub, Nat.reduceLT, reduceMul, reduceLeDiff, reduceCtorEq, d1, d2, d3]) | ((first | refine sC ?_ | refine sH ?_ | refine sI ?_ | refine sJ ?_); try simp only [thenK, blockK, loopK, loopG, if_true, if_false, reduceEqDiff]) | refine sD ?_ | refine sE ?_ | refine sF rfl ?_ | refine sG rfl ?_)
    exact ⟨_, _, _, Ghost.refl _ _, rfl, GhostV.none (by rw [hn]; decide) hσ hfix (by simp [lk, low_int, low_bool, low_str, low_nils, low_nilp, low_nilf, low_nili, low_undef, low_skip, low_vec, low_agg, low_tup, low_fn, low_vptr, low_iface, low_ptr, low_sl, low_mp, low_it, low_yld, low_emp, lowEnv, lowObs, lowOb, tmpObs, isArr, hXm]) (by simp [lk, low_int, low_bool, low_str, low_nils, low_nilp, low_nilf, low_nili, low_undef, low_skip, low_vec, low_agg, low_tup, low_fn, low_vptr, low_iface, low_ptr, low_sl, low_mp, low_it, low_yld, low_emp, lowEnv, lowObs, lowOb, tmpObs, isArr, hXm]), rfl⟩
  have d3 : decide ((X.length : Int) > 1024) = false := decide_eq_false (by omega)
  rw [if_neg h3]
  repeat (first | ((first | refine sA hL hn rfl ?_ | refine sB hL hn rfl ?_); simp only [go_sem, Nat.reduceBEq, Int.reduceLT, Int.reduceLE, reduceAdd, reduceEqDiff, reduceIte, reduceSub, Nat.reduceLT, reduceMul, reduceLeDiff, reduceCtorEq, d1, d2, d3]) | ((first | refine sC ?_ | refine sH ?_ | refine sI ?_ | refine sJ ?_); try simp only [thenK, blockK, loopK, loopG, if_true, if_false, reduceEqDiff]) | refine sD ?_ | refine sE ?_ | refine sF rfl ?_ | refine sG rfl ?_)
  refine SW.lpg (fun x : Nat × Int => ⟨[(1, .ptr σ.length 1 0 0), (3, .int .i64 x.2), (21, .vec c 2 X), (22, .int .i64 xs.length), (23, .int .i64 x.1)], σ ++ [.arr 32 2 [.agg [.int .i64 n, .vec c 2 X]]]⟩) (fun x => xs.length - x.1) (fun x => x.1 ≤ xs.length ∧ fcGo n x.2 (xs.drop x.1) = fcGo n (-1) xs) (0, -1) ⟨by simp, rfl⟩ (.of rfl (by simp [agree, lk, hXl])) ?_
  rintro ⟨k, last⟩ ⟨hk, hg⟩
  simp only at hk hg
  by_cases hlt : k < xs.length
  · have e1 : decide ((k : Int) < (xs.length : Int)) = true := decide_eq_true (by omega)
    have e2 : (0 ≤ (k : Int) ∧ (k : Int) < (X.length : Int)) := by omega
    obtain ⟨x, hx⟩ : ∃ x, x = xs[k] := ⟨_, rfl⟩
    have e3 : X[k]?.getD .undef = .agg [.int .i64 x.a, .int .i64 x.l] := by rw [hX, hx]; simp [hlt, eS, eI]
    have w1 : IntKind.i64.wrap ((k : Int) + 1) = ((k + 1 : Nat) : Int) := wi (by omega) (by omega)
    rw [List.drop_eq_getElem_cons hlt, ← hx, fcGo] at hg
    cases hi : insideF x n
    · rw [hi] at hg
      simp only [Bool.not_false, if_true] at hg
      rw [← hg]
      repeat (first | ((first | refine sA hL hn rfl ?_ | refine sB hL hn rfl ?_); simp only [go_sem, Nat.reduceBEq, Int.reduceLT, Int.reduceLE, reduceAdd, reduceEqDiff, reduceIte, reduceSub, Nat.reduceLT, reduceMul, reduceLeDiff, reduceCtorEq, e1, e2, e3]) | ((first | refine sC ?_ | refine sH ?_ | refine sI ?_ | refine sJ ?_); try simp only [thenK, blockK, loopK, loopG, if_true, if_false, reduceEqDiff]) | refine sD ?_ | refine sE ?_ | refine sF rfl ?_ | refine sG rfl ?_)
      refine sK hP hL hn rfl rfl (inside_ok x n _) rfl rfl rfl rfl ?_; simp (maxSteps := 2000000) only [go_sem, Nat.reduceBEq, Int.reduceLT, Int.reduceLE, reduceAdd, reduceEqDiff, reduceIte, reduceSub, Nat.reduceLT, reduceMul, reduceLeDiff, reduceCtorEq, hi]
      repeat (first | ((first | refine sA hL hn rfl ?_ | refine sB hL hn rfl ?_); simp only [go_sem, Nat.reduceBEq, Int.reduceLT, Int.reduceLE, reduceAdd, reduceEqDiff, reduceIte, reduceSub, Nat.reduceLT, reduceMul, reduceLeDiff, reduceCtorEq]) | ((first | refine sC ?_ | refine sH ?_ | refine sI ?_ | refine sJ ?_); try simp only [thenK, blockK, loopK, loopG, if_true, if_false, reduceEqDiff]) | refine sD ?_ | refine sE ?_ | refine sF rfl ?_ | refine sG rfl ?_)
      exact ⟨_, _, _, Ghost.refl _ _, rfl, GhostV.none (by rw [hn]; decide) hσ hfix (by simp [lk, low_int, low_bool, low_str, low_nils, low_nilp, low_nilf, low_nili, low_undef, low_skip, low_vec, low_agg, low_tup, low_fn, low_vptr, low_iface, low_ptr, low_sl, low_mp, low_it, low_yld, low_emp, lowEnv, lowObs, lowOb, tmpObs, isArr, hXm]) (by simp [lk, low_int, low_bool, low_str, low_nils, low_nilp, low_nilf, low_nili, low_undef, low_skip, low_vec, low_agg, low_tup, low_fn, low_vptr, low_iface, low_ptr, low_sl, low_mp, low_it, low_yld, low_emp, lowEnv, lowObs, lowOb, tmpObs, isArr, hXm]), rfl⟩
    cases hd : decide (x.a ≤ last)
    · rw [hi, hd] at hg
      simp only [Bool.not_true, Bool.false_eq_true, if_false] at hg
      repeat (first | ((first | refine sA hL hn rfl ?_ | refine sB hL hn rfl ?_); simp only [go_sem, Nat.reduceBEq, Int.reduceLT, Int.reduceLE, reduceAdd, reduceEqDiff, reduceIte, reduceSub, Nat.reduceLT, reduceMul, reduceLeDiff, reduceCtorEq, e1, e2, e3]) | ((first | refine sC ?_ | refine sH ?_ | refine sI ?_ | refine sJ ?_); try simp only [thenK, blockK, loopK, loopG, if_true, if_false, reduceEqDiff]) | refine sD ?_ | refine sE ?_ | refine sF rfl ?_ | refine sG rfl ?_)
      refine sK hP hL hn rfl rfl (inside_ok x n _) rfl rfl rfl rfl ?_; simp (maxSteps := 2000000) only [go_sem, Nat.reduceBEq, Int.reduceLT, Int.reduceLE, reduceAdd, reduceEqDiff, reduceIte, reduceSub, Nat.reduceLT, reduceMul, reduceLeDiff, reduceCtorEq, hi, hd]
      repeat (first | ((first | refine sA hL hn rfl ?_ | refine sB hL hn rfl ?_); simp only [go_sem, Nat.reduceBEq, Int.reduceLT, Int.reduceLE, reduceAdd, reduceEqDiff, reduceIte, reduceSub, Nat.reduceLT, reduceMul, reduceLeDiff, reduceCtorEq, w1]) | ((first | refine sC ?_ | refine sH ?_ | refine sI ?_ | refine sJ ?_); try simp only [thenK, blockK, loopK, loopG, if_true, if_false, reduceEqDiff]) | refine sD ?_ | refine sE ?_ | refine sF rfl ?_ | refine sG rfl ?_)
      exact Lp.nextg (k + 1, w64 (x.a + x.l)) ⟨by simp only; omega, hg⟩ (by simp only; omega) (Ghost.keep 1 _ hσ hfix (by simp [agree, lk, w64]) (by simp [lk, low_int, low_bool, low_str, low_nils, low_nilp, low_nilf, low_nili, low_undef, low_skip, low_vec, low_agg, low_tup, low_fn, low_vptr, low_iface, low_ptr, low_sl, low_mp, low_it, low_yld, low_emp, lowEnv, lowObs, lowOb, tmpObs, isArr, hXm]) (by simp [lk, low_int, low_bool, low_str, low_nils, low_nilp, low_nilf, low_nili, low_undef, low_skip, low_vec, low_agg, low_tup, low_fn, low_vptr, low_iface, low_ptr, low_sl, low_mp, low_it, low_yld, low_emp, lowEnv, lowObs, lowOb, tmpObs, isArr, hXm]) (by simp [lk, low_int, low_bool, low_str, low_nils, low_nilp, low_nilf, low_nili, low_undef, low_skip, low_vec, low_agg, low_tup, low_fn, low_vptr, low_iface, low_ptr, low_sl, low_mp, low_it, low_yld, low_emp, lowEnv, lowObs, lowOb, tmpObs, isArr]))
    · rw [hi, hd] at hg
      simp only [Bool.not_true, Bool.false_eq_true, if_false, if_true] at hg
      rw [← hg]
      repeat (first | ((first | refine sA hL hn rfl ?_ | refine sB hL hn rfl ?_); simp only [go_sem, Nat.reduceBEq, Int.reduceLT, Int.reduceLE, reduceAdd, reduceEqDiff, reduceIte, reduceSub, Nat.reduceLT, reduceMul, reduceLeDiff, reduceCtorEq, e1, e2, e3]) | ((first | refine sC ?_ | refine sH ?_ | refine sI ?_ | refine sJ ?_); try simp only [thenK, blockK, loopK, loopG, if_true, if_false, reduceEqDiff]) | refine sD ?_ | refine sE ?_ | refine sF rfl ?_ | refine sG rfl ?_)
      refine sK hP hL hn rfl rfl (inside_ok x n _) rfl rfl rfl rfl ?_; simp (maxSteps := 2000000) only [go_sem, Nat.reduceBEq, Int.reduceLT, Int.reduceLE, reduceAdd, reduceEqDiff, reduceIte, reduceSub, Nat.reduceLT, reduceMul, reduceLeDiff, reduceCtorEq, hi, hd]
      repeat (first | ((first | refine sA hL hn rfl ?_ | refine sB hL hn rfl ?_); simp only [go_sem, Nat.reduceBEq, Int.reduceLT, Int.reduceLE, reduceAdd, reduceEqDiff, reduceIte, reduceSub, Nat.reduceLT, reduceMul, reduceLeDiff, reduceCtorEq]) | ((first | refine sC ?_ | refine sH ?_ | refine sI ?_ | refine sJ ?_); try simp only [thenK, blockK, loopK, loopG, if_true, if_false, reduceEqDiff]) | refine sD ?_ | refine sE ?_ | refine sF rfl ?_ | refine sG rfl ?_)
      exact ⟨_, _, _, Ghost.refl _ _, rfl, GhostV.none (by rw [hn]; decide) hσ hfix (by simp [lk, low_int, low_bool, low_str, low_nils, low_nilp, low_nilf, low_nili, low_undef, low_skip, low_vec, low_agg, low_tup, low_fn, low_vptr, low_iface, low_ptr, low_sl, low_mp, low_it, low_yld, low_emp, lowEnv, lowObs, lowOb, tmpObs, isArr, hXm]) (by simp [lk, low_int, low_bool, low_str, low_nils, low_nilp, low_nilf, low_nili, low_undef, low_skip, low_vec, low_agg, low_tup, low_fn, low_vptr, low_iface, low_ptr, low_sl, low_mp, low_it, low_yld, low_emp, lowEnv, lowObs, lowOb, tmpObs, isArr, hXm]), rfl⟩
  · have e1 : decide ((k : Int) < (xs.length : Int)) = false := decide_eq_false (by omega)
    rw [List.drop_eq_nil_of_le (by omega)] at hg
    rw [← hg]
    repeat (first | ((first | refine sA hL hn rfl ?_ | refine sB hL hn rfl ?_); simp only [go_sem, Nat.reduceBEq, Int.reduceLT, Int.reduceLE, reduceAdd, reduceEqDiff, reduceIte, reduceSub, Nat.reduceLT, reduceMul, reduceLeDiff, reduceCtorEq, e1]) | ((first | refine sC ?_ | refine sH ?_ | refine sI ?_ | refine sJ ?_); try simp only [thenK, blockK, loopK, loopG, if_true, if_false, reduceEqDiff]) | refine sD ?_ | refine sE ?_ | refine sF rfl ?_ | refine sG rfl ?_)
    exact ⟨_, _, _, Ghost.refl _ _, rfl, GhostV.none (by rw [hn]; decide) hσ hfix (by simp [lk, low_int, low_bool, low_str, low_nils, low_nilp, low_nilf, low_nili, low_undef, low_skip, low_vec, low_agg, low_tup, low_fn, low_vptr, low_iface, low_ptr, low_sl, low_mp, low_it, low_yld, low_emp, lowEnv, lowObs, lowOb, tmpObs, isArr, hXm]) (by simp [lk, low_int, low_bool, low_str, low_nils, low_nilp, low_nilf, low_nili, low_undef, low_skip, low_vec, low_agg, low_tup, low_fn, low_vptr, low_iface, low_ptr, low_sl, low_mp, low_it, low_yld, low_emp, lowEnv, lowObs, lowOb, tmpObs, isArr, hXm]), rfl⟩

/-! ### A volume -/
structure Vo where
  size : Int
  now : List Ex
  snaps : List Sn
  next : Int
  fs : Int
  data : List (List UInt8)
/-- A volume whose free spans are sp. -/
def eV (v : Vo) (sp : DV) : DV := .agg [.int .i64 v.size, .vec 0 3 (v.now.map eX), .vec 0 4 (v.snaps.map (eZ 0)), .int .i64 v.next, .int .i64 v.fs, sp, .vec 0 1 (v.data.map (eD 0))]
def mapsF (v : Vo) : List (Int × List Ex) := (0, v.now) :: v.snaps.map fun s => (s.id, s.list)
/-- A name. -/
structure Nm where
  id : Int
  name : ByteArray
def eNm (x : Nm) : DV := .agg [.int .i64 x.id, .str x.name]
def namesF (v : Vo) : List Nm := v.snaps.map fun s => ⟨s.id, s.name⟩
theorem low_eNm (n : Nat) (x : Nm) : Low n (eNm x) := by simp [eNm, low_agg, low_int, low_str]
theorem check1_ok (x : Sn) (σ : List Ob) : Ok Tryz.prog 26 ([eZ 0 x] ++ []) σ (.ret (.bool (!withinF x.list x.size))) σ := by
  have hXX := low_vecX 0 0 x.list
  obtain ⟨X, hX⟩ : ∃ X, X = x.list.map eX := ⟨_, rfl⟩
  have hXm : ∀ m, (∀ y ∈ X, Low m y) ↔ True := fun m => iff_of_true (fun y hy id _ => (low_vec _ _ _).1 hXX y (by rw [← hX]; exact hy) id (Nat.zero_le _)) trivial
  have hw := fun σ => within_ok 0 x.list x.size σ
  unfold eZ
  rw [← hX] at hw ⊢
  refine Ok.of_body layOk Tryz.func26 rfl (by decide) (by simp [Tryz.ntmps26]) fun C hP hn hσ hfix hdd => ?_
  rw [show Tryz.f26.ntmps = 9 from rfl] at hn
  have hL : LayOk C.P L := hP ▸ layOk
  have hm : C.P.follows .mixedOrders = true := hP ▸ mixed
  repeat (first | ((first | refine sA hL hn rfl ?_ | refine sB hL hn rfl ?_); simp only [go_sem, Nat.reduceBEq, Int.reduceLT, Int.reduceLE, reduceAdd, reduceEqDiff, reduceIte, reduceSub, Nat.reduceLT, reduceMul, reduceLeDiff, reduceCtorEq]) | ((first | refine sC ?_ | refine sH ?_ | refine sI ?_ | refine sJ ?_); try simp only [thenK, blockK, loopK, loopG, if_true, if_false, reduceEqDiff]) | refine sD ?_ | refine sE ?_ | refine sF rfl ?_ | refine sG rfl ?_)
  refine sK hP hL hn rfl rfl (hw _) rfl rfl rfl rfl ?_; simp (maxSteps := 2000000) only [go_sem, Nat.reduceBEq, Int.reduceLT, Int.reduceLE, reduceAdd, reduceEqDiff, reduceIte, reduceSub, Nat.reduceLT, reduceMul, reduceLeDiff, reduceCtorEq]
  repeat (first | ((first | refine sA hL hn rfl ?_ | refine sB hL hn rfl ?_); simp only [go_sem, Nat.reduceBEq, Int.reduceLT, Int.reduceLE, reduceAdd, reduceEqDiff, reduceIte, reduceSub, Nat.reduceLT, reduceMul, reduceLeDiff, reduceCtorEq]) | ((first | refine sC ?_ | refine sH ?_ | refine sI ?_ | refine sJ ?_); try simp only [thenK, blockK, loopK, loopG, if_true, if_false, reduceEqDiff]) | refine sD ?_ | refine sE ?_ | refine sF rfl ?_ | refine sG rfl ?_)
  exact ⟨_, _, _, Ghost.refl _ _, rfl, GhostV.none (by rw [hn]; decide) hσ hfix (by simp [lk, low_int, low_bool, low_str, low_nils, low_nilp, low_nilf, low_nili, low_undef, low_skip, low_vec, low_agg, low_tup, low_fn, low_vptr, low_iface, low_ptr, low_sl, low_mp, low_it, low_yld, low_emp, lowEnv, lowObs, lowOb, tmpObs, isArr, hXm]) (by simp [lk, low_int, low_bool, low_str, low_nils, low_nilp, low_nilf, low_nili, low_undef, low_skip, low_vec, low_agg, low_tup, low_fn, low_vptr, low_iface, low_ptr, low_sl, low_mp, low_it, low_yld, low_emp, lowEnv, lowObs, lowOb, tmpObs, isArr, hXm]), rfl⟩
theorem check2_ok (x : List UInt8) (σ : List Ob) : Ok Tryz.prog 28 ([eD 0 x] ++ []) σ (.ret (.bool ((x.length : Int) != 64))) σ := by
  unfold eD
  refine Ok.of_body layOk Tryz.func28 rfl (by decide) (by simp [Tryz.ntmps28]) fun C hP hn hσ hfix hdd => ?_
  rw [show Tryz.f28.ntmps = 6 from rfl] at hn
  have hL : LayOk C.P L := hP ▸ layOk
  have hm : C.P.follows .mixedOrders = true := hP ▸ mixed
  repeat (first | ((first | refine sA hL hn rfl ?_ | refine sB hL hn rfl ?_); simp only [go_sem, Nat.reduceBEq, Int.reduceLT, Int.reduceLE, reduceAdd, reduceEqDiff, reduceIte, reduceSub, Nat.reduceLT, reduceMul, reduceLeDiff, reduceCtorEq, List.length_map]) | ((first | refine sC ?_ | refine sH ?_ | refine sI ?_ | refine sJ ?_); try simp only [thenK, blockK, loopK, loopG, if_true, if_false, reduceEqDiff]) | refine sD ?_ | refine sE ?_ | refine sF rfl ?_ | refine sG rfl ?_)
  exact ⟨_, _, _, Ghost.refl _ _, rfl, GhostV.refl _ _ _, rfl⟩
end Go.VL
end
section
set_option linter.unusedSimpArgs false
set_option linter.unusedVariables false
set_option maxRecDepth 10000
set_option maxHeartbeats 2000000
namespace Go.VL
open Go Go.Proofs
open Nat (reduceAdd reduceEqDiff reduceSub reduceMul reduceLeDiff)

theorem low_eM (n c : Nat) (x : Int × List Ex) : Low n (eM c x) := by
  unfold eM
  rw [low_agg]
  intro z hz
  simp only [List.mem_cons, List.not_mem_nil, or_false] at hz
  rcases hz with rfl | rfl
  · exact (low_int _ _).2 trivial
  · exact low_vecX _ _ _
theorem all_eM (c : Nat) (rs : List (Int × List Ex)) : ((rs.map (eM c)).all fun y => y.cells.all DV.one) = true := by
  rw [List.all_eq_true]
  intro y hy
  obtain ⟨x, _, rfl⟩ := List.mem_map.1 hy
  rfl
theorem all_eNm (rs : List Nm) : ((rs.map eNm).all fun y => y.cells.all DV.one) = true := by
  rw [List.all_eq_true]
  intro y hy
  obtain ⟨x, _, rfl⟩ := List.mem_map.1 hy
  rfl
theorem low_ob {α : Type} (e : α → DV) (h : ∀ n a, Low n (e a)) (n t k : Nat) (rs : List α) : lowOb n (.arr t k (rs.map e)) := by
  intro y hy
  obtain ⟨x, _, rfl⟩ := List.mem_map.1 hy
  exact h n x
theorem lowIff {α : Type} (e : α → DV) (h : ∀ n a, Low n (e a)) (l : List α) (m : Nat) : (∀ x ∈ l.map e, Low m x) ↔ True := iff_of_true (fun y hy => by
  obtain ⟨x, _, rfl⟩ := List.mem_map.1 hy
  exact h m x) trivial
theorem low_eXn (n : Nat) (x : Ex) : Low n (eX x) := by simp [eX, eI, low_agg, low_int]
theorem mapsRaw_ok (v : Vo) (sp : DV) (hs1 : sp.one = true) (hs2 : ∀ n, Low n sp) (hv : v.snaps.length ≤ 1048576) (σ : List Ob) :
    Ok Tryz.prog 23 [eV v sp] σ (.ret (.sl (σ.length + 1) (mapsF v).length 0 (mapsF v).length)) (σ ++ [.arr 34 7 [eV v sp], .arr 87 2 ((mapsF v).map (eM 0))]) := by
  have hs3 : sp.cells = [sp] := by cases sp <;> first | rfl | cases hs1
  simp only [DV.one] at hs1
  simp only [DV.cells] at hs3
  unfold eV
  obtain ⟨N, hN⟩ : ∃ N, N = v.now.map eX := ⟨_, rfl⟩
  obtain ⟨Z, hZ⟩ : ∃ Z, Z = v.snaps.map (eZ 0) := ⟨_, rfl⟩
  obtain ⟨D, hD⟩ : ∃ D, D = v.data.map (eD 0) := ⟨_, rfl⟩
  have hZl : Z.length = v.snaps.length := by rw [hZ, List.length_map]
  have hNm := lowIff eX low_eXn v.now
  have hZm := lowIff (eZ 0) (fun n => low_eZ n 0) v.snaps
  have hDm := lowIff (eD 0) (fun n => low_eD n 0) v.data
  rw [← hN] at hNm
  rw [← hZ] at hZm
  rw [← hD] at hDm
  rw [← hN, ← hZ, ← hD]
  refine Ok.of_body layOk Tryz.func23 rfl (by decide) (by simp [Tryz.ntmps23]) fun C hP hn hσ hfix hdd => ?_
  rw [show Tryz.f23.ntmps = 27 from rfl] at hn
  have hL : LayOk C.P L := hP ▸ layOk
  have hm : C.P.follows .mixedOrders = true := hP ▸ mixed
  have hb : ∀ (a : Int) (b : List DV), buildDV L 87 [(0, .int .i64 a), (1, .vec 0 3 b)] = some (.agg [.int .i64 a, .vec 0 3 b]) := fun _ _ => rfl
  repeat (first | ((first | refine sA hL hn rfl ?_ | refine sB hL hn rfl ?_); simp only [go_sem, Nat.reduceBEq, Int.reduceLT, Int.reduceLE, reduceAdd, reduceEqDiff, reduceIte, reduceSub, Nat.reduceLT, reduceMul, reduceLeDiff, reduceCtorEq, hs1, hs3, hb]) | ((first | refine sC ?_ | refine sH ?_ | refine sI ?_ | refine sJ ?_); try simp only [thenK, blockK, loopK, loopG, if_true, if_false, reduceEqDiff]) | refine sD ?_ | refine sE ?_ | refine sF rfl ?_ | refine sG rfl ?_)
  refine SW.lpg (fun x : Nat × List (Int × List Ex) => ⟨[(3, .sl (σ.length + 1) x.2.length 0 x.2.length), (11, .vec 0 4 Z), (12, .int .i64 v.snaps.length), (13, .int .i64 x.1)], σ ++ [.arr 34 7 [.agg [.int .i64 v.size, .vec 0 3 N, .vec 0 4 Z, .int .i64 v.next, .int .i64 v.fs, sp, .vec 0 1 D]], .arr 87 2 (x.2.map (eM 0))]⟩) (fun x => v.snaps.length - x.1) (fun x => x.1 ≤ v.snaps.length ∧ x.2 = (0, v.now) :: (v.snaps.take x.1).map fun s => (s.id, s.list)) (0, [(0, v.now)]) ⟨by simp, by simp⟩ ?_ ?_
  · exact .of (by simp [eM, hN]) (by simp [agree, lk, hZl])
  rintro ⟨k, out⟩ ⟨hk, hout⟩
  simp only at hk hout
  have hol : out.length = k + 1 := by rw [hout]; simp; omega
  by_cases hlt : k < v.snaps.length
  · have e1 : decide ((k : Int) < (v.snaps.length : Int)) = true := decide_eq_true (by omega)
    have e2 : (0 ≤ (k : Int) ∧ (k : Int) < (Z.length : Int)) := by omega
    obtain ⟨x, hx⟩ : ∃ x, x = v.snaps[k] := ⟨_, rfl⟩
    obtain ⟨xl, hxl⟩ : ∃ xl, xl = x.list.map eX := ⟨_, rfl⟩
    have hxm := lowIff eX low_eXn x.list
    rw [← hxl] at hxm
    have e3 : Z[k]?.getD .undef = .agg [.int .i64 x.id, .str x.name, .int .i64 x.size, .vec 0 3 xl] := by rw [hZ, hxl, hx]; simp [hlt, eZ]
    have w1 : IntKind.i64.wrap ((k : Int) + 1) = ((k + 1 : Nat) : Int) := wi (by omega) (by omega)
    have hnx : (0, v.now) :: (v.snaps.take (k + 1)).map (fun s => (s.id, s.list)) = out ++ [(x.id, x.list)] := by rw [List.take_succ_eq_append_getElem hlt, List.map_append, hout, hx]; rfl
    obtain ⟨O, hO⟩ : ∃ O, O = out.map (eM 0) := ⟨_, rfl⟩
    have hOl : O.length = out.length := by rw [hO, List.length_map]
    have aO := all_eM 0 out
    rw [← hO] at aO
    simp only [DV.cells] at aO
    rw [← hO]
    have hcap : (out.length + 1) * 32 ≤ 140737488355328 := by omega
    have q1 : (out ++ [(x.id, x.list)]).map (eM 0) = O ++ [.agg [.int .i64 x.id, .vec 0 3 xl]] := by rw [List.map_append, ← hO, hxl]; rfl
    have q2 : (out ++ [(x.id, x.list)]).length = out.length + 1 := by simp
    repeat (first | ((first | refine sA hL hn rfl ?_ | refine sB hL hn rfl ?_); simp only [go_sem, Nat.reduceBEq, Int.reduceLT, Int.reduceLE, reduceAdd, reduceEqDiff, reduceIte, reduceSub, Nat.reduceLT, reduceMul, reduceLeDiff, reduceCtorEq, e1, e2, e3, hb, appDV, aO, hOl, hcap, w1]) | ((first | refine sC ?_ | refine sH ?_ | refine sI ?_ | refine sJ ?_); try simp only [thenK, blockK, loopK, loopG, if_true, if_false, reduceEqDiff]) | refine sD ?_ | refine sE ?_ | refine sF rfl ?_ | refine sG rfl ?_)
    refine Lp.nextg (k + 1, out ++ [(x.id, x.list)]) ⟨by simp only; omega, hnx.symm⟩ (by simp only; omega) ?_
    have q3 := low_ob (eM 0) (fun n => low_eM n 0) (σ.length + 2) 87 2 (out ++ [(x.id, x.list)])
    rw [q1] at q3
    simp only [q1, q2]
    refine Ghost.keep 2 _ hσ hfix (by simp [agree, lk, hZl, hOl]) ?_ ⟨?_, q3, trivial⟩ (by simp [lk, low_int, low_bool, low_str, low_nils, low_nilp, low_nilf, low_nili, low_undef, low_skip, low_vec, low_agg, low_tup, low_fn, low_vptr, low_iface, low_ptr, low_sl, low_mp, low_it, low_yld, low_emp, lowEnv, lowObs, lowOb, tmpObs, isArr, hxm])
    · simp [lk, low_int, low_bool, low_str, low_nils, low_nilp, low_nilf, low_nili, low_undef, low_skip, low_vec, low_agg, low_tup, low_fn, low_vptr, low_iface, low_ptr, low_sl, low_mp, low_it, low_yld, low_emp, lowEnv, lowObs, lowOb, tmpObs, isArr, hZm]
    · simp [lk, low_int, low_bool, low_str, low_nils, low_nilp, low_nilf, low_nili, low_undef, low_skip, low_vec, low_agg, low_tup, low_fn, low_vptr, low_iface, low_ptr, low_sl, low_mp, low_it, low_yld, low_emp, lowEnv, lowObs, lowOb, tmpObs, isArr, hNm, hZm, hDm, hs2]
  · have e1 : decide ((k : Int) < (v.snaps.length : Int)) = false := decide_eq_false (by omega)
    obtain rfl : k = v.snaps.length := by omega
    rw [List.take_length] at hout
    rw [show mapsF v = out from hout.symm]
    repeat (first | ((first | refine sA hL hn rfl ?_ | refine sB hL hn rfl ?_); simp only [go_sem, Nat.reduceBEq, Int.reduceLT, Int.reduceLE, reduceAdd, reduceEqDiff, reduceIte, reduceSub, Nat.reduceLT, reduceMul, reduceLeDiff, reduceCtorEq, e1]) | ((first | refine sC ?_ | refine sH ?_ | refine sI ?_ | refine sJ ?_); try simp only [thenK, blockK, loopK, loopG, if_true, if_false, reduceEqDiff]) | refine sD ?_ | refine sE ?_ | refine sF rfl ?_ | refine sG rfl ?_)
    exact ⟨_, _, _, Ghost.refl _ _, rfl, GhostV.refl _ _ _, rfl⟩
theorem low_eV (n : Nat) (v : Vo) (sp : DV) (hs : ∀ n, Low n sp) : Low n (eV v sp) := by
  unfold eV
  have hNm := lowIff eX low_eXn v.now
  have hZm := lowIff (eZ 0) (fun n => low_eZ n 0) v.snaps
  have hDm := lowIff (eD 0) (fun n => low_eD n 0) v.data
  rw [low_agg]
  intro z hz
  simp only [List.mem_cons, List.not_mem_nil, or_false] at hz
  rcases hz with rfl | rfl | rfl | rfl | rfl | rfl | rfl
  · exact (low_int _ _).2 trivial
  · rw [low_vec]; exact (hNm n).2 trivial
  · rw [low_vec]; exact (hZm n).2 trivial
  · exact (low_int _ _).2 trivial
  · exact (low_int _ _).2 trivial
  · exact hs n
  · rw [low_vec]; exact (hDm n).2 trivial
theorem maps_ok (v : Vo) (sp : DV) (hs1 : sp.one = true) (hs2 : ∀ n, Low n sp) (hv : v.snaps.length ≤ 1048576) (σ : List Ob) : Ok Tryz.prog 23 [eV v sp] σ (.ret (.vec 0 2 ((mapsF v).map (eM 0)))) σ :=
  Ok.thaw (c := 0) (mapsRaw_ok v sp hs1 hs2 hv []) (Fz.list (eM 0) (low_eM 0 0) (t := 87) (k := 2) rfl) (by simp; exact low_eV 0 v sp hs2) σ
theorem namesRaw_ok (v : Vo) (sp : DV) (hs1 : sp.one = true) (hs2 : ∀ n, Low n sp) (hv : v.snaps.length ≤ 1048576) (σ : List Ob) :
    Ok Tryz.prog 21 [eV v sp] σ (.ret (.sl (σ.length + 1) (namesF v).length 0 (namesF v).length)) (σ ++ [.arr 34 7 [eV v sp], .arr 101 2 ((namesF v).map eNm)]) := by
  have hs3 : sp.cells = [sp] := by cases sp <;> first | rfl | cases hs1
  simp only [DV.one] at hs1
  simp only [DV.cells] at hs3
  unfold eV
  obtain ⟨N, hN⟩ : ∃ N, N = v.now.map eX := ⟨_, rfl⟩
  obtain ⟨Z, hZ⟩ : ∃ Z, Z = v.snaps.map (eZ 0) := ⟨_, rfl⟩
  obtain ⟨D, hD⟩ : ∃ D, D = v.data.map (eD 0) := ⟨_, rfl⟩
  have hZl : Z.length = v.snaps.length := by rw [hZ, List.length_map]
  have hNm := lowIff eX low_eXn v.now
  have hZm := lowIff (eZ 0) (fun n => low_eZ n 0) v.snaps
  have hDm := lowIff (eD 0) (fun n => low_eD n 0) v.data
  rw [← hN] at hNm
  rw [← hZ] at hZm
  rw [← hD] at hDm
  rw [← hN, ← hZ, ← hD]
  refine Ok.of_body layOk Tryz.func21 rfl (by decide) (by simp [Tryz.ntmps21]) fun C hP hn hσ hfix hdd => ?_
  rw [show Tryz.f21.ntmps = 22 from rfl] at hn
  have hL : LayOk C.P L := hP ▸ layOk
  have hm : C.P.follows .mixedOrders = true := hP ▸ mixed
  have hb : ∀ (a : Int) (b : ByteArray), buildDV L 101 [(0, .int .i64 a), (1, .str b)] = some (.agg [.int .i64 a, .str b]) := fun _ _ => rfl
  repeat (first | ((first | refine sA hL hn rfl ?_ | refine sB hL hn rfl ?_); simp only [go_sem, Nat.reduceBEq, Int.reduceLT, Int.reduceLE, reduceAdd, reduceEqDiff, reduceIte, reduceSub, Nat.reduceLT, reduceMul, reduceLeDiff, reduceCtorEq, hs1, hs3, hb]) | ((first | refine sC ?_ | refine sH ?_ | refine sI ?_ | refine sJ ?_); try simp only [thenK, blockK, loopK, loopG, if_true, if_false, reduceEqDiff]) | refine sD ?_ | refine sE ?_ | refine sF rfl ?_ | refine sG rfl ?_)
  refine SW.lpg (fun x : Nat × List Nm => ⟨[(2, .sl (σ.length + 1) x.2.length 0 x.2.length), (6, .vec 0 4 Z), (7, .int .i64 v.snaps.length), (8, .int .i64 x.1)], σ ++ [.arr 34 7 [.agg [.int .i64 v.size, .vec 0 3 N, .vec 0 4 Z, .int .i64 v.next, .int .i64 v.fs, sp, .vec 0 1 D]], .arr 101 2 (x.2.map eNm)]⟩) (fun x => v.snaps.length - x.1) (fun x => x.1 ≤ v.snaps.length ∧ x.2 = (v.snaps.take x.1).map fun s => ⟨s.id, s.name⟩) (0, []) ⟨by simp, by simp⟩ ?_ ?_
  · exact Ghost.trans (Ghost.newNil 2 101 2 (by simp [lk])) (.of (by simp) (by simp [agree, lk, up, hZl]))
  rintro ⟨k, out⟩ ⟨hk, hout⟩
  simp only at hk hout
  have hol : out.length = k := by rw [hout]; simp; omega
  by_cases hlt : k < v.snaps.length
  · have e1 : decide ((k : Int) < (v.snaps.length : Int)) = true := decide_eq_true (by omega)
    have e2 : (0 ≤ (k : Int) ∧ (k : Int) < (Z.length : Int)) := by omega
    obtain ⟨x, hx⟩ : ∃ x, x = v.snaps[k] := ⟨_, rfl⟩
    obtain ⟨xl, hxl⟩ : ∃ xl, xl = x.list.map eX := ⟨_, rfl⟩
    have hxm := lowIff eX low_eXn x.list
    rw [← hxl] at hxm
    have e3 : Z[k]?.getD .undef = .agg [.int .i64 x.id, .str x.name, .int .i64 x.size, .vec 0 3 xl] := by rw [hZ, hxl, hx]; simp [hlt, eZ]
    have w1 : IntKind.i64.wrap ((k : Int) + 1) = ((k + 1 : Nat) : Int) := wi (by omega) (by omega)
    have hnx : (v.snaps.take (k + 1)).map (fun s => (⟨s.id, s.name⟩ : Nm)) = out ++ [⟨x.id, x.name⟩] := by rw [List.take_succ_eq_append_getElem hlt, List.map_append, hout, hx]; rfl
    obtain ⟨O, hO⟩ : ∃ O, O = out.map eNm := ⟨_, rfl⟩
    have hOl : O.length = out.length := by rw [hO, List.length_map]
    have aO := all_eNm out
    rw [← hO] at aO
    simp only [DV.cells] at aO
    rw [← hO]
    have hcap : (out.length + 1) * 24 ≤ 140737488355328 := by omega
    have q1 : (out ++ [(⟨x.id, x.name⟩ : Nm)]).map eNm = O ++ [.agg [.int .i64 x.id, .str x.name]] := by rw [List.map_append, ← hO]; rfl
    have q2 : (out ++ [(⟨x.id, x.name⟩ : Nm)]).length = out.length + 1 := by simp
    repeat (first | ((first | refine sA hL hn rfl ?_ | refine sB hL hn rfl ?_); simp only [go_sem, Nat.reduceBEq, Int.reduceLT, Int.reduceLE, reduceAdd, reduceEqDiff, reduceIte, reduceSub, Nat.reduceLT, reduceMul, reduceLeDiff, reduceCtorEq, e1, e2, e3, hb, appDV, aO, hOl, hcap, w1]) | ((first | refine sC ?_ | refine sH ?_ | refine sI ?_ | refine sJ ?_); try simp only [thenK, blockK, loopK, loopG, if_true, if_false, reduceEqDiff]) | refine sD ?_ | refine sE ?_ | refine sF rfl ?_ | refine sG rfl ?_)
    refine Lp.nextg (k + 1, out ++ [⟨x.id, x.name⟩]) ⟨by simp only; omega, hnx.symm⟩ (by simp only; omega) ?_
    have q3 := low_ob eNm low_eNm (σ.length + 2) 101 2 (out ++ [⟨x.id, x.name⟩])
    rw [q1] at q3
    simp only [q1, q2]
    refine Ghost.keep 2 _ hσ hfix (by simp [agree, lk, hZl, hOl]) ?_ ⟨?_, q3, trivial⟩ (by simp [lk, low_int, low_bool, low_str, low_nils, low_nilp, low_nilf, low_nili, low_undef, low_skip, low_vec, low_agg, low_tup, low_fn, low_vptr, low_iface, low_ptr, low_sl, low_mp, low_it, low_yld, low_emp, lowEnv, lowObs, lowOb, tmpObs, isArr, hxm])
    · simp [lk, low_int, low_bool, low_str, low_nils, low_nilp, low_nilf, low_nili, low_undef, low_skip, low_vec, low_agg, low_tup, low_fn, low_vptr, low_iface, low_ptr, low_sl, low_mp, low_it, low_yld, low_emp, lowEnv, lowObs, lowOb, tmpObs, isArr, hZm]
    · simp [lk, low_int, low_bool, low_str, low_nils, low_nilp, low_nilf, low_nili, low_undef, low_skip, low_vec, low_agg, low_tup, low_fn, low_vptr, low_iface, low_ptr, low_sl, low_mp, low_it, low_yld, low_emp, lowEnv, lowObs, lowOb, tmpObs, isArr, hNm, hZm, hDm, hs2]
  · have e1 : decide ((k : Int) < (v.snaps.length : Int)) = false := decide_eq_false (by omega)
    obtain rfl : k = v.snaps.length := by omega
    rw [List.take_length] at hout
    rw [show namesF v = out from hout.symm]
    repeat (first | ((first | refine sA hL hn rfl ?_ | refine sB hL hn rfl ?_); simp only [go_sem, Nat.reduceBEq, Int.reduceLT, Int.reduceLE, reduceAdd, reduceEqDiff, reduceIte, reduceSub, Nat.reduceLT, reduceMul, reduceLeDiff, reduceCtorEq, e1]) | ((first | refine sC ?_ | refine sH ?_ | refine sI ?_ | refine sJ ?_); try simp only [thenK, blockK, loopK, loopG, if_true, if_false, reduceEqDiff]) | refine sD ?_ | refine sE ?_ | refine sF rfl ?_ | refine sG rfl ?_)
    exact ⟨_, _, _, Ghost.refl _ _, rfl, GhostV.refl _ _ _, rfl⟩
theorem names_ok (v : Vo) (sp : DV) (hs1 : sp.one = true) (hs2 : ∀ n, Low n sp) (hv : v.snaps.length ≤ 1048576) (σ : List Ob) : Ok Tryz.prog 21 [eV v sp] σ (.ret (.vec 0 2 ((namesF v).map eNm))) σ :=
  Ok.thaw (c := 0) (namesRaw_ok v sp hs1 hs2 hv []) (Fz.list eNm (low_eNm 0) (t := 101) (k := 2) rfl) (by simp; exact low_eV 0 v sp hs2) σ
end Go.VL
end
