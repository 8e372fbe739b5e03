/- Proved: MetaLoads: whatever items and data come in (together of bulk at most 1048576), the call returns true and they read as they did; no other condition. This text is part 9 of 15. -/
import Derived.Test.YthobgocbfoigfaaGreatW08
section
set_option linter.unusedSimpArgs false
set_option linter.unusedVariables false
set_option maxRecDepth 10000
namespace Go.VL
open Go Go.Proofs
open Nat (reduceAdd reduceEqDiff reduceSub reduceMul reduceLeDiff)
def di59_1 : List DI := [⟨[2], [], false, [0], some 5, []⟩, ⟨[5], [0], false, [0], some 6, [0]⟩, ⟨[3], [], false, [0], some 7, []⟩, ⟨[7], [2], false, [0], some 8, [2]⟩, ⟨[6, 8], rg 0 4, false, [0], some 9, [1, 3]⟩, ⟨[2], [], false, [0], some 10, []⟩, ⟨[10], [5], false, [0], some 11, [5]⟩, ⟨[3], [], false, [0], some 12, []⟩, ⟨[12], [7], false, [0], some 13, [7]⟩, ⟨[11, 13], rg 0 9, false, [0], some 14, [6, 8, 4]⟩, ⟨[2], [], false, [0], some 15, []⟩, ⟨[15], [10], false, [0], some 16, [10]⟩, ⟨[3], [], false, [0], some 17, []⟩, ⟨[17], [12], false, [0], some 18, [12]⟩, ⟨[16, 18], rg 0 14, false, [0], some 19, [11, 13, 9]⟩, ⟨[9, 14, 19], rg 0 15, true, [], some 20, [4, 9, 14]⟩, ⟨[20], rg 0 16, false, [1], some 21, [15, 14]⟩, ⟨[21], rg 0 17, false, [1], some 4, ([16, 16] ++ rg 0 17)⟩]

def eI (n : Int) : DV := .int .i64 n
def eN (n : Int) : DV := .int .u64 n
def cmpF (a b : Int) : Int := if a < b then -1 else if b < a then 1 else 0

theorem isNaN_i_ok (a : Int) (σ : List Ob) : Ok Tryz.prog 57 [eI a] σ (.ret (.bool false)) σ := by
  refine Ok.of_body layOk Tryz.func57 rfl (by decide) (by simp [Tryz.ntmps57]) fun C hP hn hσ hfix hdd => ?_
  rw [show Tryz.f57.ntmps = 6 from rfl] at hn
  have hL : LayOk C.P L := hP ▸ layOk
  have hm : C.P.follows .mixedOrders = true := hP ▸ mixed
  repeat (first | ((first | refine sA hL hn rfl ?_ | refine sB hL hn rfl ?_); simp only [go_sem, Nat.reduceBEq, Int.reduceLT, Int.reduceLE, reduceAdd, reduceEqDiff, reduceIte, reduceSub, Nat.reduceLT, reduceMul, reduceLeDiff, reduceCtorEq, eI, bne_self_eq_false]) | ((first | refine sC ?_ | refine sH ?_ | refine sI ?_ | refine sJ ?_); try simp only [thenK, blockK, loopK, loopG, if_true, if_false, reduceEqDiff]) | refine sD ?_ | refine sE ?_ | refine sF rfl ?_ | refine sG rfl ?_)
  exact ⟨_, _, _, Ghost.refl _ _, rfl, GhostV.refl _ _ _, rfl⟩
theorem isNaN_n_ok (a : Int) (σ : List Ob) : Ok Tryz.prog 61 [eN a] σ (.ret (.bool false)) σ := by
  refine Ok.of_body layOk Tryz.func61 rfl (by decide) (by simp [Tryz.ntmps61]) fun C hP hn hσ hfix hdd => ?_
  rw [show Tryz.f61.ntmps = 6 from rfl] at hn
  have hL : LayOk C.P L := hP ▸ layOk
  have hm : C.P.follows .mixedOrders = true := hP ▸ mixed
  repeat (first | ((first | refine sA hL hn rfl ?_ | refine sB hL hn rfl ?_); simp only [go_sem, Nat.reduceBEq, Int.reduceLT, Int.reduceLE, reduceAdd, reduceEqDiff, reduceIte, reduceSub, Nat.reduceLT, reduceMul, reduceLeDiff, reduceCtorEq, eN, bne_self_eq_false]) | ((first | refine sC ?_ | refine sH ?_ | refine sI ?_ | refine sJ ?_); try simp only [thenK, blockK, loopK, loopG, if_true, if_false, reduceEqDiff]) | refine sD ?_ | refine sE ?_ | refine sF rfl ?_ | refine sG rfl ?_)
  exact ⟨_, _, _, Ghost.refl _ _, rfl, GhostV.refl _ _ _, rfl⟩
theorem cmp_i_ok (a b : Int) (σ : List Ob) : Ok Tryz.prog 37 [eI a, eI b] σ (.ret (eI (cmpF a b))) σ := by
  refine Ok.of_body layOk Tryz.func37 rfl (by decide) (by simp [Tryz.ntmps37]) fun C hP hn hσ hfix hdd => ?_
  rw [show Tryz.f37.ntmps = 20 from rfl] at hn
  have hL : LayOk C.P L := hP ▸ layOk
  have hm : C.P.follows .mixedOrders = true := hP ▸ mixed
  repeat (first | ((first | refine sA hL hn rfl ?_ | refine sB hL hn rfl ?_); simp only [go_sem, Nat.reduceBEq, Int.reduceLT, Int.reduceLE, reduceAdd, reduceEqDiff, reduceIte, reduceSub, Nat.reduceLT, reduceMul, reduceLeDiff, reduceCtorEq, eI]) | ((first | refine sC ?_ | refine sH ?_ | refine sI ?_ | refine sJ ?_); try simp only [thenK, blockK, loopK, loopG, if_true, if_false, reduceEqDiff]) | refine sD ?_ | refine sE ?_ | refine sF rfl ?_ | refine sG rfl ?_)
  refine sK hP hL hn rfl rfl (isNaN_i_ok a _) rfl rfl rfl rfl ?_; simp (maxSteps := 2000000) only [go_sem, Nat.reduceBEq, Int.reduceLT, Int.reduceLE, reduceAdd, reduceEqDiff, reduceIte, reduceSub, Nat.reduceLT, reduceMul, reduceLeDiff, reduceCtorEq, eI]
  repeat (first | ((first | refine sA hL hn rfl ?_ | refine sB hL hn rfl ?_); simp only [go_sem, Nat.reduceBEq, Int.reduceLT, Int.reduceLE, reduceAdd, reduceEqDiff, reduceIte, reduceSub, Nat.reduceLT, reduceMul, reduceLeDiff, reduceCtorEq, eI]) | ((first | refine sC ?_ | refine sH ?_ | refine sI ?_ | refine sJ ?_); try simp only [thenK, blockK, loopK, loopG, if_true, if_false, reduceEqDiff]) | refine sD ?_ | refine sE ?_ | refine sF rfl ?_ | refine sG rfl ?_)
  refine sK hP hL hn rfl rfl (isNaN_i_ok b _) rfl rfl rfl rfl ?_; simp (maxSteps := 2000000) only [go_sem, Nat.reduceBEq, Int.reduceLT, Int.reduceLE, reduceAdd, reduceEqDiff, reduceIte, reduceSub, Nat.reduceLT, reduceMul, reduceLeDiff, reduceCtorEq, eI]
  unfold cmpF
  by_cases h1 : a < b
  · have d1 : decide (a < b) = true := decide_eq_true h1
    rw [if_pos h1]
    repeat (first | ((first | refine sA hL hn rfl ?_ | refine sB hL hn rfl ?_); simp only [go_sem, Nat.reduceBEq, Int.reduceLT, Int.reduceLE, reduceAdd, reduceEqDiff, reduceIte, reduceSub, Nat.reduceLT, reduceMul, reduceLeDiff, reduceCtorEq, eI, d1]) | ((first | refine sC ?_ | refine sH ?_ | refine sI ?_ | refine sJ ?_); try simp only [thenK, blockK, loopK, loopG, if_true, if_false, reduceEqDiff]) | refine sD ?_ | refine sE ?_ | refine sF rfl ?_ | refine sG rfl ?_)
    exact ⟨_, _, _, Ghost.refl _ _, rfl, GhostV.refl _ _ _, rfl⟩
  have d1 : decide (a < b) = false := decide_eq_false h1
  rw [if_neg h1]
  by_cases h2 : b < a
  · have d2 : decide (a > b) = true := decide_eq_true h2
    rw [if_pos h2]
    repeat (first | ((first | refine sA hL hn rfl ?_ | refine sB hL hn rfl ?_); simp only [go_sem, Nat.reduceBEq, Int.reduceLT, Int.reduceLE, reduceAdd, reduceEqDiff, reduceIte, reduceSub, Nat.reduceLT, reduceMul, reduceLeDiff, reduceCtorEq, eI, d1, d2]) | ((first | refine sC ?_ | refine sH ?_ | refine sI ?_ | refine sJ ?_); try simp only [thenK, blockK, loopK, loopG, if_true, if_false, reduceEqDiff]) | refine sD ?_ | refine sE ?_ | refine sF rfl ?_ | refine sG rfl ?_)
    exact ⟨_, _, _, Ghost.refl _ _, rfl, GhostV.refl _ _ _, rfl⟩
  have d2 : decide (a > b) = false := decide_eq_false h2
  rw [if_neg h2]
  repeat (first | ((first | refine sA hL hn rfl ?_ | refine sB hL hn rfl ?_); simp only [go_sem, Nat.reduceBEq, Int.reduceLT, Int.reduceLE, reduceAdd, reduceEqDiff, reduceIte, reduceSub, Nat.reduceLT, reduceMul, reduceLeDiff, reduceCtorEq, eI, d1, d2]) | ((first | refine sC ?_ | refine sH ?_ | refine sI ?_ | refine sJ ?_); try simp only [thenK, blockK, loopK, loopG, if_true, if_false, reduceEqDiff]) | refine sD ?_ | refine sE ?_ | refine sF rfl ?_ | refine sG rfl ?_)
  exact ⟨_, _, _, Ghost.refl _ _, rfl, GhostV.refl _ _ _, rfl⟩
theorem cmp_n_ok (a b : Int) (σ : List Ob) : Ok Tryz.prog 43 [eN a, eN b] σ (.ret (eI (cmpF a b))) σ := by
  refine Ok.of_body layOk Tryz.func43 rfl (by decide) (by simp [Tryz.ntmps43]) fun C hP hn hσ hfix hdd => ?_
  rw [show Tryz.f43.ntmps = 20 from rfl] at hn
  have hL : LayOk C.P L := hP ▸ layOk
  have hm : C.P.follows .mixedOrders = true := hP ▸ mixed
  repeat (first | ((first | refine sA hL hn rfl ?_ | refine sB hL hn rfl ?_); simp only [go_sem, Nat.reduceBEq, Int.reduceLT, Int.reduceLE, reduceAdd, reduceEqDiff, reduceIte, reduceSub, Nat.reduceLT, reduceMul, reduceLeDiff, reduceCtorEq, eN]) | ((first | refine sC ?_ | refine sH ?_ | refine sI ?_ | refine sJ ?_); try simp only [thenK, blockK, loopK, loopG, if_true, if_false, reduceEqDiff]) | refine sD ?_ | refine sE ?_ | refine sF rfl ?_ | refine sG rfl ?_)
  refine sK hP hL hn rfl rfl (isNaN_n_ok a _) rfl rfl rfl rfl ?_; simp (maxSteps := 2000000) only [go_sem, Nat.reduceBEq, Int.reduceLT, Int.reduceLE, reduceAdd, reduceEqDiff, reduceIte, reduceSub, Nat.reduceLT, reduceMul, reduceLeDiff, reduceCtorEq, eN]
  repeat (first | ((first | refine sA hL hn rfl ?_ | refine sB hL hn rfl ?_); simp only [go_sem, Nat.reduceBEq, Int.reduceLT, Int.reduceLE, reduceAdd, reduceEqDiff, reduceIte, reduceSub, Nat.reduceLT, reduceMul, reduceLeDiff, reduceCtorEq, eN]) | ((first | refine sC ?_ | refine sH ?_ | refine sI ?_ | refine sJ ?_); try simp only [thenK, blockK, loopK, loopG, if_true, if_false, reduceEqDiff]) | refine sD ?_ | refine sE ?_ | refine sF rfl ?_ | refine sG rfl ?_)
  refine sK hP hL hn rfl rfl (isNaN_n_ok b _) rfl rfl rfl rfl ?_; simp (maxSteps := 2000000) only [go_sem, Nat.reduceBEq, Int.reduceLT, Int.reduceLE, reduceAdd, reduceEqDiff, reduceIte, reduceSub, Nat.reduceLT, reduceMul, reduceLeDiff, reduceCtorEq, eN]
  unfold cmpF
  by_cases h1 : a < b
  · have d1 : decide (a < b) = true := decide_eq_true h1
    rw [if_pos h1]
    repeat (first | ((first | refine sA hL hn rfl ?_ | refine sB hL hn rfl ?_); simp only [go_sem, Nat.reduceBEq, Int.reduceLT, Int.reduceLE, reduceAdd, reduceEqDiff, reduceIte, reduceSub, Nat.reduceLT, reduceMul, reduceLeDiff, reduceCtorEq, eN, d1]) | ((first | refine sC ?_ | refine sH ?_ | refine sI ?_ | refine sJ ?_); try simp only [thenK, blockK, loopK, loopG, if_true, if_false, reduceEqDiff]) | refine sD ?_ | refine sE ?_ | refine sF rfl ?_ | refine sG rfl ?_)
    exact ⟨_, _, _, Ghost.refl _ _, rfl, GhostV.refl _ _ _, rfl⟩
  have d1 : decide (a < b) = false := decide_eq_false h1
  rw [if_neg h1]
  by_cases h2 : b < a
  · have d2 : decide (a > b) = true := decide_eq_true h2
    rw [if_pos h2]
    repeat (first | ((first | refine sA hL hn rfl ?_ | refine sB hL hn rfl ?_); simp only [go_sem, Nat.reduceBEq, Int.reduceLT, Int.reduceLE, reduceAdd, reduceEqDiff, reduceIte, reduceSub, Nat.reduceLT, reduceMul, reduceLeDiff, reduceCtorEq, eN, d1, d2]) | ((first | refine sC ?_ | refine sH ?_ | refine sI ?_ | refine sJ ?_); try simp only [thenK, blockK, loopK, loopG, if_true, if_false, reduceEqDiff]) | refine sD ?_ | refine sE ?_ | refine sF rfl ?_ | refine sG rfl ?_)
    exact ⟨_, _, _, Ghost.refl _ _, rfl, GhostV.refl _ _ _, rfl⟩
  have d2 : decide (a > b) = false := decide_eq_false h2
  rw [if_neg h2]
  repeat (first | ((first | refine sA hL hn rfl ?_ | refine sB hL hn rfl ?_); simp only [go_sem, Nat.reduceBEq, Int.reduceLT, Int.reduceLE, reduceAdd, reduceEqDiff, reduceIte, reduceSub, Nat.reduceLT, reduceMul, reduceLeDiff, reduceCtorEq, eN, d1, d2]) | ((first | refine sC ?_ | refine sH ?_ | refine sI ?_ | refine sJ ?_); try simp only [thenK, blockK, loopK, loopG, if_true, if_false, reduceEqDiff]) | refine sD ?_ | refine sE ?_ | refine sF rfl ?_ | refine sG rfl ?_)
  exact ⟨_, _, _, Ghost.refl _ _, rfl, GhostV.refl _ _ _, rfl⟩

theorem join1_ok (a b a' b' : Int) (σ : List Ob) : Ok Tryz.prog 64 [.agg [eI a, eI b], .agg [eI a', eI b']] σ (.ret (eI (cmpF a a'))) σ := by
  refine Ok.of_body layOk Tryz.func64 rfl (by decide) (by simp [Tryz.ntmps64]) fun C hP hn hσ hfix hdd => ?_
  rw [show Tryz.f64.ntmps = 10 from rfl] at hn
  have hL : LayOk C.P L := hP ▸ layOk
  have hm : C.P.follows .mixedOrders = true := hP ▸ mixed
  repeat (first | ((first | refine sA hL hn rfl ?_ | refine sB hL hn rfl ?_); simp only [go_sem, Nat.reduceBEq, Int.reduceLT, Int.reduceLE, reduceAdd, reduceEqDiff, reduceIte, reduceSub, Nat.reduceLT, reduceMul, reduceLeDiff, reduceCtorEq, eI]) | ((first | refine sC ?_ | refine sH ?_ | refine sI ?_ | refine sJ ?_); try simp only [thenK, blockK, loopK, loopG, if_true, if_false, reduceEqDiff]) | refine sD ?_ | refine sE ?_ | refine sF rfl ?_ | refine sG rfl ?_)
  refine sK hP hL hn rfl rfl (cmp_i_ok a a' _) rfl rfl rfl rfl ?_; simp (maxSteps := 2000000) only [go_sem, Nat.reduceBEq, Int.reduceLT, Int.reduceLE, reduceAdd, reduceEqDiff, reduceIte, reduceSub, Nat.reduceLT, reduceMul, reduceLeDiff, reduceCtorEq, eI]
  repeat (first | ((first | refine sA hL hn rfl ?_ | refine sB hL hn rfl ?_); simp only [go_sem, Nat.reduceBEq, Int.reduceLT, Int.reduceLE, reduceAdd, reduceEqDiff, reduceIte, reduceSub, Nat.reduceLT, reduceMul, reduceLeDiff, reduceCtorEq, eI]) | ((first | refine sC ?_ | refine sH ?_ | refine sI ?_ | refine sJ ?_); try simp only [thenK, blockK, loopK, loopG, if_true, if_false, reduceEqDiff]) | refine sD ?_ | refine sE ?_ | refine sF rfl ?_ | refine sG rfl ?_)
  exact ⟨_, _, _, Ghost.refl _ _, rfl, GhostV.none (by rw [hn]; decide) hσ hfix (by simp [lk, low_int, low_bool, low_str, low_nils, low_nilp, low_nilf, low_nili, low_undef, low_skip, low_vec, low_agg, low_tup, low_fn, low_vptr, low_iface, low_ptr, low_sl, low_mp, low_it, low_yld, low_emp, lowEnv, lowObs, lowOb, tmpObs, isArr]) (by simp [lk, low_int, low_bool, low_str, low_nils, low_nilp, low_nilf, low_nili, low_undef, low_skip, low_vec, low_agg, low_tup, low_fn, low_vptr, low_iface, low_ptr, low_sl, low_mp, low_it, low_yld, low_emp, lowEnv, lowObs, lowOb, tmpObs, isArr]), rfl⟩
theorem without2_ok (a b a' b' : Int) (σ : List Ob) : Ok Tryz.prog 53 [.agg [eI a, eI b], .agg [eI a', eI b']] σ (.ret (eI (cmpF a a'))) σ := by
  refine Ok.of_body layOk Tryz.func53 rfl (by decide) (by simp [Tryz.ntmps53]) fun C hP hn hσ hfix hdd => ?_
  rw [show Tryz.f53.ntmps = 10 from rfl] at hn
  have hL : LayOk C.P L := hP ▸ layOk
  have hm : C.P.follows .mixedOrders = true := hP ▸ mixed
  repeat (first | ((first | refine sA hL hn rfl ?_ | refine sB hL hn rfl ?_); simp only [go_sem, Nat.reduceBEq, Int.reduceLT, Int.reduceLE, reduceAdd, reduceEqDiff, reduceIte, reduceSub, Nat.reduceLT, reduceMul, reduceLeDiff, reduceCtorEq, eI]) | ((first | refine sC ?_ | refine sH ?_ | refine sI ?_ | refine sJ ?_); try simp only [thenK, blockK, loopK, loopG, if_true, if_false, reduceEqDiff]) | refine sD ?_ | refine sE ?_ | refine sF rfl ?_ | refine sG rfl ?_)
  refine sK hP hL hn rfl rfl (cmp_i_ok a a' _) rfl rfl rfl rfl ?_; simp (maxSteps := 2000000) only [go_sem, Nat.reduceBEq, Int.reduceLT, Int.reduceLE, reduceAdd, reduceEqDiff, reduceIte, reduceSub, Nat.reduceLT, reduceMul, reduceLeDiff, reduceCtorEq, eI]
  repeat (first | ((first | refine sA hL hn rfl ?_ | refine sB hL hn rfl ?_); simp only [go_sem, Nat.reduceBEq, Int.reduceLT, Int.reduceLE, reduceAdd, reduceEqDiff, reduceIte, reduceSub, Nat.reduceLT, reduceMul, reduceLeDiff, reduceCtorEq, eI]) | ((first | refine sC ?_ | refine sH ?_ | refine sI ?_ | refine sJ ?_); try simp only [thenK, blockK, loopK, loopG, if_true, if_false, reduceEqDiff]) | refine sD ?_ | refine sE ?_ | refine sF rfl ?_ | refine sG rfl ?_)
  exact ⟨_, _, _, Ghost.refl _ _, rfl, GhostV.none (by rw [hn]; decide) hσ hfix (by simp [lk, low_int, low_bool, low_str, low_nils, low_nilp, low_nilf, low_nili, low_undef, low_skip, low_vec, low_agg, low_tup, low_fn, low_vptr, low_iface, low_ptr, low_sl, low_mp, low_it, low_yld, low_emp, lowEnv, lowObs, lowOb, tmpObs, isArr]) (by simp [lk, low_int, low_bool, low_str, low_nils, low_nilp, low_nilf, low_nili, low_undef, low_skip, low_vec, low_agg, low_tup, low_fn, low_vptr, low_iface, low_ptr, low_sl, low_mp, low_it, low_yld, low_emp, lowEnv, lowObs, lowOb, tmpObs, isArr]), rfl⟩
theorem items1_ok (a b a' b' : Int) (σ : List Ob) : Ok Tryz.prog 42 [.agg [eN a, eN b], .agg [eN a', eN b']] σ (.ret (eI (cmpF a a'))) σ := by
  refine Ok.of_body layOk Tryz.func42 rfl (by decide) (by simp [Tryz.ntmps42]) fun C hP hn hσ hfix hdd => ?_
  rw [show Tryz.f42.ntmps = 10 from rfl] at hn
  have hL : LayOk C.P L := hP ▸ layOk
  have hm : C.P.follows .mixedOrders = true := hP ▸ mixed
  repeat (first | ((first | refine sA hL hn rfl ?_ | refine sB hL hn rfl ?_); simp only [go_sem, Nat.reduceBEq, Int.reduceLT, Int.reduceLE, reduceAdd, reduceEqDiff, reduceIte, reduceSub, Nat.reduceLT, reduceMul, reduceLeDiff, reduceCtorEq, eN]) | ((first | refine sC ?_ | refine sH ?_ | refine sI ?_ | refine sJ ?_); try simp only [thenK, blockK, loopK, loopG, if_true, if_false, reduceEqDiff]) | refine sD ?_ | refine sE ?_ | refine sF rfl ?_ | refine sG rfl ?_)
  refine sK hP hL hn rfl rfl (cmp_n_ok a a' _) rfl rfl rfl rfl ?_; simp (maxSteps := 2000000) only [go_sem, Nat.reduceBEq, Int.reduceLT, Int.reduceLE, reduceAdd, reduceEqDiff, reduceIte, reduceSub, Nat.reduceLT, reduceMul, reduceLeDiff, reduceCtorEq, eN]
  repeat (first | ((first | refine sA hL hn rfl ?_ | refine sB hL hn rfl ?_); simp only [go_sem, Nat.reduceBEq, Int.reduceLT, Int.reduceLE, reduceAdd, reduceEqDiff, reduceIte, reduceSub, Nat.reduceLT, reduceMul, reduceLeDiff, reduceCtorEq, eI]) | ((first | refine sC ?_ | refine sH ?_ | refine sI ?_ | refine sJ ?_); try simp only [thenK, blockK, loopK, loopG, if_true, if_false, reduceEqDiff]) | refine sD ?_ | refine sE ?_ | refine sF rfl ?_ | refine sG rfl ?_)
  exact ⟨_, _, _, Ghost.refl _ _, rfl, GhostV.none (by rw [hn]; decide) hσ hfix (by simp [lk, low_int, low_bool, low_str, low_nils, low_nilp, low_nilf, low_nili, low_undef, low_skip, low_vec, low_agg, low_tup, low_fn, low_vptr, low_iface, low_ptr, low_sl, low_mp, low_it, low_yld, low_emp, lowEnv, lowObs, lowOb, tmpObs, isArr, eI]) (by simp [lk, low_int, low_bool, low_str, low_nils, low_nilp, low_nilf, low_nili, low_undef, low_skip, low_vec, low_agg, low_tup, low_fn, low_vptr, low_iface, low_ptr, low_sl, low_mp, low_it, low_yld, low_emp, lowEnv, lowObs, lowOb, tmpObs, isArr, eI]), rfl⟩
/-- Of a snapshot only the number is looked at. -/
theorem told1_ok (a a' : Int) (σ : List Ob) : Ok Tryz.prog 36 [.agg [eI a, .undef, .undef, .undef], .agg [eI a', .undef, .undef, .undef]] σ (.ret (eI (cmpF a a'))) σ := by
  refine Ok.of_body layOk Tryz.func36 rfl (by decide) (by simp [Tryz.ntmps36]) fun C hP hn hσ hfix hdd => ?_
  rw [show Tryz.f36.ntmps = 10 from rfl] at hn
  have hL : LayOk C.P L := hP ▸ layOk
  have hm : C.P.follows .mixedOrders = true := hP ▸ mixed
  repeat (first | ((first | refine sA hL hn rfl ?_ | refine sB hL hn rfl ?_); simp only [go_sem, Nat.reduceBEq, Int.reduceLT, Int.reduceLE, reduceAdd, reduceEqDiff, reduceIte, reduceSub, Nat.reduceLT, reduceMul, reduceLeDiff, reduceCtorEq, eI]) | ((first | refine sC ?_ | refine sH ?_ | refine sI ?_ | refine sJ ?_); try simp only [thenK, blockK, loopK, loopG, if_true, if_false, reduceEqDiff]) | refine sD ?_ | refine sE ?_ | refine sF rfl ?_ | refine sG rfl ?_)
  refine sK hP hL hn rfl rfl (cmp_i_ok a a' _) rfl rfl rfl rfl ?_; simp (maxSteps := 2000000) only [go_sem, Nat.reduceBEq, Int.reduceLT, Int.reduceLE, reduceAdd, reduceEqDiff, reduceIte, reduceSub, Nat.reduceLT, reduceMul, reduceLeDiff, reduceCtorEq, eI]
  repeat (first | ((first | refine sA hL hn rfl ?_ | refine sB hL hn rfl ?_); simp only [go_sem, Nat.reduceBEq, Int.reduceLT, Int.reduceLE, reduceAdd, reduceEqDiff, reduceIte, reduceSub, Nat.reduceLT, reduceMul, reduceLeDiff, reduceCtorEq, eI]) | ((first | refine sC ?_ | refine sH ?_ | refine sI ?_ | refine sJ ?_); try simp only [thenK, blockK, loopK, loopG, if_true, if_false, reduceEqDiff]) | refine sD ?_ | refine sE ?_ | refine sF rfl ?_ | refine sG rfl ?_)
  exact ⟨_, _, _, Ghost.refl _ _, rfl, GhostV.none (by rw [hn]; decide) hσ hfix (by simp [lk, low_int, low_bool, low_str, low_nils, low_nilp, low_nilf, low_nili, low_undef, low_skip, low_vec, low_agg, low_tup, low_fn, low_vptr, low_iface, low_ptr, low_sl, low_mp, low_it, low_yld, low_emp, lowEnv, lowObs, lowOb, tmpObs, isArr]) (by simp [lk, low_int, low_bool, low_str, low_nils, low_nilp, low_nilf, low_nili, low_undef, low_skip, low_vec, low_agg, low_tup, low_fn, low_vptr, low_iface, low_ptr, low_sl, low_mp, low_it, low_yld, low_emp, lowEnv, lowObs, lowOb, tmpObs, isArr]), rfl⟩
def orF : List Int → Int
  | [] => 0
  | a :: r => if a = 0 then orF r else a
theorem or_ok (xs : List Int) (id : Nat) (σ : List Ob) (hid : σ[id]? = some (.arr 3 1 (xs.map eI))) (hl : xs.length ≤ 100) : Ok Tryz.prog 78 [.sl id xs.length 0 xs.length] σ (.ret (eI (orF xs))) σ := by
  refine Ok.of_body layOk Tryz.func78 rfl (by decide) (by simp [Tryz.ntmps78]) fun C hP hn hσ hfix hdd => ?_
  rw [show Tryz.f78.ntmps = 18 from rfl] at hn
  have hL : LayOk C.P L := hP ▸ layOk
  have hm : C.P.follows .mixedOrders = true := hP ▸ mixed
  repeat (first | ((first | refine sA hL hn rfl ?_ | refine sB hL hn rfl ?_); simp only [go_sem, Nat.reduceBEq, Int.reduceLT, Int.reduceLE, reduceAdd, reduceEqDiff, reduceIte, reduceSub, Nat.reduceLT, reduceMul, reduceLeDiff, reduceCtorEq, eI]) | ((first | refine sC ?_ | refine sH ?_ | refine sI ?_ | refine sJ ?_); try simp only [thenK, blockK, loopK, loopG, if_true, if_false, reduceEqDiff]) | refine sD ?_ | refine sE ?_ | refine sF rfl ?_ | refine sG rfl ?_)
  refine SW.lpg (fun k : Nat => ⟨[(3, eI 0), (6, .sl id xs.length 0 xs.length), (7, eI xs.length), (8, eI k)], σ⟩) (fun k => xs.length - k) (fun k => k ≤ xs.length ∧ orF (xs.drop k) = orF xs) 0 ⟨by omega, rfl⟩ (.of rfl ⟨rfl, rfl, rfl, rfl, trivial⟩) ?_
  intro k ⟨hk, ho⟩
  by_cases hlt : k < xs.length
  · have e1 : decide ((k : Int) < (xs.length : Int)) = true := decide_eq_true (by omega)
    have e2 : (0 ≤ (k : Int) ∧ (k : Int) < (xs.length : Int)) := by omega
    have e3 : (xs.map eI)[k]? = some (.int .i64 xs[k]) := by simp [hlt, eI]
    have w1 : IntKind.i64.wrap ((k : Int) + 1) = ((k + 1 : Nat) : Int) := wi (by omega) (by omega)
    rw [List.drop_eq_getElem_cons hlt] at ho
    by_cases hz : xs[k] = 0
    · have d1 : (xs[k] != 0) = false := by simpa using hz
      repeat (first | ((first | refine sA hL hn rfl ?_ | refine sB hL hn rfl ?_); simp only [go_sem, Nat.reduceBEq, Int.reduceLT, Int.reduceLE, reduceAdd, reduceEqDiff, reduceIte, reduceSub, Nat.reduceLT, reduceMul, reduceLeDiff, reduceCtorEq, eI, e1, hid, List.length_map, e2, e3, d1, w1]) | ((first | refine sC ?_ | refine sH ?_ | refine sI ?_ | refine sJ ?_); try simp only [thenK, blockK, loopK, loopG, if_true, if_false, reduceEqDiff]) | refine sD ?_ | refine sE ?_ | refine sF rfl ?_ | refine sG rfl ?_)
      exact Lp.nextg (k + 1) ⟨by omega, by rw [← ho]; simp [orF, hz]⟩ (by omega) (.of rfl ⟨rfl, rfl, rfl, rfl, trivial⟩)
    · have d1 : (xs[k] != 0) = true := by simpa using hz
      repeat (first | ((first | refine sA hL hn rfl ?_ | refine sB hL hn rfl ?_); simp only [go_sem, Nat.reduceBEq, Int.reduceLT, Int.reduceLE, reduceAdd, reduceEqDiff, reduceIte, reduceSub, Nat.reduceLT, reduceMul, reduceLeDiff, reduceCtorEq, eI, e1, hid, List.length_map, e2, e3, d1, w1]) | ((first | refine sC ?_ | refine sH ?_ | refine sI ?_ | refine sJ ?_); try simp only [thenK, blockK, loopK, loopG, if_true, if_false, reduceEqDiff]) | refine sD ?_ | refine sE ?_ | refine sF rfl ?_ | refine sG rfl ?_)
      rw [← ho]
      simp only [orF, if_neg hz]
      exact ⟨_, _, _, Ghost.refl _ _, rfl, GhostV.refl _ _ _, rfl⟩
  · have e1 : decide ((k : Int) < (xs.length : Int)) = false := decide_eq_false (by omega)
    rw [List.drop_eq_nil_of_le (by omega)] at ho
    rw [← ho]
    repeat (first | ((first | refine sA hL hn rfl ?_ | refine sB hL hn rfl ?_); simp only [go_sem, Nat.reduceBEq, Int.reduceLT, Int.reduceLE, reduceAdd, reduceEqDiff, reduceIte, reduceSub, Nat.reduceLT, reduceMul, reduceLeDiff, reduceCtorEq, eI, e1]) | ((first | refine sC ?_ | refine sH ?_ | refine sI ?_ | refine sJ ?_); try simp only [thenK, blockK, loopK, loopG, if_true, if_false, reduceEqDiff]) | refine sD ?_ | refine sE ?_ | refine sF rfl ?_ | refine sG rfl ?_)
    exact ⟨_, _, _, Ghost.refl _ _, rfl, GhostV.refl _ _ _, rfl⟩
def orderF (p o v p' o' v' : Int) : Int := orF [cmpF p p', cmpF o o', cmpF v v']
theorem order_ok (p l o v p' l' o' v' : Int) (σ : List Ob) : Ok Tryz.prog 59 [.agg [eI p, eI l, eI o, eI v], .agg [eI p', eI l', eI o', eI v']] σ (.ret (eI (orderF p o v p' o' v'))) σ := by
  refine Ok.of_body layOk Tryz.func59 rfl (by decide) (by simp [Tryz.ntmps59]) fun C hP hn hσ hfix hdd => ?_
  rw [show Tryz.f59.ntmps = 22 from rfl] at hn
  have hL : LayOk C.P L := hP ▸ layOk
  have hm : C.P.follows .mixedOrders = true := hP ▸ mixed
  repeat (first | ((first | refine sA hL hn rfl ?_ | refine sB hL hn rfl ?_); simp only [go_sem, Nat.reduceBEq, Int.reduceLT, Int.reduceLE, reduceAdd, reduceEqDiff, reduceIte, reduceSub, Nat.reduceLT, reduceMul, reduceLeDiff, reduceCtorEq, eI]) | ((first | refine sC ?_ | refine sH ?_ | refine sI ?_ | refine sJ ?_); try simp only [thenK, blockK, loopK, loopG, if_true, if_false, reduceEqDiff]) | refine sD ?_ | refine sE ?_ | refine sF rfl ?_ | refine sG rfl ?_)
  refine sM hL hm hn di59_1 [σ ++ [.arr 94 4 [.agg [eI p, eI l, eI o, eI v]], .arr 94 4 [.agg [eI p', eI l', eI o', eI v']]], σ ++ [.arr 94 4 [.agg [eI p, eI l, eI o, eI v]], .arr 94 4 [.agg [eI p', eI l', eI o', eI v']], .arr 3 1 [eI (cmpF p p'), eI (cmpF o o'), eI (cmpF v v')]]] rfl rfl rfl ?_
  unfold di59_1; simp (maxSteps := 2000000) only [go_sem, Nat.reduceBEq, Int.reduceLT, Int.reduceLE, reduceAdd, reduceEqDiff, reduceIte, reduceSub, Nat.reduceLT, reduceMul, reduceLeDiff, reduceCtorEq, dgo_nil, dgo_cons, eI]
  refine DCall.pure hP (fun q _ => cmp_i_ok p p' _) rfl rfl rfl rfl ?_; simp (maxSteps := 2000000) only [go_sem, Nat.reduceBEq, Int.reduceLT, Int.reduceLE, reduceAdd, reduceEqDiff, reduceIte, reduceSub, Nat.reduceLT, reduceMul, reduceLeDiff, reduceCtorEq, dgo_nil, dgo_cons, eI]
  refine DCall.pure hP (fun q _ => cmp_i_ok o o' _) rfl rfl rfl rfl ?_; simp (maxSteps := 2000000) only [go_sem, Nat.reduceBEq, Int.reduceLT, Int.reduceLE, reduceAdd, reduceEqDiff, reduceIte, reduceSub, Nat.reduceLT, reduceMul, reduceLeDiff, reduceCtorEq, dgo_nil, dgo_cons, eI]
  refine DCall.pure hP (fun q _ => cmp_i_ok v v' _) rfl rfl rfl rfl ?_; simp (maxSteps := 2000000) only [go_sem, Nat.reduceBEq, Int.reduceLT, Int.reduceLE, reduceAdd, reduceEqDiff, reduceIte, reduceSub, Nat.reduceLT, reduceMul, reduceLeDiff, reduceCtorEq, dgo_nil, dgo_cons, eI]
  refine DCall.pure1 hP (or_ok [cmpF p p', cmpF o o', cmpF v v'] (σ.length + 2) (σ ++ [.arr 94 4 [.agg [eI p, eI l, eI o, eI v]], .arr 94 4 [.agg [eI p', eI l', eI o', eI v']], .arr 3 1 [eI (cmpF p p'), eI (cmpF o o'), eI (cmpF v v')]]) (by simp [own_get, eI]) (by simp)) rfl rfl rfl rfl rfl rfl ?_; simp (maxSteps := 2000000) only [go_sem, Nat.reduceBEq, Int.reduceLT, Int.reduceLE, reduceAdd, reduceEqDiff, reduceIte, reduceSub, Nat.reduceLT, reduceMul, reduceLeDiff, reduceCtorEq, dgo_nil, dgo_cons, eI]
  repeat (first | ((first | refine sA hL hn rfl ?_ | refine sB hL hn rfl ?_); simp only [go_sem, Nat.reduceBEq, Int.reduceLT, Int.reduceLE, reduceAdd, reduceEqDiff, reduceIte, reduceSub, Nat.reduceLT, reduceMul, reduceLeDiff, reduceCtorEq, eI]) | ((first | refine sC ?_ | refine sH ?_ | refine sI ?_ | refine sJ ?_); try simp only [thenK, blockK, loopK, loopG, if_true, if_false, reduceEqDiff]) | refine sD ?_ | refine sE ?_ | refine sF rfl ?_ | refine sG rfl ?_)
  exact ⟨_, _, _, Ghost.refl _ _, rfl, GhostV.none (by rw [hn]; decide) hσ hfix (by simp [lk, low_int, low_bool, low_str, low_nils, low_nilp, low_nilf, low_nili, low_undef, low_skip, low_vec, low_agg, low_tup, low_fn, low_vptr, low_iface, low_ptr, low_sl, low_mp, low_it, low_yld, low_emp, lowEnv, lowObs, lowOb, tmpObs, isArr, eI, orderF]) (by simp [lk, low_int, low_bool, low_str, low_nils, low_nilp, low_nilf, low_nili, low_undef, low_skip, low_vec, low_agg, low_tup, low_fn, low_vptr, low_iface, low_ptr, low_sl, low_mp, low_it, low_yld, low_emp, lowEnv, lowObs, lowOb, tmpObs, isArr, eI, orderF]), rfl⟩
end Go.VL
end
section
set_option linter.unusedSimpArgs false
set_option linter.unusedVariables false
set_option maxRecDepth 10000
namespace Go.VL
open Go Go.Proofs
open Nat (reduceAdd reduceEqDiff reduceSub reduceMul reduceLeDiff)

abbrev w64 (n : Int) : Int := IntKind.i64.wrap n
def fitsF (a n : Int) : Bool := decide (mn a n ≥ 0) && decide (a ≤ 65536) && decide (n ≤ w64 (65536 - a))
theorem fits_ok (a n : Int) (σ : List Ob) : Ok Tryz.prog 87 [eI a, eI n] σ (.ret (.bool (fitsF a n))) σ := by
  refine Ok.of_body layOk Tryz.func87 rfl (by decide) (by simp [Tryz.ntmps87]) fun C hP hn hσ hfix hdd => ?_
  rw [show Tryz.f87.ntmps = 19 from rfl] at hn
  have hL : LayOk C.P L := hP ▸ layOk
  have hm : C.P.follows .mixedOrders = true := hP ▸ mixed
  unfold fitsF
  cases h1 : decide (mn a n ≥ 0) <;> cases h2 : decide (a ≤ 65536) <;> cases h3 : decide (n ≤ w64 (65536 - a))
  all_goals
    repeat (first | ((first | refine sA hL hn rfl ?_ | refine sB hL hn rfl ?_); simp only [go_sem, Nat.reduceBEq, Int.reduceLT, Int.reduceLE, reduceAdd, reduceEqDiff, reduceIte, reduceSub, Nat.reduceLT, reduceMul, reduceLeDiff, reduceCtorEq, eI, h1, h2, h3]) | ((first | refine sC ?_ | refine sH ?_ | refine sI ?_ | refine sJ ?_); try simp only [thenK, blockK, loopK, loopG, if_true, if_false, reduceEqDiff]) | refine sD ?_ | refine sE ?_ | refine sF rfl ?_ | refine sG rfl ?_)
    exact ⟨_, _, _, Ghost.refl _ _, rfl, GhostV.refl _ _ _, rfl⟩
/-- An extent. -/
structure Ex where
  v : Int
  p : Int
  l : Int
  deriving DecidableEq
def eX (x : Ex) : DV := .agg [eI x.v, eI x.p, eI x.l]
def mayF (x : Ex) : Bool := decide (x.l > 0) && fitsF x.v x.l && fitsF x.p x.l
theorem may_ok (x : Ex) (σ : List Ob) : Ok Tryz.prog 62 [eX x] σ (.ret (.bool (mayF x))) σ := by
  refine Ok.of_body layOk Tryz.func62 rfl (by decide) (by simp [Tryz.ntmps62]) fun C hP hn hσ hfix hdd => ?_
  rw [show Tryz.f62.ntmps = 20 from rfl] at hn
  have hL : LayOk C.P L := hP ▸ layOk
  have hm : C.P.follows .mixedOrders = true := hP ▸ mixed
  unfold mayF
  cases h1 : decide (x.l > 0)
  · repeat (first | ((first | refine sA hL hn rfl ?_ | refine sB hL hn rfl ?_); simp only [go_sem, Nat.reduceBEq, Int.reduceLT, Int.reduceLE, reduceAdd, reduceEqDiff, reduceIte, reduceSub, Nat.reduceLT, reduceMul, reduceLeDiff, reduceCtorEq, eX, eI, h1]) | ((first | refine sC ?_ | refine sH ?_ | refine sI ?_ | refine sJ ?_); try simp only [thenK, blockK, loopK, loopG, if_true, if_false, reduceEqDiff]) | refine sD ?_ | refine sE ?_ | refine sF rfl ?_ | refine sG rfl ?_)
    exact ⟨_, _, _, Ghost.refl _ _, rfl, GhostV.none (by rw [hn]; decide) hσ hfix (by simp [lk, low_int, low_bool, low_str, low_nils, low_nilp, low_nilf, low_nili, low_undef, low_skip, low_vec, low_agg, low_tup, low_fn, low_vptr, low_iface, low_ptr, low_sl, low_mp, low_it, low_yld, low_emp, lowEnv, lowObs, lowOb, tmpObs, isArr, eX, eI]) (by simp [lk, low_int, low_bool, low_str, low_nils, low_nilp, low_nilf, low_nili, low_undef, low_skip, low_vec, low_agg, low_tup, low_fn, low_vptr, low_iface, low_ptr, low_sl, low_mp, low_it, low_yld, low_emp, lowEnv, lowObs, lowOb, tmpObs, isArr, eX, eI]), rfl⟩
  cases h2 : fitsF x.v x.l
  · repeat (first | ((first | refine sA hL hn rfl ?_ | refine sB hL hn rfl ?_); simp only [go_sem, Nat.reduceBEq, Int.reduceLT, Int.reduceLE, reduceAdd, reduceEqDiff, reduceIte, reduceSub, Nat.reduceLT, reduceMul, reduceLeDiff, reduceCtorEq, eX, eI, h1]) | ((first | refine sC ?_ | refine sH ?_ | refine sI ?_ | refine sJ ?_); try simp only [thenK, blockK, loopK, loopG, if_true, if_false, reduceEqDiff]) | refine sD ?_ | refine sE ?_ | refine sF rfl ?_ | refine sG rfl ?_)
    refine sK hP hL hn rfl rfl (fits_ok x.v x.l _) rfl rfl rfl rfl ?_; simp (maxSteps := 2000000) only [go_sem, Nat.reduceBEq, Int.reduceLT, Int.reduceLE, reduceAdd, reduceEqDiff, reduceIte, reduceSub, Nat.reduceLT, reduceMul, reduceLeDiff, reduceCtorEq, eI, h2]
    repeat (first | ((first | refine sA hL hn rfl ?_ | refine sB hL hn rfl ?_); simp only [go_sem, Nat.reduceBEq, Int.reduceLT, Int.reduceLE, reduceAdd, reduceEqDiff, reduceIte, reduceSub, Nat.reduceLT, reduceMul, reduceLeDiff, reduceCtorEq, eI]) | ((first | refine sC ?_ | refine sH ?_ | refine sI ?_ | refine sJ ?_); try simp only [thenK, blockK, loopK, loopG, if_true, if_false, reduceEqDiff]) | refine sD ?_ | refine sE ?_ | refine sF rfl ?_ | refine sG rfl ?_)
    exact ⟨_, _, _, Ghost.refl _ _, rfl, GhostV.none (by rw [hn]; decide) hσ hfix (by simp [lk, low_int, low_bool, low_str, low_nils, low_nilp, low_nilf, low_nili, low_undef, low_skip, low_vec, low_agg, low_tup, low_fn, low_vptr, low_iface, low_ptr, low_sl, low_mp, low_it, low_yld, low_emp, lowEnv, lowObs, lowOb, tmpObs, isArr, eX, eI]) (by simp [lk, low_int, low_bool, low_str, low_nils, low_nilp, low_nilf, low_nili, low_undef, low_skip, low_vec, low_agg, low_tup, low_fn, low_vptr, low_iface, low_ptr, low_sl, low_mp, low_it, low_yld, low_emp, lowEnv, lowObs, lowOb, tmpObs, isArr, eX, eI]), rfl⟩
  repeat (first | ((first | refine sA hL hn rfl ?_ | refine sB hL hn rfl ?_); simp only [go_sem, Nat.reduceBEq, Int.reduceLT, Int.reduceLE, reduceAdd, reduceEqDiff, reduceIte, reduceSub, Nat.reduceLT, reduceMul, reduceLeDiff, reduceCtorEq, eX, eI, h1]) | ((first | refine sC ?_ | refine sH ?_ | refine sI ?_ | refine sJ ?_); try simp only [thenK, blockK, loopK, loopG, if_true, if_false, reduceEqDiff]) | refine sD ?_ | refine sE ?_ | refine sF rfl ?_ | refine sG rfl ?_)
  refine sK hP hL hn rfl rfl (fits_ok x.v x.l _) rfl rfl rfl rfl ?_; simp (maxSteps := 2000000) only [go_sem, Nat.reduceBEq, Int.reduceLT, Int.reduceLE, reduceAdd, reduceEqDiff, reduceIte, reduceSub, Nat.reduceLT, reduceMul, reduceLeDiff, reduceCtorEq, eI, h2]
  refine sK hP hL hn rfl rfl (fits_ok x.p x.l _) rfl rfl rfl rfl ?_; simp (maxSteps := 2000000) only [go_sem, Nat.reduceBEq, Int.reduceLT, Int.reduceLE, reduceAdd, reduceEqDiff, reduceIte, reduceSub, Nat.reduceLT, reduceMul, reduceLeDiff, reduceCtorEq, eI]
  repeat (first | ((first | refine sA hL hn rfl ?_ | refine sB hL hn rfl ?_); simp only [go_sem, Nat.reduceBEq, Int.reduceLT, Int.reduceLE, reduceAdd, reduceEqDiff, reduceIte, reduceSub, Nat.reduceLT, reduceMul, reduceLeDiff, reduceCtorEq, eI]) | ((first | refine sC ?_ | refine sH ?_ | refine sI ?_ | refine sJ ?_); try simp only [thenK, blockK, loopK, loopG, if_true, if_false, reduceEqDiff]) | refine sD ?_ | refine sE ?_ | refine sF rfl ?_ | refine sG rfl ?_)
  exact ⟨_, _, _, Ghost.refl _ _, rfl, GhostV.none (by rw [hn]; decide) hσ hfix (by simp [lk, low_int, low_bool, low_str, low_nils, low_nilp, low_nilf, low_nili, low_undef, low_skip, low_vec, low_agg, low_tup, low_fn, low_vptr, low_iface, low_ptr, low_sl, low_mp, low_it, low_yld, low_emp, lowEnv, lowObs, lowOb, tmpObs, isArr, eX, eI]) (by simp [lk, low_int, low_bool, low_str, low_nils, low_nilp, low_nilf, low_nili, low_undef, low_skip, low_vec, low_agg, low_tup, low_fn, low_vptr, low_iface, low_ptr, low_sl, low_mp, low_it, low_yld, low_emp, lowEnv, lowObs, lowOb, tmpObs, isArr, eX, eI]), rfl⟩
def goesOnF (a b : Ex) : Bool := if w64 (a.v + a.l) != b.v then false else if (a.p == -1) != (b.p == -1) then false else (a.p == -1) || (w64 (a.p + a.l) == b.p)
theorem goesOn_ok (a b : Ex) (σ : List Ob) : Ok Tryz.prog 63 [eX a, eX b] σ (.ret (.bool (goesOnF a b))) σ := by
  refine Ok.of_body layOk Tryz.func63 rfl (by decide) (by simp [Tryz.ntmps63]) fun C hP hn hσ hfix hdd => ?_
  rw [show Tryz.f63.ntmps = 35 from rfl] at hn
  have hL : LayOk C.P L := hP ▸ layOk
  have hm : C.P.follows .mixedOrders = true := hP ▸ mixed
  unfold goesOnF
  cases h1 : w64 (a.v + a.l) != b.v <;> cases h2 : (a.p == -1) <;> cases h3 : (b.p == -1) <;> cases h4 : (w64 (a.p + a.l) == b.p)
  all_goals
    repeat (first | ((first | refine sA hL hn rfl ?_ | refine sB hL hn rfl ?_); simp only [go_sem, Nat.reduceBEq, Int.reduceLT, Int.reduceLE, reduceAdd, reduceEqDiff, reduceIte, reduceSub, Nat.reduceLT, reduceMul, reduceLeDiff, reduceCtorEq, eX, eI, h1, h2, h3, h4, bne_self_eq_false, Bool.true_bne, Bool.false_bne]) | ((first | refine sC ?_ | refine sH ?_ | refine sI ?_ | refine sJ ?_); try simp only [thenK, blockK, loopK, loopG, if_true, if_false, reduceEqDiff]) | refine sD ?_ | refine sE ?_ | refine sF rfl ?_ | refine sG rfl ?_)
    exact ⟨_, _, _, Ghost.refl _ _, rfl, GhostV.none (by rw [hn]; decide) hσ hfix (by simp [lk, low_int, low_bool, low_str, low_nils, low_nilp, low_nilf, low_nili, low_undef, low_skip, low_vec, low_agg, low_tup, low_fn, low_vptr, low_iface, low_ptr, low_sl, low_mp, low_it, low_yld, low_emp, lowEnv, lowObs, lowOb, tmpObs, isArr, eX, eI]) (by simp [lk, low_int, low_bool, low_str, low_nils, low_nilp, low_nilf, low_nili, low_undef, low_skip, low_vec, low_agg, low_tup, low_fn, low_vptr, low_iface, low_ptr, low_sl, low_mp, low_it, low_yld, low_emp, lowEnv, lowObs, lowOb, tmpObs, isArr, eX, eI]), rfl⟩
/-- A span. -/
structure Sp where
  a : Int
  l : Int
  deriving DecidableEq
def eS (x : Sp) : DV := .agg [eI x.a, eI x.l]
def insideF (x : Sp) (n : Int) : Bool := decide (x.l > 0) && decide (x.a ≥ 0) && decide (x.a < n) && decide (x.l ≤ w64 (n - x.a))
theorem inside_ok (x : Sp) (n : Int) (σ : List Ob) : Ok Tryz.prog 44 [eS x, eI n] σ (.ret (.bool (insideF x n))) σ := by
  refine Ok.of_body layOk Tryz.func44 rfl (by decide) (by simp [Tryz.ntmps44]) fun C hP hn hσ hfix hdd => ?_
  rw [show Tryz.f44.ntmps = 28 from rfl] at hn
  have hL : LayOk C.P L := hP ▸ layOk
  have hm : C.P.follows .mixedOrders = true := hP ▸ mixed
  unfold insideF
  cases h1 : decide (x.l > 0) <;> cases h2 : decide (x.a ≥ 0) <;> cases h3 : decide (x.a < n) <;> cases h4 : decide (x.l ≤ w64 (n - x.a))
  all_goals
    repeat (first | ((first | refine sA hL hn rfl ?_ | refine sB hL hn rfl ?_); simp only [go_sem, Nat.reduceBEq, Int.reduceLT, Int.reduceLE, reduceAdd, reduceEqDiff, reduceIte, reduceSub, Nat.reduceLT, reduceMul, reduceLeDiff, reduceCtorEq, eS, eI, h1, h2, h3, h4]) | ((first | refine sC ?_ | refine sH ?_ | refine sI ?_ | refine sJ ?_); try simp only [thenK, blockK, loopK, loopG, if_true, if_false, reduceEqDiff]) | refine sD ?_ | refine sE ?_ | refine sF rfl ?_ | refine sG rfl ?_)
    exact ⟨_, _, _, Ghost.refl _ _, rfl, GhostV.none (by rw [hn]; decide) hσ hfix (by simp [lk, low_int, low_bool, low_str, low_nils, low_nilp, low_nilf, low_nili, low_undef, low_skip, low_vec, low_agg, low_tup, low_fn, low_vptr, low_iface, low_ptr, low_sl, low_mp, low_it, low_yld, low_emp, lowEnv, lowObs, lowOb, tmpObs, isArr, eS, eI]) (by simp [lk, low_int, low_bool, low_str, low_nils, low_nilp, low_nilf, low_nili, low_undef, low_skip, low_vec, low_agg, low_tup, low_fn, low_vptr, low_iface, low_ptr, low_sl, low_mp, low_it, low_yld, low_emp, lowEnv, lowObs, lowOb, tmpObs, isArr, eS, eI]), rfl⟩
end Go.VL
end
section
set_option linter.unusedSimpArgs false
set_option linter.unusedVariables false
set_option maxRecDepth 10000
set_option maxHeartbeats 4000000
namespace Go.VL
open Go Go.Proofs
open Nat (reduceAdd reduceEqDiff reduceSub reduceMul reduceLeDiff)
def di45_6 : List DI := [⟨[4], [], false, [0], some 15, []⟩, ⟨[15], [0], false, [0], some 16, [0]⟩, ⟨[16], [0, 1], false, [0], some 17, [1]⟩, ⟨[17], [0, 1, 2], false, [0], some 18, [2, 1]⟩, ⟨[3, 18], rg 0 4, false, [0], some 19, [3]⟩, ⟨[18, 19], rg 0 5, false, [0], some 20, [4, 3]⟩, ⟨[18, 20], rg 0 6, false, [0], some 21, [5, 3, 3]⟩, ⟨[0, 21], rg 0 7, false, [0], some 22, [6]⟩, ⟨[3, 21], rg 0 7, false, [0], some 23, [6]⟩, ⟨[21, 23], (rg 0 7 ++ [8]), false, [0], some 24, [8, 6]⟩, ⟨[21, 22, 24], rg 0 10, false, [0], some 25, [7, 9, 6]⟩, ⟨[21, 25], rg 0 11, false, [0], some 26, [10, 6]⟩, ⟨[21, 26], rg 0 12, false, [0], some 27, [11, 6]⟩, ⟨[0, 21], rg 0 7, false, [0], some 28, [6]⟩, ⟨[3, 21], rg 0 7, false, [0], some 29, [6]⟩, ⟨[21, 29], (rg 0 7 ++ [14]), false, [0], some 30, [14, 6]⟩, ⟨[21, 28, 30], (rg 0 7 ++ [13, 14, 15]), false, [0], some 31, [13, 15, 6]⟩, ⟨[21, 31], (rg 0 7 ++ rg 13 4), false, [0], some 32, [16, 6]⟩, ⟨[21, 32], (rg 0 7 ++ rg 13 5), false, [0], some 33, [17, 6]⟩, ⟨[21, 27, 33], rg 0 19, false, [0], some 34, [12, 18, 6]⟩, ⟨[4, 21], rg 0 7, false, [0], some 35, [6]⟩, ⟨[21, 35], (rg 0 7 ++ [20]), false, [0], some 36, [20, 6]⟩, ⟨[21, 34, 36], rg 0 22, false, [0], some 37, [19, 21, 6]⟩, ⟨[21, 37], rg 0 23, false, [0], some 38, [22, 6, 6]⟩, ⟨[0, 38], rg 0 24, false, [0], some 39, [23]⟩, ⟨[3, 38], rg 0 24, false, [0], some 40, [23]⟩, ⟨[38, 40], (rg 0 24 ++ [25]), false, [0], some 41, [25, 23]⟩, ⟨[38, 39, 41], rg 0 27, false, [0], some 42, [24, 26, 23]⟩, ⟨[38, 42], rg 0 28, false, [0], some 43, [27, 23]⟩, ⟨[4, 38], rg 0 24, false, [0], some 44, [23]⟩, ⟨[38, 43, 44], rg 0 30, false, [0], some 45, [28, 29, 23, 23]⟩, ⟨[21, 38, 45], rg 0 31, false, [0], some 46, [23, 30, 6]⟩, ⟨[18, 21, 46], rg 0 32, false, [0], some 47, [6, 31, 3]⟩, ⟨[18, 47], rg 0 33, false, [0], some 48, [3, 32]⟩]

def exGo : List Ex → Option Ex → Bool
  | [], _ => true
  | x :: r, none => if mayF x then exGo r (some x) else false
  | x :: r, some q => if mayF x then (if decide (w64 (q.v + q.l) > x.v) then false else if goesOnF q x then false else exGo r (some x)) else false
theorem exGo_some (x q : Ex) (r : List Ex) : exGo (x :: r) (some q) = if mayF x then (if decide (w64 (q.v + q.l) > x.v) then false else if goesOnF q x then false else exGo r (some x)) else false := rfl
def exCheckF (l : List Ex) : Int := if l.length > 1024 then 9 else if exGo l none then 0 else 9
def prevOf {α : Type} (l : List α) (k : Nat) : Option α := if k = 0 then none else l[k - 1]?

theorem exCheck_ok (c : Nat) (l : List Ex) (σ : List Ob) : Ok Tryz.prog 45 [.vec c 3 (l.map eX)] σ (.ret (eI (exCheckF l))) σ := by
  refine Ok.of_body layOk Tryz.func45 rfl (by decide) (by simp [Tryz.ntmps45]) fun C hP hn hσ hfix hdd => ?_
  rw [show Tryz.f45.ntmps = 50 from rfl] at hn
  have hL : LayOk C.P L := hP ▸ layOk
  have hm : C.P.follows .mixedOrders = true := hP ▸ mixed
  refine SW.vlen 0 rfl fun hlen => ?_
  rw [List.length_map] at hlen
  unfold exCheckF
  by_cases h1 : l.length > 1024
  · have d1 : decide ((l.length : Int) > 1024) = true := decide_eq_true (by omega)
    rw [if_pos h1]
    repeat (first | ((first | refine sA hL hn rfl ?_ | refine sB hL hn rfl ?_); simp only [go_sem, Nat.reduceBEq, Int.reduceLT, Int.reduceLE, reduceAdd, reduceEqDiff, reduceIte, reduceSub, Nat.reduceLT, reduceMul, reduceLeDiff, reduceCtorEq, eI, List.length_map, d1]) | ((first | refine sC ?_ | refine sH ?_ | refine sI ?_ | refine sJ ?_); try simp only [thenK, blockK, loopK, loopG, if_true, if_false, reduceEqDiff]) | refine sD ?_ | refine sE ?_ | refine sF rfl ?_ | refine sG rfl ?_)
    exact ⟨_, _, _, Ghost.refl _ _, rfl, GhostV.refl _ _ _, rfl⟩
  have d1 : decide ((l.length : Int) > 1024) = false := decide_eq_false (by omega)
  rw [if_neg h1]
  repeat (first | ((first | refine sA hL hn rfl ?_ | refine sB hL hn rfl ?_); simp only [go_sem, Nat.reduceBEq, Int.reduceLT, Int.reduceLE, reduceAdd, reduceEqDiff, reduceIte, reduceSub, Nat.reduceLT, reduceMul, reduceLeDiff, reduceCtorEq, eI, List.length_map, d1]) | ((first | refine sC ?_ | refine sH ?_ | refine sI ?_ | refine sJ ?_); try simp only [thenK, blockK, loopK, loopG, if_true, if_false, reduceEqDiff]) | refine sD ?_ | refine sE ?_ | refine sF rfl ?_ | refine sG rfl ?_)
  refine SW.lpg (fun k : Nat => ⟨[(0, .vec c 3 (l.map eX)), (8, .vec c 3 (l.map eX)), (9, .int .i64 l.length), (10, .int .i64 k)], σ⟩) (fun k => l.length - k) (fun k => k ≤ l.length ∧ exGo (l.drop k) (prevOf l k) = exGo l none) 0 ⟨by omega, rfl⟩ (.of rfl ⟨rfl, rfl, rfl, rfl, trivial⟩) ?_
  intro k ⟨hk, hg⟩
  by_cases hlt : k < l.length
  · have e1 : decide ((k : Int) < (l.length : Int)) = true := decide_eq_true (by omega)
    have e2 : (0 ≤ (k : Int) ∧ (k : Int) < (l.length : Int)) := by omega
    have e3 : (l.map eX)[k]?.getD .undef = .agg [.int .i64 l[k].v, .int .i64 l[k].p, .int .i64 l[k].l] := by simp [hlt, eX, eI]
    have w1 : IntKind.i64.wrap ((k : Int) + 1) = ((k + 1 : Nat) : Int) := wi (by omega) (by omega)
    rw [List.drop_eq_getElem_cons hlt] at hg
    have hprev : prevOf l (k + 1) = some l[k] := by simp [prevOf, hlt]
    repeat (first | ((first | refine sA hL hn rfl ?_ | refine sB hL hn rfl ?_); simp only [go_sem, Nat.reduceBEq, Int.reduceLT, Int.reduceLE, reduceAdd, reduceEqDiff, reduceIte, reduceSub, Nat.reduceLT, reduceMul, reduceLeDiff, reduceCtorEq, e1, List.length_map, e2, e3]) | ((first | refine sC ?_ | refine sH ?_ | refine sI ?_ | refine sJ ?_); try simp only [thenK, blockK, loopK, loopG, if_true, if_false, reduceEqDiff]) | refine sD ?_ | refine sE ?_ | refine sF rfl ?_ | refine sG rfl ?_)
    refine sM hL hm hn di45_6 [σ ++ [.arr 80 3 [.agg [.int .i64 l[k].v, .int .i64 l[k].p, .int .i64 l[k].l]]]] rfl rfl rfl ?_
    unfold di45_6; simp (maxSteps := 2000000) only [go_sem, Nat.reduceBEq, Int.reduceLT, Int.reduceLE, reduceAdd, reduceEqDiff, reduceIte, reduceSub, Nat.reduceLT, reduceMul, reduceLeDiff, reduceCtorEq, dgo_nil, dgo_cons]
    cases hm' : mayF l[k]
    · have hf : exGo l none = false := by rw [← hg]; cases prevOf l k <;> simp [exGo, hm']
      rw [hf]
      refine DCall.pure hP (fun q _ => may_ok l[k] _) rfl rfl rfl rfl ?_; simp (maxSteps := 2000000) only [go_sem, Nat.reduceBEq, Int.reduceLT, Int.reduceLE, reduceAdd, reduceEqDiff, reduceIte, reduceSub, Nat.reduceLT, reduceMul, reduceLeDiff, reduceCtorEq, dgo_nil, dgo_cons, hm']
      repeat (first | ((first | refine sA hL hn rfl ?_ | refine sB hL hn rfl ?_); simp only [go_sem, Nat.reduceBEq, Int.reduceLT, Int.reduceLE, reduceAdd, reduceEqDiff, reduceIte, reduceSub, Nat.reduceLT, reduceMul, reduceLeDiff, reduceCtorEq, eI]) | ((first | refine sC ?_ | refine sH ?_ | refine sI ?_ | refine sJ ?_); try simp only [thenK, blockK, loopK, loopG, if_true, if_false, reduceEqDiff]) | refine sD ?_ | refine sE ?_ | refine sF rfl ?_ | refine sG rfl ?_)
      exact ⟨_, _, _, Ghost.refl _ _, rfl, GhostV.none (by rw [hn]; decide) hσ hfix (by simp [lk, low_int, low_bool, low_str, low_nils, low_nilp, low_nilf, low_nili, low_undef, low_skip, low_vec, low_agg, low_tup, low_fn, low_vptr, low_iface, low_ptr, low_sl, low_mp, low_it, low_yld, low_emp, lowEnv, lowObs, lowOb, tmpObs, isArr, eX, eI]) (by simp [lk, low_int, low_bool, low_str, low_nils, low_nilp, low_nilf, low_nili, low_undef, low_skip, low_vec, low_agg, low_tup, low_fn, low_vptr, low_iface, low_ptr, low_sl, low_mp, low_it, low_yld, low_emp, lowEnv, lowObs, lowOb, tmpObs, isArr, eX, eI]), rfl⟩
    by_cases hk0 : k = 0
    · have d2 : decide ((k : Int) > 0) = false := decide_eq_false (by omega)
      have hn' : exGo (l.drop (k + 1)) (some l[k]) = exGo l none := by rw [← hg]; simp only [prevOf, if_pos hk0, exGo, hm', if_true]
      refine DCall.pure hP (fun q _ => may_ok l[k] _) rfl rfl rfl rfl ?_; simp (maxSteps := 2000000) only [go_sem, Nat.reduceBEq, Int.reduceLT, Int.reduceLE, reduceAdd, reduceEqDiff, reduceIte, reduceSub, Nat.reduceLT, reduceMul, reduceLeDiff, reduceCtorEq, dgo_nil, dgo_cons, hm', d2]
      repeat (first | ((first | refine sA hL hn rfl ?_ | refine sB hL hn rfl ?_); simp only [go_sem, Nat.reduceBEq, Int.reduceLT, Int.reduceLE, reduceAdd, reduceEqDiff, reduceIte, reduceSub, Nat.reduceLT, reduceMul, reduceLeDiff, reduceCtorEq, w1]) | ((first | refine sC ?_ | refine sH ?_ | refine sI ?_ | refine sJ ?_); try simp only [thenK, blockK, loopK, loopG, if_true, if_false, reduceEqDiff]) | refine sD ?_ | refine sE ?_ | refine sF rfl ?_ | refine sG rfl ?_)
      exact Lp.nextg (k + 1) ⟨by omega, by rw [hprev]; exact hn'⟩ (by omega) (Ghost.none _ hσ hfix ⟨rfl, rfl, rfl, rfl, trivial⟩ (by simp [lk, low_int, low_bool, low_str, low_nils, low_nilp, low_nilf, low_nili, low_undef, low_skip, low_vec, low_agg, low_tup, low_fn, low_vptr, low_iface, low_ptr, low_sl, low_mp, low_it, low_yld, low_emp, lowEnv, lowObs, lowOb, tmpObs, isArr, eX, eI]) (by simp [lk, low_int, low_bool, low_str, low_nils, low_nilp, low_nilf, low_nili, low_undef, low_skip, low_vec, low_agg, low_tup, low_fn, low_vptr, low_iface, low_ptr, low_sl, low_mp, low_it, low_yld, low_emp, lowEnv, lowObs, lowOb, tmpObs, isArr]))
    have d2 : decide ((k : Int) > 0) = true := decide_eq_true (by omega)
    have w2 : IntKind.i64.wrap ((k : Int) - 1) = ((k - 1 : Nat) : Int) := wi (by omega) (by omega)
    have e4 : (0 ≤ ((k - 1 : Nat) : Int) ∧ ((k - 1 : Nat) : Int) < (l.length : Int)) := by omega
    have hk1 : k - 1 < l.length := by omega
    have e5 : (l.map eX)[k - 1]?.getD .undef = .agg [.int .i64 l[k - 1].v, .int .i64 l[k - 1].p, .int .i64 l[k - 1].l] := by simp [hk1, eX, eI]
    have hp : prevOf l k = some l[k - 1] := by simp [prevOf, hk0, hk1]
    rw [hp] at hg
    cases d3 : decide (IntKind.i64.wrap (l[k - 1].v + l[k - 1].l) > l[k].v)
    · cases d4 : goesOnF l[k - 1] l[k]
      · have hn' : exGo (l.drop (k + 1)) (some l[k]) = exGo l none := by rw [← hg, exGo_some, if_pos hm', if_neg (by rw [d3]; simp), if_neg (by rw [d4]; simp)]
        refine DCall.pure hP (fun q _ => may_ok l[k] _) rfl rfl rfl rfl ?_; repeat (simp (maxSteps := 2000000) only [go_sem, Nat.reduceBEq, Int.reduceLT, Int.reduceLE, reduceAdd, reduceEqDiff, reduceIte, reduceSub, Nat.reduceLT, reduceMul, reduceLeDiff, reduceCtorEq, hm', d2, w2, e4, e5, d3, List.length_map]; first | rw [dgo_cons] | rw [dgo_nil])
        try simp only [go_sem, Nat.reduceBEq, Int.reduceLT, Int.reduceLE, reduceAdd, reduceEqDiff, reduceIte, reduceSub, Nat.reduceLT, reduceMul, reduceLeDiff, reduceCtorEq, hm', d2, w2, e4, e5, d3, List.length_map]
        refine DCall.pure hP (fun q _ => goesOn_ok l[k - 1] l[k] _) rfl rfl rfl rfl ?_; repeat (simp (maxSteps := 2000000) only [go_sem, Nat.reduceBEq, Int.reduceLT, Int.reduceLE, reduceAdd, reduceEqDiff, reduceIte, reduceSub, Nat.reduceLT, reduceMul, reduceLeDiff, reduceCtorEq, d4]; first | rw [dgo_cons] | rw [dgo_nil])
        try simp only [go_sem, Nat.reduceBEq, Int.reduceLT, Int.reduceLE, reduceAdd, reduceEqDiff, reduceIte, reduceSub, Nat.reduceLT, reduceMul, reduceLeDiff, reduceCtorEq, d4]
        repeat (first | ((first | refine sA hL hn rfl ?_ | refine sB hL hn rfl ?_); simp only [go_sem, Nat.reduceBEq, Int.reduceLT, Int.reduceLE, reduceAdd, reduceEqDiff, reduceIte, reduceSub, Nat.reduceLT, reduceMul, reduceLeDiff, reduceCtorEq, w1]) | ((first | refine sC ?_ | refine sH ?_ | refine sI ?_ | refine sJ ?_); try simp only [thenK, blockK, loopK, loopG, if_true, if_false, reduceEqDiff]) | refine sD ?_ | refine sE ?_ | refine sF rfl ?_ | refine sG rfl ?_)
        exact Lp.nextg (k + 1) ⟨by omega, by rw [hprev]; exact hn'⟩ (by omega) (Ghost.none _ hσ hfix ⟨rfl, rfl, rfl, rfl, trivial⟩ (by simp [lk, low_int, low_bool, low_str, low_nils, low_nilp, low_nilf, low_nili, low_undef, low_skip, low_vec, low_agg, low_tup, low_fn, low_vptr, low_iface, low_ptr, low_sl, low_mp, low_it, low_yld, low_emp, lowEnv, lowObs, lowOb, tmpObs, isArr, eX, eI]) (by simp [lk, low_int, low_bool, low_str, low_nils, low_nilp, low_nilf, low_nili, low_undef, low_skip, low_vec, low_agg, low_tup, low_fn, low_vptr, low_iface, low_ptr, low_sl, low_mp, low_it, low_yld, low_emp, lowEnv, lowObs, lowOb, tmpObs, isArr]))
      · have hf : exGo l none = false := by rw [← hg, exGo_some, if_pos hm', if_neg (by rw [d3]; simp), if_pos d4]
        rw [hf]
        refine DCall.pure hP (fun q _ => may_ok l[k] _) rfl rfl rfl rfl ?_; repeat (simp (maxSteps := 2000000) only [go_sem, Nat.reduceBEq, Int.reduceLT, Int.reduceLE, reduceAdd, reduceEqDiff, reduceIte, reduceSub, Nat.reduceLT, reduceMul, reduceLeDiff, reduceCtorEq, hm', d2, w2, e4, e5, d3, List.length_map]; first | rw [dgo_cons] | rw [dgo_nil])
        try simp only [go_sem, Nat.reduceBEq, Int.reduceLT, Int.reduceLE, reduceAdd, reduceEqDiff, reduceIte, reduceSub, Nat.reduceLT, reduceMul, reduceLeDiff, reduceCtorEq, hm', d2, w2, e4, e5, d3, List.length_map]
        refine DCall.pure hP (fun q _ => goesOn_ok l[k - 1] l[k] _) rfl rfl rfl rfl ?_; repeat (simp (maxSteps := 2000000) only [go_sem, Nat.reduceBEq, Int.reduceLT, Int.reduceLE, reduceAdd, reduceEqDiff, reduceIte, reduceSub, Nat.reduceLT, reduceMul, reduceLeDiff, reduceCtorEq, d4]; first | rw [dgo_cons] | rw [dgo_nil])
        try simp only [go_sem, Nat.reduceBEq, Int.reduceLT, Int.reduceLE, reduceAdd, reduceEqDiff, reduceIte, reduceSub, Nat.reduceLT, reduceMul, reduceLeDiff, reduceCtorEq, d4]
        repeat (first | ((first | refine sA hL hn rfl ?_ | refine sB hL hn rfl ?_); simp only [go_sem, Nat.reduceBEq, Int.reduceLT, Int.reduceLE, reduceAdd, reduceEqDiff, reduceIte, reduceSub, Nat.reduceLT, reduceMul, reduceLeDiff, reduceCtorEq, eI]) | ((first | refine sC ?_ | refine sH ?_ | refine sI ?_ | refine sJ ?_); try simp only [thenK, blockK, loopK, loopG, if_true, if_false, reduceEqDiff]) | refine sD ?_ | refine sE ?_ | refine sF rfl ?_ | refine sG rfl ?_)
        exact ⟨_, _, _, Ghost.refl _ _, rfl, GhostV.none (by rw [hn]; decide) hσ hfix (by simp [lk, low_int, low_bool, low_str, low_nils, low_nilp, low_nilf, low_nili, low_undef, low_skip, low_vec, low_agg, low_tup, low_fn, low_vptr, low_iface, low_ptr, low_sl, low_mp, low_it, low_yld, low_emp, lowEnv, lowObs, lowOb, tmpObs, isArr, eX, eI]) (by simp [lk, low_int, low_bool, low_str, low_nils, low_nilp, low_nilf, low_nili, low_undef, low_skip, low_vec, low_agg, low_tup, low_fn, low_vptr, low_iface, low_ptr, low_sl, low_mp, low_it, low_yld, low_emp, lowEnv, lowObs, lowOb, tmpObs, isArr, eX, eI]), rfl⟩
    · have hf : exGo l none = false := by rw [← hg, exGo_some, if_pos hm', if_pos d3]
      rw [hf]
      refine DCall.pure hP (fun q _ => may_ok l[k] _) rfl rfl rfl rfl ?_; repeat (simp (maxSteps := 2000000) only [go_sem, Nat.reduceBEq, Int.reduceLT, Int.reduceLE, reduceAdd, reduceEqDiff, reduceIte, reduceSub, Nat.reduceLT, reduceMul, reduceLeDiff, reduceCtorEq, hm', d2, w2, e4, e5, d3, List.length_map]; first | rw [dgo_cons] | rw [dgo_nil])
      try simp only [go_sem, Nat.reduceBEq, Int.reduceLT, Int.reduceLE, reduceAdd, reduceEqDiff, reduceIte, reduceSub, Nat.reduceLT, reduceMul, reduceLeDiff, reduceCtorEq, hm', d2, w2, e4, e5, d3, List.length_map]
      repeat (first | ((first | refine sA hL hn rfl ?_ | refine sB hL hn rfl ?_); simp only [go_sem, Nat.reduceBEq, Int.reduceLT, Int.reduceLE, reduceAdd, reduceEqDiff, reduceIte, reduceSub, Nat.reduceLT, reduceMul, reduceLeDiff, reduceCtorEq, eI]) | ((first | refine sC ?_ | refine sH ?_ | refine sI ?_ | refine sJ ?_); try simp only [thenK, blockK, loopK, loopG, if_true, if_false, reduceEqDiff]) | refine sD ?_ | refine sE ?_ | refine sF rfl ?_ | refine sG rfl ?_)
      exact ⟨_, _, _, Ghost.refl _ _, rfl, GhostV.none (by rw [hn]; decide) hσ hfix (by simp [lk, low_int, low_bool, low_str, low_nils, low_nilp, low_nilf, low_nili, low_undef, low_skip, low_vec, low_agg, low_tup, low_fn, low_vptr, low_iface, low_ptr, low_sl, low_mp, low_it, low_yld, low_emp, lowEnv, lowObs, lowOb, tmpObs, isArr, eX, eI]) (by simp [lk, low_int, low_bool, low_str, low_nils, low_nilp, low_nilf, low_nili, low_undef, low_skip, low_vec, low_agg, low_tup, low_fn, low_vptr, low_iface, low_ptr, low_sl, low_mp, low_it, low_yld, low_emp, lowEnv, lowObs, lowOb, tmpObs, isArr, eX, eI]), rfl⟩
  · have e1 : decide ((k : Int) < (l.length : Int)) = false := decide_eq_false (by omega)
    rw [List.drop_eq_nil_of_le (by omega)] at hg
    rw [← hg]
    repeat (first | ((first | refine sA hL hn rfl ?_ | refine sB hL hn rfl ?_); simp only [go_sem, Nat.reduceBEq, Int.reduceLT, Int.reduceLE, reduceAdd, reduceEqDiff, reduceIte, reduceSub, Nat.reduceLT, reduceMul, reduceLeDiff, reduceCtorEq, e1]) | ((first | refine sC ?_ | refine sH ?_ | refine sI ?_ | refine sJ ?_); try simp only [thenK, blockK, loopK, loopG, if_true, if_false, reduceEqDiff]) | refine sD ?_ | refine sE ?_ | refine sF rfl ?_ | refine sG rfl ?_)
    exact ⟨_, _, _, Ghost.refl _ _, rfl, GhostV.refl _ _ _, rfl⟩
end Go.VL
end
section
set_option linter.unusedSimpArgs false
set_option linter.unusedVariables false
set_option maxRecDepth 10000
set_option maxHeartbeats 4000000
namespace Go.VL
open Go Go.Proofs
open Nat (reduceAdd reduceEqDiff reduceSub reduceMul reduceLeDiff)

def eM (c : Nat) (x : Int × List Ex) : DV := .agg [.int .i64 x.1, .vec c 3 (x.2.map eX)]
def refsGo : Int → List (Int × List Ex) → Bool
  | _, [] => true
  | last, x :: r => if decide (x.1 ≤ last) then false else if decide (x.1 > 255) then false else if exCheckF x.2 != 0 then false else refsGo x.1 r
def refsCheckF (l : List (Int × List Ex)) : Int := if l.length > 9 then 9 else if refsGo (-1) l then 0 else 9
def lastOf (l : List (Int × List Ex)) (k : Nat) : Int := if k = 0 then -1 else ((l[k - 1]?).map (·.1)).getD 0
theorem low_exs (c d : Nat) (l : List (Int × List Ex)) (n : Nat) : Low n (.vec d 2 (l.map (eM c))) := by
  rw [low_vec]
  intro x hx
  obtain ⟨y, _, rfl⟩ := List.mem_map.1 hx
  unfold eM
  rw [low_agg]
  intro z hz
  simp only [List.mem_cons, List.not_mem_nil, or_false] at hz
  rcases hz with rfl | rfl
  · exact (low_int _ _).2 trivial
  · rw [low_vec]
    intro u hu
    obtain ⟨v, _, rfl⟩ := List.mem_map.1 hu
    simp [eX, eI, low_agg, low_int]
theorem refsCheck_ok (c d : Nat) (l : List (Int × List Ex)) (σ : List Ob) : Ok Tryz.prog 22 [.vec d 2 (l.map (eM c))] σ (.ret (.int .i64 (refsCheckF l))) σ := by
  refine Ok.of_body layOk Tryz.func22 rfl (by decide) (by simp [Tryz.ntmps22]) fun C hP hn hσ hfix hdd => ?_
  rw [show Tryz.f22.ntmps = 33 from rfl] at hn
  have hL : LayOk C.P L := hP ▸ layOk
  have hm : C.P.follows .mixedOrders = true := hP ▸ mixed
  refine SW.vlen 0 rfl fun hlen => ?_
  rw [List.length_map] at hlen
  unfold refsCheckF
  by_cases h1 : l.length > 9
  · have d1 : decide ((l.length : Int) > 9) = true := decide_eq_true (by omega)
    rw [if_pos h1]
    repeat (first | ((first | refine sA hL hn rfl ?_ | refine sB hL hn rfl ?_); simp only [go_sem, Nat.reduceBEq, Int.reduceLT, Int.reduceLE, reduceAdd, reduceEqDiff, reduceIte, reduceSub, Nat.reduceLT, reduceMul, reduceLeDiff, reduceCtorEq, List.length_map, d1]) | ((first | refine sC ?_ | refine sH ?_ | refine sI ?_ | refine sJ ?_); try simp only [thenK, blockK, loopK, loopG, if_true, if_false, reduceEqDiff]) | refine sD ?_ | refine sE ?_ | refine sF rfl ?_ | refine sG rfl ?_)
    exact ⟨_, _, _, Ghost.refl _ _, rfl, GhostV.refl _ _ _, rfl⟩
  have d1 : decide ((l.length : Int) > 9) = false := decide_eq_false (by omega)
  rw [if_neg h1]
  repeat (first | ((first | refine sA hL hn rfl ?_ | refine sB hL hn rfl ?_); simp only [go_sem, Nat.reduceBEq, Int.reduceLT, Int.reduceLE, reduceAdd, reduceEqDiff, reduceIte, reduceSub, Nat.reduceLT, reduceMul, reduceLeDiff, reduceCtorEq, List.length_map, d1]) | ((first | refine sC ?_ | refine sH ?_ | refine sI ?_ | refine sJ ?_); try simp only [thenK, blockK, loopK, loopG, if_true, if_false, reduceEqDiff]) | refine sD ?_ | refine sE ?_ | refine sF rfl ?_ | refine sG rfl ?_)
  refine SW.lpg (fun k : Nat => ⟨[(3, .int .i64 (lastOf l k)), (9, .vec d 2 (l.map (eM c))), (10, .int .i64 l.length), (11, .int .i64 k)], σ⟩) (fun k => l.length - k) (fun k => k ≤ l.length ∧ refsGo (lastOf l k) (l.drop k) = refsGo (-1) l) 0 ⟨by omega, rfl⟩ (.of rfl ⟨rfl, rfl, rfl, rfl, trivial⟩) ?_
  intro k ⟨hk, hg⟩
  by_cases hlt : k < l.length
  · have e1 : decide ((k : Int) < (l.length : Int)) = true := decide_eq_true (by omega)
    have e2 : (0 ≤ (k : Int) ∧ (k : Int) < (l.length : Int)) := by omega
    have e3 : (l.map (eM c))[k]?.getD .undef = .agg [.int .i64 l[k].1, .vec c 3 (l[k].2.map eX)] := by simp [hlt, eM]
    have w1 : IntKind.i64.wrap ((k : Int) + 1) = ((k + 1 : Nat) : Int) := wi (by omega) (by omega)
    rw [List.drop_eq_getElem_cons hlt] at hg
    have hlast : lastOf l (k + 1) = l[k].1 := by simp [lastOf, hlt]
    rw [refsGo] at hg
    cases d2 : decide (l[k].1 ≤ lastOf l k)
    · cases d3 : decide (l[k].1 > 255)
      · rw [d2, d3] at hg
        simp only [Bool.false_eq_true, if_false] at hg
        cases d4 : exCheckF l[k].2 != 0
        · rw [d4] at hg
          simp only [Bool.false_eq_true, if_false] at hg
          repeat (first | ((first | refine sA hL hn rfl ?_ | refine sB hL hn rfl ?_); simp only [go_sem, Nat.reduceBEq, Int.reduceLT, Int.reduceLE, reduceAdd, reduceEqDiff, reduceIte, reduceSub, Nat.reduceLT, reduceMul, reduceLeDiff, reduceCtorEq, e1, List.length_map, e2, e3, d2, d3]) | ((first | refine sC ?_ | refine sH ?_ | refine sI ?_ | refine sJ ?_); try simp only [thenK, blockK, loopK, loopG, if_true, if_false, reduceEqDiff]) | refine sD ?_ | refine sE ?_ | refine sF rfl ?_ | refine sG rfl ?_)
          refine sK hP hL hn rfl rfl (exCheck_ok c l[k].2 _) rfl rfl rfl rfl ?_; simp (maxSteps := 2000000) only [go_sem, Nat.reduceBEq, Int.reduceLT, Int.reduceLE, reduceAdd, reduceEqDiff, reduceIte, reduceSub, Nat.reduceLT, reduceMul, reduceLeDiff, reduceCtorEq, eI, d4]
          repeat (first | ((first | refine sA hL hn rfl ?_ | refine sB hL hn rfl ?_); simp only [go_sem, Nat.reduceBEq, Int.reduceLT, Int.reduceLE, reduceAdd, reduceEqDiff, reduceIte, reduceSub, Nat.reduceLT, reduceMul, reduceLeDiff, reduceCtorEq, eI, d4, w1]) | ((first | refine sC ?_ | refine sH ?_ | refine sI ?_ | refine sJ ?_); try simp only [thenK, blockK, loopK, loopG, if_true, if_false, reduceEqDiff]) | refine sD ?_ | refine sE ?_ | refine sF rfl ?_ | refine sG rfl ?_)
          exact Lp.nextg (k + 1) ⟨by omega, by rw [hlast]; exact hg⟩ (by omega) (Ghost.none _ hσ hfix ⟨by rw [hlast]; rfl, rfl, rfl, rfl, trivial⟩ ⟨(low_int _ _).2 trivial, low_exs c d l _, (low_int _ _).2 trivial, (low_int _ _).2 trivial, trivial⟩ (by simp [lk, low_int, low_bool, low_str, low_nils, low_nilp, low_nilf, low_nili, low_undef, low_skip, low_vec, low_agg, low_tup, low_fn, low_vptr, low_iface, low_ptr, low_sl, low_mp, low_it, low_yld, low_emp, lowEnv, lowObs, lowOb, tmpObs, isArr, eX, eI]))
        · rw [d4] at hg
          simp only [if_true] at hg
          rw [← hg]
          repeat (first | ((first | refine sA hL hn rfl ?_ | refine sB hL hn rfl ?_); simp only [go_sem, Nat.reduceBEq, Int.reduceLT, Int.reduceLE, reduceAdd, reduceEqDiff, reduceIte, reduceSub, Nat.reduceLT, reduceMul, reduceLeDiff, reduceCtorEq, e1, List.length_map, e2, e3, d2, d3]) | ((first | refine sC ?_ | refine sH ?_ | refine sI ?_ | refine sJ ?_); try simp only [thenK, blockK, loopK, loopG, if_true, if_false, reduceEqDiff]) | refine sD ?_ | refine sE ?_ | refine sF rfl ?_ | refine sG rfl ?_)
          refine sK hP hL hn rfl rfl (exCheck_ok c l[k].2 _) rfl rfl rfl rfl ?_; simp (maxSteps := 2000000) only [go_sem, Nat.reduceBEq, Int.reduceLT, Int.reduceLE, reduceAdd, reduceEqDiff, reduceIte, reduceSub, Nat.reduceLT, reduceMul, reduceLeDiff, reduceCtorEq, eI, d4]
          repeat (first | ((first | refine sA hL hn rfl ?_ | refine sB hL hn rfl ?_); simp only [go_sem, Nat.reduceBEq, Int.reduceLT, Int.reduceLE, reduceAdd, reduceEqDiff, reduceIte, reduceSub, Nat.reduceLT, reduceMul, reduceLeDiff, reduceCtorEq, eI, d4]) | ((first | refine sC ?_ | refine sH ?_ | refine sI ?_ | refine sJ ?_); try simp only [thenK, blockK, loopK, loopG, if_true, if_false, reduceEqDiff]) | refine sD ?_ | refine sE ?_ | refine sF rfl ?_ | refine sG rfl ?_)
          exact ⟨_, _, _, Ghost.refl _ _, rfl, GhostV.none (by rw [hn]; decide) hσ hfix (by simp [lk, low_int, low_bool, low_str, low_nils, low_nilp, low_nilf, low_nili, low_undef, low_skip, low_vec, low_agg, low_tup, low_fn, low_vptr, low_iface, low_ptr, low_sl, low_mp, low_it, low_yld, low_emp, lowEnv, lowObs, lowOb, tmpObs, isArr, eX, eI]) (by simp [lk, low_int, low_bool, low_str, low_nils, low_nilp, low_nilf, low_nili, low_undef, low_skip, low_vec, low_agg, low_tup, low_fn, low_vptr, low_iface, low_ptr, low_sl, low_mp, low_it, low_yld, low_emp, lowEnv, lowObs, lowOb, tmpObs, isArr, eX, eI]), rfl⟩
      · rw [d2, d3] at hg
        simp only [Bool.false_eq_true, if_false, if_true] at hg
        rw [← hg]
        repeat (first | ((first | refine sA hL hn rfl ?_ | refine sB hL hn rfl ?_); simp only [go_sem, Nat.reduceBEq, Int.reduceLT, Int.reduceLE, reduceAdd, reduceEqDiff, reduceIte, reduceSub, Nat.reduceLT, reduceMul, reduceLeDiff, reduceCtorEq, e1, List.length_map, e2, e3, d2, d3]) | ((first | refine sC ?_ | refine sH ?_ | refine sI ?_ | refine sJ ?_); try simp only [thenK, blockK, loopK, loopG, if_true, if_false, reduceEqDiff]) | refine sD ?_ | refine sE ?_ | refine sF rfl ?_ | refine sG rfl ?_)
        exact ⟨_, _, _, Ghost.refl _ _, rfl, GhostV.none (by rw [hn]; decide) hσ hfix (by simp [lk, low_int, low_bool, low_str, low_nils, low_nilp, low_nilf, low_nili, low_undef, low_skip, low_vec, low_agg, low_tup, low_fn, low_vptr, low_iface, low_ptr, low_sl, low_mp, low_it, low_yld, low_emp, lowEnv, lowObs, lowOb, tmpObs, isArr, eX, eI]) (by simp [lk, low_int, low_bool, low_str, low_nils, low_nilp, low_nilf, low_nili, low_undef, low_skip, low_vec, low_agg, low_tup, low_fn, low_vptr, low_iface, low_ptr, low_sl, low_mp, low_it, low_yld, low_emp, lowEnv, lowObs, lowOb, tmpObs, isArr, eX, eI]), rfl⟩
    · rw [d2] at hg
      simp only [if_true] at hg
      rw [← hg]
      repeat (first | ((first | refine sA hL hn rfl ?_ | refine sB hL hn rfl ?_); simp only [go_sem, Nat.reduceBEq, Int.reduceLT, Int.reduceLE, reduceAdd, reduceEqDiff, reduceIte, reduceSub, Nat.reduceLT, reduceMul, reduceLeDiff, reduceCtorEq, e1, List.length_map, e2, e3, d2]) | ((first | refine sC ?_ | refine sH ?_ | refine sI ?_ | refine sJ ?_); try simp only [thenK, blockK, loopK, loopG, if_true, if_false, reduceEqDiff]) | refine sD ?_ | refine sE ?_ | refine sF rfl ?_ | refine sG rfl ?_)
      exact ⟨_, _, _, Ghost.refl _ _, rfl, GhostV.none (by rw [hn]; decide) hσ hfix (by simp [lk, low_int, low_bool, low_str, low_nils, low_nilp, low_nilf, low_nili, low_undef, low_skip, low_vec, low_agg, low_tup, low_fn, low_vptr, low_iface, low_ptr, low_sl, low_mp, low_it, low_yld, low_emp, lowEnv, lowObs, lowOb, tmpObs, isArr, eX, eI]) (by simp [lk, low_int, low_bool, low_str, low_nils, low_nilp, low_nilf, low_nili, low_undef, low_skip, low_vec, low_agg, low_tup, low_fn, low_vptr, low_iface, low_ptr, low_sl, low_mp, low_it, low_yld, low_emp, lowEnv, lowObs, lowOb, tmpObs, isArr, eX, eI]), rfl⟩
  · have e1 : decide ((k : Int) < (l.length : Int)) = false := decide_eq_false (by omega)
    rw [List.drop_eq_nil_of_le (by omega)] at hg
    rw [← hg]
    repeat (first | ((first | refine sA hL hn rfl ?_ | refine sB hL hn rfl ?_); simp only [go_sem, Nat.reduceBEq, Int.reduceLT, Int.reduceLE, reduceAdd, reduceEqDiff, reduceIte, reduceSub, Nat.reduceLT, reduceMul, reduceLeDiff, reduceCtorEq, e1]) | ((first | refine sC ?_ | refine sH ?_ | refine sI ?_ | refine sJ ?_); try simp only [thenK, blockK, loopK, loopG, if_true, if_false, reduceEqDiff]) | refine sD ?_ | refine sE ?_ | refine sF rfl ?_ | refine sG rfl ?_)
    exact ⟨_, _, _, Ghost.refl _ _, rfl, GhostV.refl _ _ _, rfl⟩
end Go.VL
end
section
set_option linter.unusedSimpArgs false
set_option linter.unusedVariables false
set_option maxRecDepth 10000
set_option maxHeartbeats 4000000
namespace Go.VL
open Go Go.Proofs
open Nat (reduceAdd reduceEqDiff reduceSub reduceMul reduceLeDiff)
def di24_2 : List DI := [⟨[1], [], false, [0], some 8, []⟩, ⟨[8], [0], false, [0], some 9, [0]⟩, ⟨[9], [0, 1], false, [0], some 10, [1]⟩, ⟨[1, 10], [0, 1, 2], false, [0], some 11, [2]⟩, ⟨[10, 11], rg 0 4, false, [0], some 12, [3, 2]⟩, ⟨[10, 12], rg 0 5, false, [0], some 13, [2, 4]⟩, ⟨[13], rg 0 6, false, [0], some 14, [5, 2]⟩, ⟨[5, 14], rg 0 7, false, [0], some 15, [6]⟩, ⟨[14, 15], rg 0 8, false, [0], some 16, [7, 6]⟩, ⟨[14, 16], rg 0 9, false, [0], some 17, [8, 6, 6]⟩, ⟨[0, 17], rg 0 10, false, [0], some 18, [9]⟩, ⟨[5, 17], rg 0 10, false, [0], some 19, [9]⟩, ⟨[17, 19], (rg 0 10 ++ [11]), false, [0], some 20, [11, 9]⟩, ⟨[17, 18, 20], rg 0 13, false, [0], some 21, [10, 12, 9]⟩, ⟨[17, 21], rg 0 14, false, [0], some 22, [13, 9]⟩, ⟨[17, 22], rg 0 15, false, [0], some 23, [14, 9]⟩, ⟨[0, 17], rg 0 10, false, [0], some 24, [9]⟩, ⟨[5, 17], rg 0 10, false, [0], some 25, [9]⟩, ⟨[17, 25], (rg 0 10 ++ [17]), false, [0], some 26, [17, 9]⟩, ⟨[17, 24, 26], (rg 0 10 ++ [16, 17, 18]), false, [0], some 27, [16, 18, 9]⟩, ⟨[17, 27], (rg 0 10 ++ rg 16 4), false, [0], some 28, [19, 9]⟩, ⟨[17, 28], (rg 0 10 ++ rg 16 5), false, [0], some 29, [20, 9]⟩, ⟨[17, 23, 29], rg 0 22, false, [0], some 30, [15, 21, 9]⟩, ⟨[1, 17], rg 0 10, false, [0], some 31, [9]⟩, ⟨[17, 30, 31], rg 0 24, false, [0], some 32, [22, 23, 9]⟩, ⟨[14, 17, 32], rg 0 25, false, [0], some 33, [9, 24, 6]⟩, ⟨[14, 33], rg 0 26, false, [0], some 34, [6, 25]⟩, ⟨[34], rg 0 27, false, [0], some 4, ([26, 9] ++ rg 0 27)⟩]

def withinF (l : List Ex) (size : Int) : Bool := if decide (size ≥ 0) then (if decide (size ≤ 65536) then (match l[l.length - 1]? with
  | none => true
  | some x => decide (w64 (x.v + x.l) ≤ size)) else false) else false
theorem within_ok (c : Nat) (l : List Ex) (size : Int) (σ : List Ob) : Ok Tryz.prog 24 [.vec c 3 (l.map eX), .int .i64 size] σ (.ret (.bool (withinF l size))) σ := by
  obtain ⟨X, hX⟩ : ∃ X, X = l.map eX := ⟨_, rfl⟩
  rw [← hX]
  obtain ⟨N, hN⟩ : ∃ N : Int, N = (X.length : Int) := ⟨_, rfl⟩
  have hXl : X.length = l.length := by rw [hX, List.length_map]
  refine Ok.of_body layOk Tryz.func24 rfl (by decide) (by simp [Tryz.ntmps24]) fun C hP hn hσ hfix hdd => ?_
  rw [show Tryz.f24.ntmps = 35 from rfl] at hn
  have hL : LayOk C.P L := hP ▸ layOk
  have hm : C.P.follows .mixedOrders = true := hP ▸ mixed
  refine SW.vlen 0 rfl fun hlen => ?_
  unfold withinF
  repeat (first | ((first | refine sA hL hn rfl ?_ | refine sB hL hn rfl ?_); simp only [go_sem, Nat.reduceBEq, Int.reduceLT, Int.reduceLE, reduceAdd, reduceEqDiff, reduceIte, reduceSub, Nat.reduceLT, reduceMul, reduceLeDiff, reduceCtorEq, ← hN]) | ((first | refine sC ?_ | refine sH ?_ | refine sI ?_ | refine sJ ?_); try simp only [thenK, blockK, loopK, loopG, if_true, if_false, reduceEqDiff]) | refine sD ?_ | refine sE ?_ | refine sF rfl ?_ | refine sG rfl ?_)
  refine sM hL hm hn di24_2 [σ] rfl rfl rfl ?_
  unfold di24_2
  cases d1 : decide (size ≥ 0)
  · repeat (rw [dgo_cons]; simp (maxSteps := 2000000) only [go_sem, Nat.reduceBEq, Int.reduceLT, Int.reduceLE, reduceAdd, reduceEqDiff, reduceIte, reduceSub, Nat.reduceLT, reduceMul, reduceLeDiff, reduceCtorEq, d1])
    try rw [dgo_nil]
    try simp only [go_sem, Nat.reduceBEq, Int.reduceLT, Int.reduceLE, reduceAdd, reduceEqDiff, reduceIte, reduceSub, Nat.reduceLT, reduceMul, reduceLeDiff, reduceCtorEq, d1]
    repeat (first | ((first | refine sA hL hn rfl ?_ | refine sB hL hn rfl ?_); simp only [go_sem, Nat.reduceBEq, Int.reduceLT, Int.reduceLE, reduceAdd, reduceEqDiff, reduceIte, reduceSub, Nat.reduceLT, reduceMul, reduceLeDiff, reduceCtorEq]) | ((first | refine sC ?_ | refine sH ?_ | refine sI ?_ | refine sJ ?_); try simp only [thenK, blockK, loopK, loopG, if_true, if_false, reduceEqDiff]) | refine sD ?_ | refine sE ?_ | refine sF rfl ?_ | refine sG rfl ?_)
    exact ⟨_, _, _, Ghost.refl _ _, rfl, GhostV.refl _ _ _, rfl⟩
  cases d2 : decide (size ≤ 65536)
  · repeat (rw [dgo_cons]; simp (maxSteps := 2000000) only [go_sem, Nat.reduceBEq, Int.reduceLT, Int.reduceLE, reduceAdd, reduceEqDiff, reduceIte, reduceSub, Nat.reduceLT, reduceMul, reduceLeDiff, reduceCtorEq, d1, d2])
    try rw [dgo_nil]
    try simp only [go_sem, Nat.reduceBEq, Int.reduceLT, Int.reduceLE, reduceAdd, reduceEqDiff, reduceIte, reduceSub, Nat.reduceLT, reduceMul, reduceLeDiff, reduceCtorEq, d1, d2]
    repeat (first | ((first | refine sA hL hn rfl ?_ | refine sB hL hn rfl ?_); simp only [go_sem, Nat.reduceBEq, Int.reduceLT, Int.reduceLE, reduceAdd, reduceEqDiff, reduceIte, reduceSub, Nat.reduceLT, reduceMul, reduceLeDiff, reduceCtorEq]) | ((first | refine sC ?_ | refine sH ?_ | refine sI ?_ | refine sJ ?_); try simp only [thenK, blockK, loopK, loopG, if_true, if_false, reduceEqDiff]) | refine sD ?_ | refine sE ?_ | refine sF rfl ?_ | refine sG rfl ?_)
    exact ⟨_, _, _, Ghost.refl _ _, rfl, GhostV.refl _ _ _, rfl⟩
  by_cases h0 : l.length = 0
  · have z : (N == 0) = true := by rw [hN, hXl, h0]; rfl
    have e0 : l[l.length - 1]? = none := by rw [h0]; exact List.getElem?_eq_none (by omega)
    rw [e0]
    repeat (rw [dgo_cons]; simp (maxSteps := 2000000) only [go_sem, Nat.reduceBEq, Int.reduceLT, Int.reduceLE, reduceAdd, reduceEqDiff, reduceIte, reduceSub, Nat.reduceLT, reduceMul, reduceLeDiff, reduceCtorEq, d1, d2, z])
    try rw [dgo_nil]
    try simp only [go_sem, Nat.reduceBEq, Int.reduceLT, Int.reduceLE, reduceAdd, reduceEqDiff, reduceIte, reduceSub, Nat.reduceLT, reduceMul, reduceLeDiff, reduceCtorEq, d1, d2, z]
    repeat (first | ((first | refine sA hL hn rfl ?_ | refine sB hL hn rfl ?_); simp only [go_sem, Nat.reduceBEq, Int.reduceLT, Int.reduceLE, reduceAdd, reduceEqDiff, reduceIte, reduceSub, Nat.reduceLT, reduceMul, reduceLeDiff, reduceCtorEq]) | ((first | refine sC ?_ | refine sH ?_ | refine sI ?_ | refine sJ ?_); try simp only [thenK, blockK, loopK, loopG, if_true, if_false, reduceEqDiff]) | refine sD ?_ | refine sE ?_ | refine sF rfl ?_ | refine sG rfl ?_)
    exact ⟨_, _, _, Ghost.refl _ _, rfl, GhostV.refl _ _ _, rfl⟩
  · have hl : l.length - 1 < l.length := by omega
    have z : (N == 0) = false := by rw [hN, hXl]; exact beq_false_of_ne (by omega)
    have w1 : IntKind.i64.wrap (N - 1) = ((l.length - 1 : Nat) : Int) := by
      have hlen2 : l.length ≤ 9223372036854775807 := by rw [← hXl]; omega
      rw [hN, hXl]; exact wi (by omega) (by omega)
    have e4 : l[l.length - 1]? = some l[l.length - 1] := List.getElem?_eq_getElem hl
    rw [e4]
    obtain ⟨x, hx⟩ : ∃ x, x = l[l.length - 1] := ⟨_, rfl⟩
    obtain ⟨M, hM⟩ : ∃ M, M = l.length - 1 := ⟨_, rfl⟩
    rw [← hM] at w1
    have e2 : (0 ≤ (M : Int) ∧ (M : Int) < (X.length : Int)) := by rw [hXl]; omega
    have e3 : X[M]?.getD .undef = .agg [.int .i64 x.v, .int .i64 x.p, .int .i64 x.l] := by rw [hX, hM, hx]; simp [hl, eX, eI]
    rw [← hx]
    repeat (rw [dgo_cons]; simp (maxSteps := 2000000) only [go_sem, Nat.reduceBEq, Int.reduceLT, Int.reduceLE, reduceAdd, reduceEqDiff, reduceIte, reduceSub, Nat.reduceLT, reduceMul, reduceLeDiff, reduceCtorEq, d1, d2, z, w1, e2, e3])
    try rw [dgo_nil]
    try simp only [go_sem, Nat.reduceBEq, Int.reduceLT, Int.reduceLE, reduceAdd, reduceEqDiff, reduceIte, reduceSub, Nat.reduceLT, reduceMul, reduceLeDiff, reduceCtorEq, d1, d2, z, w1, e2, e3]
    repeat (first | ((first | refine sA hL hn rfl ?_ | refine sB hL hn rfl ?_); simp only [go_sem, Nat.reduceBEq, Int.reduceLT, Int.reduceLE, reduceAdd, reduceEqDiff, reduceIte, reduceSub, Nat.reduceLT, reduceMul, reduceLeDiff, reduceCtorEq]) | ((first | refine sC ?_ | refine sH ?_ | refine sI ?_ | refine sJ ?_); try simp only [thenK, blockK, loopK, loopG, if_true, if_false, reduceEqDiff]) | refine sD ?_ | refine sE ?_ | refine sF rfl ?_ | refine sG rfl ?_)
    exact ⟨_, _, _, Ghost.refl _ _, rfl, GhostV.refl _ _ _, rfl⟩
end Go.VL
end
section
set_option linter.unusedSimpArgs false
set_option linter.unusedVariables false
namespace Go.VL
open Go Go.Proofs
open Nat (reduceAdd reduceEqDiff reduceSub reduceMul reduceLeDiff)

theorem sortF_map {α : Type} (e : α → DV) (cf : DV → DV → Int) (rs : List α) (hO : ∀ (h : 0 < (rs.map e).length), Sort.SWO (ltOf fun i j : _root_.Fin (rs.map e).length => cf (rs.map e)[i] (rs.map e)[j])) :
    ∃ rs' : List α, rs'.length = rs.length ∧ (∀ x ∈ rs', x ∈ rs) ∧ sortF cf (rs.map e) = rs'.map e := by
  unfold sortF
  split
  · rename_i h
    letI : Inhabited (_root_.Fin (rs.map e).length) := ⟨⟨0, h⟩⟩
    obtain ⟨d0, hd0⟩ : ∃ d0 : Array (_root_.Fin (rs.map e).length), d0 = Array.ofFn fun i => i := ⟨_, rfl⟩
    have hs0 : d0.size = (rs.map e).length := by rw [hd0]; simp
    have hps := (Sort.pdq_sorts _ (hO h) d0 0 d0.size (Lib.bitLen d0.size) true true (Nat.zero_le _) (Nat.le_refl _) (Or.inl rfl)).1.1
    rw [← hd0]
    rw [hs0] at hps
    have hl : ∀ i : _root_.Fin (rs.map e).length, i.val < rs.length := fun i => Nat.lt_of_lt_of_eq i.isLt (List.length_map _)
    generalize Sort.pdq (ltOf fun i j : _root_.Fin (rs.map e).length => cf (rs.map e)[i] (rs.map e)[j]) d0 0 (rs.map e).length (Lib.bitLen (rs.map e).length) true true = D at hps ⊢
    refine ⟨D.toList.map fun i => rs[i.val]'(hl i), ?_, fun x hx => ?_, ?_⟩
    · rw [List.length_map, Array.length_toList, hps, List.length_map]
    · obtain ⟨i, _, rfl⟩ := List.mem_map.1 hx
      exact List.getElem_mem _
    · rw [List.map_map]
      refine List.map_congr_left fun i _ => ?_
      simp
  · rename_i h
    have : rs = [] := by
      cases rs with
      | nil => rfl
      | cons a r => exact absurd (by simp) h
    subst this
    exact ⟨[], rfl, fun x hx => hx, rfl⟩
theorem swo_cmp {α : Type} (e : α → DV) (cf : DV → DV → Int) (K : α → Int) (hc : ∀ a b, cf (e a) (e b) = cmpF (K a) (K b)) (rs : List α) : ∀ (h : 0 < (rs.map e).length), Sort.SWO (ltOf fun i j : _root_.Fin (rs.map e).length => cf (rs.map e)[i] (rs.map e)[j]) := by
  intro h
  have hl : ∀ i : _root_.Fin (rs.map e).length, i.val < rs.length := fun i => Nat.lt_of_lt_of_eq i.isLt (List.length_map _)
  have : (fun i j : _root_.Fin (rs.map e).length => cf (rs.map e)[i] (rs.map e)[j]) = fun i j => if K (rs[i.val]'(hl i)) < K (rs[j.val]'(hl j)) then (-1 : Int) else if K (rs[j.val]'(hl j)) < K (rs[i.val]'(hl i)) then 1 else 0 := by
    funext i j
    have e1 : (rs.map e)[i] = e (rs[i.val]'(hl i)) := by simp
    have e2 : (rs.map e)[j] = e (rs[j.val]'(hl j)) := by simp
    rw [e1, e2, hc]
    rfl
  rw [this]
  exact swo_key fun i => K (rs[i.val]'(hl i))
/-- A reference. -/
structure Rf where
  p : Int
  l : Int
  o : Int
  v : Int
def eR (x : Rf) : DV := .agg [eI x.p, eI x.l, eI x.o, eI x.v]
theorem swo_order {α : Type} (e : α → DV) (cf : DV → DV → Int) (R : α → Rf) (hc : ∀ a b, cf (e a) (e b) = orderF (R a).p (R a).o (R a).v (R b).p (R b).o (R b).v) (rs : List α) :
    ∀ (h : 0 < (rs.map e).length), Sort.SWO (ltOf fun i j : _root_.Fin (rs.map e).length => cf (rs.map e)[i] (rs.map e)[j]) := by
  intro h
  have hl : ∀ i : _root_.Fin (rs.map e).length, i.val < rs.length := fun i => Nat.lt_of_lt_of_eq i.isLt (List.length_map _)
  have key : ∀ i j : _root_.Fin (rs.map e).length, ltOf (fun i j : _root_.Fin (rs.map e).length => cf (rs.map e)[i] (rs.map e)[j]) i j =
      decide ((R (rs[i.val]'(hl i))).p < (R (rs[j.val]'(hl j))).p ∨ ((R (rs[i.val]'(hl i))).p = (R (rs[j.val]'(hl j))).p ∧ ((R (rs[i.val]'(hl i))).o < (R (rs[j.val]'(hl j))).o ∨ ((R (rs[i.val]'(hl i))).o = (R (rs[j.val]'(hl j))).o ∧ (R (rs[i.val]'(hl i))).v < (R (rs[j.val]'(hl j))).v)))) := by
    intro i j
    have e1 : (rs.map e)[i] = e (rs[i.val]'(hl i)) := by simp
    have e2 : (rs.map e)[j] = e (rs[j.val]'(hl j)) := by simp
    unfold ltOf
    show decide (cf (rs.map e)[i] (rs.map e)[j] < 0) = _
    rw [e1, e2, hc, decide_eq_decide]
    unfold orderF orF orF orF orF cmpF
    repeat' split
    all_goals omega
  refine ⟨fun x => ?_, fun x y z h1 h2 => ?_, fun x y z h1 h2 => ?_⟩ <;> simp only [key, decide_eq_true_eq, decide_eq_false_iff_not] at * <;> omega

/-- The first n objects are kept. -/
theorem Ghost.keep (n : Nat) {C : Ctx} {env : List (Nat × DV)} {σ X : List Ob} (l : List (Nat × DV)) (hσ : C.σ0 = σ) (hf : Fixed σ) (hl : agree env l) (he : lowEnv (σ.length + (X.take n).length) l) (ho : lowObs (σ.length + (X.take n).length) (X.take n)) (ht : tmpObs (σ.length + (X.take n).length) (X.drop n)) (hdd : C.dd = [] := by assumption) :
    Ghost C ⟨env, σ ++ X⟩ ⟨l, σ ++ X.take n⟩ := by
  rw [← List.length_append] at he ho ht
  have := Ghost.clear (own := X.take n) (tmp := X.drop n) (env := env) l hσ hf hl he ho ht
  rwa [List.take_append_drop] at this
theorem fzE_low {n N : Nat} {r : Nat → Nat → DV} : ∀ (l : List (Nat × DV)), lowEnv n l → fzE n N r l = l
  | [], _ => rfl
  | p :: l, h => by
    have := fzE_low (N := N) (r := r) l h.2
    unfold fzE at this ⊢
    rw [List.map_cons, this, h.1 n (Nat.le_refl _) N r]
/-- One's own list, the last object, given up: a value that nobody writes. -/
theorem Ghost.give1 (c s : Nat) {C : Ctx} {env : List (Nat × DV)} {σ : List Ob} {t k : Nat} {xs : List DV} (l : List (Nat × DV)) (hσ : C.σ0 = σ) (hf : Fixed σ) (hl : agree env ((s, .sl σ.length xs.length 0 xs.length) :: l)) (he : lowEnv σ.length l) (hx : ∀ x ∈ xs, Low σ.length x) (hdd : C.dd = [] := by assumption) :
    Ghost C ⟨env, σ ++ [.arr t k xs]⟩ ⟨(s, .vec c k xs) :: l, σ⟩ := by
  refine Ghost.trans (Ghost.weak (Weak.of_agree rfl hl)) ?_
  refine Ghost.trans (Ghost.pop c (by rw [hσ]; exact Nat.le_refl _) (fun x h => hx x h _ (Nat.le_refl _)) (by rw [hdd]; trivial)) ?_
  have e1 : fzE σ.length xs.length (asVec c k xs) ((s, .sl σ.length xs.length 0 xs.length) :: l) = (s, .vec c k xs) :: l := by
    have := fzE_low (N := xs.length) (r := asVec c k xs) l he
    unfold fzE at this ⊢
    rw [List.map_cons, this]
    simp [fz, asVec]
  have e2 : σ.map (fzOb σ.length xs.length (asVec c k xs)) = σ := hf _ (Nat.le_refl _) _ _
  rw [e1, e2]
  exact Ghost.refl _ _
theorem one_eI (x : Int) : (eI x).one = true := rfl
theorem one_eN (x : Int) : (eN x).one = true := rfl
def cfS : DV → DV → Int
  | .agg (.int _ a :: _), .agg (.int _ b :: _) => cmpF a b
  | _, _ => 0
def cfR : DV → DV → Int
  | .agg [.int _ p, _, .int _ o, .int _ v], .agg [.int _ p', _, .int _ o', .int _ v'] => orderF p o v p' o' v'
  | _, _ => 0
theorem sortSpans (xs : List Sp) (hsz : xs.length ≤ 1048576) {g : FuncId} (hg : ∀ x y, Ok Tryz.prog g [eS x, eS y] [] (.ret (eI (cmpF x.a y.a))) []) : ∃ ys : List Sp, ys.length = xs.length ∧ (∀ y ∈ ys, y ∈ xs) ∧
    ∀ (m t : Nat) (σ : List Ob), 0 < xs.length → σ[m]? = some (.arr t 2 (xs.map eS)) → Ok Tryz.prog 52 [.sl m xs.length 0 xs.length, .fn g []] σ (.ret (.tup [])) (σ.set m (.arr t 2 (ys.map eS))) := by
  have hO := swo_cmp eS cfS Sp.a (fun _ _ => rfl) xs
  obtain ⟨ys, h1, h2, h3⟩ := sortF_map eS cfS xs hO
  refine ⟨ys, h1, h2, fun m t σ hn hm => ?_⟩
  have := sortSpan_ok (cf := cfS) (ds := xs.map eS) (g := g) hO (fun x hx y hy => by
    obtain ⟨a, _, rfl⟩ := List.mem_map.1 hx
    obtain ⟨b, _, rfl⟩ := List.mem_map.1 hy
    exact hg a b) (fun x hx => by
    obtain ⟨a, _, rfl⟩ := List.mem_map.1 hx
    exact ⟨_, rfl, rfl, fun d hd => by simp only [List.mem_cons, List.not_mem_nil, or_false] at hd; rcases hd with rfl | rfl <;> exact ⟨(low_int _ _).2 trivial, rfl⟩⟩) hm (by rw [List.length_map]; exact hn) (by rw [List.length_map]; omega)
  rw [h3, List.length_map] at this
  exact this
theorem sortRefs (xs : List Rf) (hsz : xs.length ≤ 1048576) : ∃ ys : List Rf, ys.length = xs.length ∧ (∀ y ∈ ys, y ∈ xs) ∧
    ∀ (m t : Nat) (σ : List Ob), 0 < xs.length → σ[m]? = some (.arr t 4 (xs.map eR)) → Ok Tryz.prog 58 [.sl m xs.length 0 xs.length, .fn 59 []] σ (.ret (.tup [])) (σ.set m (.arr t 4 (ys.map eR))) := by
  have hO := swo_order eR cfR id (fun _ _ => rfl) xs
  obtain ⟨ys, h1, h2, h3⟩ := sortF_map eR cfR xs hO
  refine ⟨ys, h1, h2, fun m t σ hn hm => ?_⟩
  have := sortRef_ok (cf := cfR) (ds := xs.map eR) (g := 59) hO (fun x hx y hy => by
    obtain ⟨a, _, rfl⟩ := List.mem_map.1 hx
    obtain ⟨b, _, rfl⟩ := List.mem_map.1 hy
    exact order_ok _ _ _ _ _ _ _ _ _) (fun x hx => by
    obtain ⟨a, _, rfl⟩ := List.mem_map.1 hx
    exact ⟨_, rfl, rfl, fun d hd => by simp only [List.mem_cons, List.not_mem_nil, or_false] at hd; rcases hd with rfl | rfl | rfl | rfl <;> exact ⟨(low_int _ _).2 trivial, rfl⟩⟩) hm (by rw [List.length_map]; exact hn) (by rw [List.length_map]; omega)
  rw [h3, List.length_map] at this
  exact this
/-- An item. -/
structure It where
  k : Int
  v : Int
  deriving DecidableEq
def eT (x : It) : DV := .agg [eN x.k, eN x.v]
theorem sortItems (xs : List It) (hsz : xs.length ≤ 1048576) : ∃ ys : List It, ys.length = xs.length ∧ (∀ y ∈ ys, y ∈ xs) ∧
    ∀ (m t : Nat) (σ : List Ob), 0 < xs.length → σ[m]? = some (.arr t 2 (xs.map eT)) → Ok Tryz.prog 41 [.sl m xs.length 0 xs.length, .fn 42 []] σ (.ret (.tup [])) (σ.set m (.arr t 2 (ys.map eT))) := by
  have hO := swo_cmp eT cfS It.k (fun _ _ => rfl) xs
  obtain ⟨ys, h1, h2, h3⟩ := sortF_map eT cfS xs hO
  refine ⟨ys, h1, h2, fun m t σ hn hm => ?_⟩
  have := sortItem_ok (cf := cfS) (ds := xs.map eT) (g := 42) hO (fun x hx y hy => by
    obtain ⟨a, _, rfl⟩ := List.mem_map.1 hx
    obtain ⟨b, _, rfl⟩ := List.mem_map.1 hy
    exact items1_ok _ _ _ _ _) (fun x hx => by
    obtain ⟨a, _, rfl⟩ := List.mem_map.1 hx
    exact ⟨_, rfl, rfl, fun d hd => by simp only [List.mem_cons, List.not_mem_nil, or_false] at hd; rcases hd with rfl | rfl <;> exact ⟨(low_int _ _).2 trivial, rfl⟩⟩) hm (by rw [List.length_map]; exact hn) (by rw [List.length_map]; omega)
  rw [h3, List.length_map] at this
  exact this
end Go.VL
end
section
set_option linter.unusedSimpArgs false
set_option linter.unusedVariables false
set_option maxRecDepth 10000
set_option maxHeartbeats 4000000
namespace Go.VL
open Go Go.Proofs
open Nat (reduceAdd reduceEqDiff reduceSub reduceMul reduceLeDiff)

def rfOf (o : Int) (x : Ex) : Rf := ⟨x.p, x.l, o, x.v⟩
def rfsOf (m : Int × List Ex) : List Rf := m.2.map (rfOf m.1)
def rfs (l : List (Int × List Ex)) : List Rf := l.flatMap rfsOf
theorem refsGo_len : ∀ (l : List (Int × List Ex)) (k : Int), refsGo k l = true → ∀ x ∈ l, x.2.length ≤ 1024
  | [], _, _ => fun x hx => nomatch hx
  | m :: r, k, h => by
    rw [refsGo] at h
    split at h; · cases h
    split at h; · cases h
    split at h; · cases h
    rename_i h3
    intro x hx
    rcases List.mem_cons.1 hx with rfl | hx
    · have : exCheckF x.2 = 0 := by simpa using h3
      unfold exCheckF at this
      split at this
      · cases this
      · omega
    · exact refsGo_len r _ h x hx
theorem rfs_len : ∀ (l : List (Int × List Ex)), (∀ x ∈ l, x.2.length ≤ 1024) → (rfs l).length ≤ 1024 * l.length
  | [], _ => Nat.le_refl _
  | m :: r, h => by
    have := rfs_len r fun x hx => h x (List.mem_cons_of_mem _ hx)
    have h2 := h m (by simp)
    unfold rfs at this ⊢
    rw [List.flatMap_cons, List.length_append, List.length_cons]
    unfold rfsOf at this ⊢
    rw [List.length_map]
    omega
theorem rfs_bound {l : List (Int × List Ex)} (h : refsCheckF l = 0) : l.length ≤ 9 ∧ (∀ x ∈ l, x.2.length ≤ 1024) ∧ (rfs l).length ≤ 9216 := by
  unfold refsCheckF at h
  split at h; · cases h
  split at h
  · rename_i h1 h2
    have := refsGo_len l _ h2
    have := rfs_len l this
    exact ⟨by omega, by assumption, by omega⟩
  · cases h
def refOb (rs : List Rf) : Ob := .arr 94 4 (rs.map eR)
theorem all_eR (rs : List Rf) : ((rs.map eR).all fun y => y.cells.all DV.one) = true := by
  rw [List.all_eq_true]
  intro y hy
  obtain ⟨x, _, rfl⟩ := List.mem_map.1 hy
  rfl
theorem low_refOb (n : Nat) (rs : List Rf) : lowOb n (refOb rs) := by
  intro y hy
  obtain ⟨x, _, rfl⟩ := List.mem_map.1 hy
  simp [eR, eI, low_agg, low_int]
theorem refsBad_ok (c d : Nat) (l : List (Int × List Ex)) (h : refsCheckF l ≠ 0) (σ : List Ob) : Ok Tryz.prog 40 [.vec d 2 (l.map (eM c))] σ (.ret (.tup [.nils, .int .i64 (refsCheckF l)])) σ := by
  refine Ok.of_body layOk Tryz.func40 rfl (by decide) (by simp [Tryz.ntmps40]) fun C hP hn hσ hfix hdd => ?_
  rw [show Tryz.f40.ntmps = 45 from rfl] at hn
  have hL : LayOk C.P L := hP ▸ layOk
  have hm : C.P.follows .mixedOrders = true := hP ▸ mixed
  have hz : (refsCheckF l != 0) = true := by simpa using h
  repeat (first | ((first | refine sA hL hn rfl ?_ | refine sB hL hn rfl ?_); simp only [go_sem, Nat.reduceBEq, Int.reduceLT, Int.reduceLE, reduceAdd, reduceEqDiff, reduceIte, reduceSub, Nat.reduceLT, reduceMul, reduceLeDiff, reduceCtorEq]) | ((first | refine sC ?_ | refine sH ?_ | refine sI ?_ | refine sJ ?_); try simp only [thenK, blockK, loopK, loopG, if_true, if_false, reduceEqDiff]) | refine sD ?_ | refine sE ?_ | refine sF rfl ?_ | refine sG rfl ?_)
  refine sK hP hL hn rfl rfl (refsCheck_ok c d l _) rfl rfl rfl rfl ?_; simp (maxSteps := 2000000) only [go_sem, Nat.reduceBEq, Int.reduceLT, Int.reduceLE, reduceAdd, reduceEqDiff, reduceIte, reduceSub, Nat.reduceLT, reduceMul, reduceLeDiff, reduceCtorEq]
  repeat (first | ((first | refine sA hL hn rfl ?_ | refine sB hL hn rfl ?_); simp only [go_sem, Nat.reduceBEq, Int.reduceLT, Int.reduceLE, reduceAdd, reduceEqDiff, reduceIte, reduceSub, Nat.reduceLT, reduceMul, reduceLeDiff, reduceCtorEq, hz]) | ((first | refine sC ?_ | refine sH ?_ | refine sI ?_ | refine sJ ?_); try simp only [thenK, blockK, loopK, loopG, if_true, if_false, reduceEqDiff]) | refine sD ?_ | refine sE ?_ | refine sF rfl ?_ | refine sG rfl ?_)
  exact ⟨_, _, _, Ghost.refl _ _, rfl, GhostV.refl _ _ _, rfl⟩
theorem refsRaw_ok (c d : Nat) (l : List (Int × List Ex)) (h : refsCheckF l = 0) (rs' : List Rf) (hr : rs'.length = (rfs l).length) 
    (hs : ∀ (m t : Nat) (σ : List Ob), 0 < (rfs l).length → σ[m]? = some (.arr t 4 ((rfs l).map eR)) → Ok Tryz.prog 58 [.sl m (rfs l).length 0 (rfs l).length, .fn 59 []] σ (.ret (.tup [])) (σ.set m (.arr t 4 (rs'.map eR)))) (σ : List Ob) (D : DV) (O : List Ob)
    (hD : (0 < (rfs l).length ∧ D = .sl σ.length (rfs l).length 0 (rfs l).length ∧ O = [refOb rs']) ∨ (rfs l = [] ∧ D = .vec 0 4 [] ∧ O = [])) : Ok Tryz.prog 40 [.vec d 2 (l.map (eM c))] σ (.ret (.tup [D, .int .i64 0])) (σ ++ O) := by
  obtain ⟨b1, b2, b3⟩ := rfs_bound h
  refine Ok.of_body layOk Tryz.func40 rfl (by decide) (by simp [Tryz.ntmps40]) fun C hP hn hσ hfix hdd => ?_
  rw [show Tryz.f40.ntmps = 45 from rfl] at hn
  have hL : LayOk C.P L := hP ▸ layOk
  have hm : C.P.follows .mixedOrders = true := hP ▸ mixed
  repeat (first | ((first | refine sA hL hn rfl ?_ | refine sB hL hn rfl ?_); simp only [go_sem, Nat.reduceBEq, Int.reduceLT, Int.reduceLE, reduceAdd, reduceEqDiff, reduceIte, reduceSub, Nat.reduceLT, reduceMul, reduceLeDiff, reduceCtorEq]) | ((first | refine sC ?_ | refine sH ?_ | refine sI ?_ | refine sJ ?_); try simp only [thenK, blockK, loopK, loopG, if_true, if_false, reduceEqDiff]) | refine sD ?_ | refine sE ?_ | refine sF rfl ?_ | refine sG rfl ?_)
  refine sK hP hL hn rfl rfl (refsCheck_ok c d l _) rfl rfl rfl rfl ?_; simp (maxSteps := 2000000) only [go_sem, Nat.reduceBEq, Int.reduceLT, Int.reduceLE, reduceAdd, reduceEqDiff, reduceIte, reduceSub, Nat.reduceLT, reduceMul, reduceLeDiff, reduceCtorEq]
  rw [h]
  repeat (first | ((first | refine sA hL hn rfl ?_ | refine sB hL hn rfl ?_); simp only [go_sem, Nat.reduceBEq, Int.reduceLT, Int.reduceLE, reduceAdd, reduceEqDiff, reduceIte, reduceSub, Nat.reduceLT, reduceMul, reduceLeDiff, reduceCtorEq, List.length_map]) | ((first | refine sC ?_ | refine sH ?_ | refine sI ?_ | refine sJ ?_); try simp only [thenK, blockK, loopK, loopG, if_true, if_false, reduceEqDiff]) | refine sD ?_ | refine sE ?_ | refine sF rfl ?_ | refine sG rfl ?_)
  refine SW.lpg (fun k : Nat => ⟨[(3, .int .i64 0), (5, .sl σ.length (rfs (l.take k)).length 0 (rfs (l.take k)).length), (15, .vec d 2 (l.map (eM c))), (16, .int .i64 l.length), (17, .int .i64 k)], σ ++ [refOb (rfs (l.take k))]⟩) (fun k => l.length - k) (fun k => k ≤ l.length) 0 (by omega) ?_ ?_
  · refine Ghost.trans (Ghost.newNil 5 94 4 (by simp [lk])) (.of rfl ⟨rfl, rfl, rfl, rfl, rfl, trivial⟩)
  intro k hk
  have hpre : ∀ j, (rfs (l.take j)).length ≤ 9216 := fun j => by
    have : (rfs l).length = (rfs (l.take j)).length + (rfs (l.drop j)).length := by
      unfold rfs
      rw [← List.length_append, ← List.flatMap_append, List.take_append_drop]
    omega
  by_cases hlt : k < l.length
  · have e1 : decide ((k : Int) < (l.length : Int)) = true := decide_eq_true (by omega)
    have e2 : (0 ≤ (k : Int) ∧ (k : Int) < (l.length : Int)) := by omega
    have e3 : (l.map (eM c))[k]?.getD .undef = .agg [.int .i64 l[k].1, .vec c 3 (l[k].2.map eX)] := by simp [hlt, eM]
    have w1 : IntKind.i64.wrap ((k : Int) + 1) = ((k + 1 : Nat) : Int) := wi (by omega) (by omega)
    have hm2 := b2 l[k] (List.getElem_mem _)
    obtain ⟨m, hmm⟩ : ∃ m, m = l[k] := ⟨_, rfl⟩
    have hA0 : rfs (l.take (k + 1)) = rfs (l.take k) ++ rfsOf m := by
      unfold rfs
      rw [List.take_add_one, List.flatMap_append, List.getElem?_eq_getElem hlt, hmm]
      simp
    rw [← hmm] at e3 hm2
    have hpk := hpre (k + 1)
    rw [hA0, List.length_append] at hpk
    unfold rfsOf at hpk hA0
    rw [List.length_map] at hpk
    obtain ⟨R0, hR0⟩ : ∃ R0, R0 = rfs (l.take k) := ⟨_, rfl⟩
    rw [← hR0] at hA0 hpk
    rw [← hR0]
    repeat (first | ((first | refine sA hL hn rfl ?_ | refine sB hL hn rfl ?_); simp only [go_sem, Nat.reduceBEq, Int.reduceLT, Int.reduceLE, reduceAdd, reduceEqDiff, reduceIte, reduceSub, Nat.reduceLT, reduceMul, reduceLeDiff, reduceCtorEq, e1, List.length_map, e2, e3]) | ((first | refine sC ?_ | refine sH ?_ | refine sI ?_ | refine sJ ?_); try simp only [thenK, blockK, loopK, loopG, if_true, if_false, reduceEqDiff]) | refine sD ?_ | refine sE ?_ | refine sF rfl ?_ | refine sG rfl ?_)
    refine SW.lpg (fun x : Nat × List Rf => ⟨[(3, .int .i64 0), (5, .sl σ.length x.2.length 0 x.2.length), (7, .ptr (σ.length + 1) 1 0 0), (15, .vec d 2 (l.map (eM c))), (16, .int .i64 l.length), (17, .int .i64 k), (22, .vec c 3 (m.2.map eX)), (23, .int .i64 m.2.length), (24, .int .i64 x.1)],
      σ ++ [refOb x.2, .arr 87 2 [.agg [.int .i64 m.1, .vec c 3 (m.2.map eX)]]]⟩) (fun x => m.2.length - x.1) (fun x => x.1 ≤ m.2.length ∧ x.2 = R0 ++ (m.2.take x.1).map (rfOf m.1)) (0, R0) ⟨by simp, by simp⟩ (.of rfl ⟨rfl, rfl, rfl, rfl, rfl, rfl, rfl, rfl, rfl, trivial⟩) ?_
    rintro ⟨j, R⟩ ⟨hj, hR⟩
    simp only at hj hR
    have hml : ((m.2.take j).map (rfOf m.1)).length = j := by simp; omega
    have hRl : R.length ≤ 9216 := by rw [hR, List.length_append, hml]; omega
    by_cases hlj : j < m.2.length
    · have f1 : decide ((j : Int) < (m.2.length : Int)) = true := decide_eq_true (by omega)
      have f2 : (0 ≤ (j : Int) ∧ (j : Int) < (m.2.length : Int)) := by omega
      have f3 : (m.2.map eX)[j]?.getD .undef = .agg [.int .i64 m.2[j].v, .int .i64 m.2[j].p, .int .i64 m.2[j].l] := by simp [hlj, eX, eI]
      have w2 : IntKind.i64.wrap ((j : Int) + 1) = ((j + 1 : Nat) : Int) := wi (by omega) (by omega)
      have hA1 : R0 ++ (m.2.take (j + 1)).map (rfOf m.1) = R ++ [rfOf m.1 m.2[j]] := by rw [hR, List.take_succ_eq_append_getElem hlj, List.map_append, List.append_assoc]; rfl
      have hcap : (R.length + 1) * 32 ≤ 140737488355328 := by omega
      have hb : ∀ a b d e : Int, buildDV L 94 [(0, .int .i64 a), (1, .int .i64 b), (2, .int .i64 d), (3, .int .i64 e)] = some (.agg [.int .i64 a, .int .i64 b, .int .i64 d, .int .i64 e]) := fun _ _ _ _ => rfl
      have aR := all_eR R
      simp only [DV.cells] at aR
      repeat (first | ((first | refine sA hL hn rfl ?_ | refine sB hL hn rfl ?_); simp only [go_sem, Nat.reduceBEq, Int.reduceLT, Int.reduceLE, reduceAdd, reduceEqDiff, reduceIte, reduceSub, Nat.reduceLT, reduceMul, reduceLeDiff, reduceCtorEq, f1, List.length_map, f2, f3, refOb, hcap, w2, hb, appDV, aR]) | ((first | refine sC ?_ | refine sH ?_ | refine sI ?_ | refine sJ ?_); try simp only [thenK, blockK, loopK, loopG, if_true, if_false, reduceEqDiff]) | refine sD ?_ | refine sE ?_ | refine sF rfl ?_ | refine sG rfl ?_)
      refine Lp.nextg (j + 1, R ++ [rfOf m.1 m.2[j]]) ⟨by simp; omega, hA1.symm⟩ (by simp only; omega) ?_
      have q : (R ++ [rfOf m.1 m.2[j]]).map eR = R.map eR ++ [.agg [.int .i64 m.2[j].p, .int .i64 m.2[j].l, .int .i64 m.1, .int .i64 m.2[j].v]] := by simp [eR, rfOf, eI]
      have q2 : (R ++ [rfOf m.1 m.2[j]]).length = R.length + 1 := by simp
      have q3 := low_refOb (σ.length + 2) (R ++ [rfOf m.1 m.2[j]])
      unfold refOb at q3
      rw [q] at q3
      simp only [refOb, q, q2]
      refine Ghost.keep 2 _ hσ hfix ⟨rfl, rfl, rfl, rfl, rfl, rfl, rfl, rfl, rfl, trivial⟩ ?_ ⟨q3, by simp [lk, low_int, low_bool, low_str, low_nils, low_nilp, low_nilf, low_nili, low_undef, low_skip, low_vec, low_agg, low_tup, low_fn, low_vptr, low_iface, low_ptr, low_sl, low_mp, low_it, low_yld, low_emp, lowEnv, lowObs, lowOb, tmpObs, isArr, eX, eI], trivial⟩ (by simp [lk, low_int, low_bool, low_str, low_nils, low_nilp, low_nilf, low_nili, low_undef, low_skip, low_vec, low_agg, low_tup, low_fn, low_vptr, low_iface, low_ptr, low_sl, low_mp, low_it, low_yld, low_emp, lowEnv, lowObs, lowOb, tmpObs, isArr, eX, eI])
      exact ⟨(low_int _ _).2 trivial, (low_sl _ _ _ _).2 (by simp), (low_ptr _ _ _ _).2 (by simp), low_exs c d l _, (low_int _ _).2 trivial, (low_int _ _).2 trivial, by simp [lk, low_int, low_bool, low_str, low_nils, low_nilp, low_nilf, low_nili, low_undef, low_skip, low_vec, low_agg, low_tup, low_fn, low_vptr, low_iface, low_ptr, low_sl, low_mp, low_it, low_yld, low_emp, lowEnv, lowObs, lowOb, tmpObs, isArr, eX, eI], (low_int _ _).2 trivial, (low_int _ _).2 trivial, trivial⟩
    · have f1 : decide ((j : Int) < (m.2.length : Int)) = false := decide_eq_false (by omega)
      obtain rfl : j = m.2.length := by omega
      rw [List.take_length] at hR
      rw [← hR] at hA0
      repeat (first | ((first | refine sA hL hn rfl ?_ | refine sB hL hn rfl ?_); simp only [go_sem, Nat.reduceBEq, Int.reduceLT, Int.reduceLE, reduceAdd, reduceEqDiff, reduceIte, reduceSub, Nat.reduceLT, reduceMul, reduceLeDiff, reduceCtorEq, f1, w1]) | ((first | refine sC ?_ | refine sH ?_ | refine sI ?_ | refine sJ ?_); try simp only [thenK, blockK, loopK, loopG, if_true, if_false, reduceEqDiff]) | refine sD ?_ | refine sE ?_ | refine sF rfl ?_ | refine sG rfl ?_)
      refine Lp.nextg (k + 1) (by omega) (by omega) ?_
      rw [hA0]
      exact Ghost.keep 1 _ hσ hfix ⟨rfl, rfl, rfl, rfl, rfl, trivial⟩ ⟨(low_int _ _).2 trivial, (low_sl _ _ _ _).2 (by simp), low_exs c d l _, (low_int _ _).2 trivial, (low_int _ _).2 trivial, trivial⟩ ⟨low_refOb _ _, trivial⟩ (by simp [lk, low_int, low_bool, low_str, low_nils, low_nilp, low_nilf, low_nili, low_undef, low_skip, low_vec, low_agg, low_tup, low_fn, low_vptr, low_iface, low_ptr, low_sl, low_mp, low_it, low_yld, low_emp, lowEnv, lowObs, lowOb, tmpObs, isArr, eX, eI])
  · have e1 : decide ((k : Int) < (l.length : Int)) = false := decide_eq_false (by omega)
    obtain rfl : k = l.length := by omega
    rw [List.take_length]
    obtain ⟨R, hR⟩ : ∃ R, R = rfs l := ⟨_, rfl⟩
    rw [← hR] at hs hD hr
    rw [← hR]
    rcases hD with ⟨hpos, rfl, rfl⟩ | ⟨rfl, rfl, rfl⟩
    · repeat (first | ((first | refine sA hL hn rfl ?_ | refine sB hL hn rfl ?_); simp only [go_sem, Nat.reduceBEq, Int.reduceLT, Int.reduceLE, reduceAdd, reduceEqDiff, reduceIte, reduceSub, Nat.reduceLT, reduceMul, reduceLeDiff, reduceCtorEq, e1]) | ((first | refine sC ?_ | refine sH ?_ | refine sI ?_ | refine sJ ?_); try simp only [thenK, blockK, loopK, loopG, if_true, if_false, reduceEqDiff]) | refine sD ?_ | refine sE ?_ | refine sF rfl ?_ | refine sG rfl ?_)
      refine sK hP hL hn rfl rfl (hs σ.length 94 _ hpos (by simp [own_get, refOb])) rfl rfl rfl rfl ?_; simp (maxSteps := 2000000) only [go_sem, Nat.reduceBEq, Int.reduceLT, Int.reduceLE, reduceAdd, reduceEqDiff, reduceIte, reduceSub, Nat.reduceLT, reduceMul, reduceLeDiff, reduceCtorEq, refOb]
      repeat (first | ((first | refine sA hL hn rfl ?_ | refine sB hL hn rfl ?_); simp only [go_sem, Nat.reduceBEq, Int.reduceLT, Int.reduceLE, reduceAdd, reduceEqDiff, reduceIte, reduceSub, Nat.reduceLT, reduceMul, reduceLeDiff, reduceCtorEq, refOb]) | ((first | refine sC ?_ | refine sH ?_ | refine sI ?_ | refine sJ ?_); try simp only [thenK, blockK, loopK, loopG, if_true, if_false, reduceEqDiff]) | refine sD ?_ | refine sE ?_ | refine sF rfl ?_ | refine sG rfl ?_)
      exact ⟨_, _, _, Ghost.refl _ _, rfl, GhostV.refl _ _ _, rfl⟩
    · refine SW.ghost (Ghost.give1 0 5 [(3, .int .i64 0), (15, .vec d 2 (l.map (eM c))), (16, .int .i64 l.length), (17, .int .i64 l.length)] hσ hfix ⟨rfl, rfl, rfl, rfl, rfl, trivial⟩ ⟨(low_int _ _).2 trivial, low_exs c d l _, (low_int _ _).2 trivial, (low_int _ _).2 trivial, trivial⟩ (fun x hx => by simp at hx)) ?_
      repeat (first | ((first | refine sA hL hn rfl ?_ | refine sB hL hn rfl ?_); simp only [go_sem, Nat.reduceBEq, Int.reduceLT, Int.reduceLE, reduceAdd, reduceEqDiff, reduceIte, reduceSub, Nat.reduceLT, reduceMul, reduceLeDiff, reduceCtorEq, e1]) | ((first | refine sC ?_ | refine sH ?_ | refine sI ?_ | refine sJ ?_); try simp only [thenK, blockK, loopK, loopG, if_true, if_false, reduceEqDiff]) | refine sD ?_ | refine sE ?_ | refine sF rfl ?_ | refine sG rfl ?_)
      refine sK hP hL hn rfl rfl (sortRef0_ok _) rfl rfl rfl rfl ?_; simp (maxSteps := 2000000) only [go_sem, Nat.reduceBEq, Int.reduceLT, Int.reduceLE, reduceAdd, reduceEqDiff, reduceIte, reduceSub, Nat.reduceLT, reduceMul, reduceLeDiff, reduceCtorEq]
      repeat (first | ((first | refine sA hL hn rfl ?_ | refine sB hL hn rfl ?_); simp only [go_sem, Nat.reduceBEq, Int.reduceLT, Int.reduceLE, reduceAdd, reduceEqDiff, reduceIte, reduceSub, Nat.reduceLT, reduceMul, reduceLeDiff, reduceCtorEq]) | ((first | refine sC ?_ | refine sH ?_ | refine sI ?_ | refine sJ ?_); try simp only [thenK, blockK, loopK, loopG, if_true, if_false, reduceEqDiff]) | refine sD ?_ | refine sE ?_ | refine sF rfl ?_ | refine sG rfl ?_)
      exact ⟨_, _, _, Ghost.refl _ _, rfl, GhostV.refl _ _ _, rfl⟩
theorem low_vecX (n c : Nat) (l : List Ex) : Low n (.vec c 3 (l.map eX)) := by
  rw [low_vec]
  intro u hu
  obtain ⟨v, _, rfl⟩ := List.mem_map.1 hu
  simp [eX, eI, low_agg, low_int]
theorem low_vecR (n c : Nat) (l : List Rf) : Low n (.vec c 4 (l.map eR)) := by
  rw [low_vec]
  intro u hu
  obtain ⟨v, _, rfl⟩ := List.mem_map.1 hu
  simp [eR, eI, low_agg, low_int]
theorem low0_map {α : Type} (e : α → DV) (h : ∀ a, Low 0 (e a)) (c k : Nat) (l : List α) : Low 0 (.vec c k (l.map e)) := by
  rw [low_vec]
  intro u hu
  obtain ⟨v, _, rfl⟩ := List.mem_map.1 hu
  exact h v
/-- One's own list of values that lie nowhere, given up. -/
theorem Fz.list {α : Type} (e : α → DV) (h : ∀ a, Low 0 (e a)) {O : List Ob} {c id t k : Nat} {l : List α} (ho : O[id]? = some (.arr t k (l.map e))) : Fz O c (.sl id l.length 0 l.length) (.vec c k (l.map e)) := by
  have := Fz.sl (O := O) (c := c) (off := 0) (l := l.length) (ys := l.map e) ho (by simp) (fun j x y _ hx hy => by rw [Nat.zero_add, hy] at hx; cases hx; rfl) (fun j i x y d D _ hx hy hd hD => by
    rw [Nat.zero_add, hy] at hx; cases hx
    rw [hd] at hD; cases hD
    refine .low (low_cells (h := ?_) hd)
    obtain ⟨a, _, rfl⟩ := List.mem_map.1 (List.mem_of_getElem? hy)
    exact h a)
  rwa [List.length_map] at this
theorem Fz.two {O : List Ob} {c : Nat} {a b a' b' : DV} (h : Fz O c a a') (k : Fz O c b b') : Fz O c (.tup [a, b]) (.tup [a', b']) := by
  refine .tup rfl fun i x y hx hy => ?_
  match i, hx, hy with
  | 0, hx, hy => cases hx; cases hy; exact h
  | 1, hx, hy => cases hx; cases hy; exact k
  | i + 2, hx, _ => simp at hx
theorem low_eR (x : Rf) : Low 0 (eR x) := by simp [eR, eI, low_agg, low_int]
theorem refs_ok (c d : Nat) (l : List (Int × List Ex)) (h : refsCheckF l = 0) : ∃ rs : List Rf, rs.length ≤ 9216 ∧ ∀ σ, Ok Tryz.prog 40 [.vec d 2 (l.map (eM c))] σ (.ret (.tup [.vec 0 4 (rs.map eR), .int .i64 0])) σ := by
  obtain ⟨b1, b2, b3⟩ := rfs_bound h
  obtain ⟨rs, hr, _, hs⟩ := sortRefs (rfs l) (by omega)
  have ha : ∀ x ∈ [DV.vec d 2 (l.map (eM c))], Low 0 x := by simp; exact low_exs c d l 0
  by_cases hz : rfs l = []
  · refine ⟨[], by simp, fun σ => ?_⟩
    have := refsRaw_ok c d l h rs hr hs σ _ _ (.inr ⟨hz, rfl, rfl⟩)
    rwa [List.append_nil] at this
  · have hpos : 0 < (rfs l).length := List.length_pos_iff.2 hz
    refine ⟨rs, by omega, fun σ => ?_⟩
    have := refsRaw_ok c d l h rs hr hs [] _ _ (.inl ⟨hpos, rfl, rfl⟩)
    refine Ok.thaw (c := 0) this (Fz.two ?_ (.low ((low_int _ _).2 trivial))) ha σ
    rw [← hr]
    exact Fz.list eR low_eR (t := 94) rfl
end Go.VL
end
section
set_option linter.unusedSimpArgs false
set_option linter.unusedVariables false
set_option maxRecDepth 10000
set_option maxHeartbeats 1000000
namespace Go.VL
open Go Go.Proofs
open Nat (reduceAdd reduceEqDiff reduceSub reduceMul reduceLeDiff)
def di48_8 : List DI := [⟨[6], [], false, [0], some 20, []⟩, ⟨[20], [0], false, [0], some 21, [0]⟩, ⟨[21], [0, 1], false, [0], some 22, [1]⟩, ⟨[5, 22], [0, 1, 2], false, [0], some 23, [2]⟩, ⟨[22, 23], rg 0 4, false, [0], some 24, [3, 2]⟩, ⟨[3, 22], [0, 1, 2], false, [0], some 25, [2]⟩, ⟨[6, 22], [0, 1, 2], false, [0], some 26, [2]⟩, ⟨[22, 25, 26], [0, 1, 2, 5, 6], false, [0], some 27, [5, 6, 2]⟩, ⟨[22, 27], [0, 1, 2, 5, 6, 7], false, [0], some 28, [7, 2]⟩, ⟨[22, 28], ([0, 1, 2] ++ rg 5 4), false, [0], some 29, [8, 2]⟩, ⟨[3, 22], [0, 1, 2], false, [0], some 30, [2]⟩, ⟨[6, 22], [0, 1, 2], false, [0], some 31, [2]⟩, ⟨[22, 30, 31], [0, 1, 2, 10, 11], false, [0], some 32, [10, 11, 2]⟩, ⟨[22, 32], [0, 1, 2, 10, 11, 12], false, [0], some 33, [12, 2]⟩, ⟨[22, 33], ([0, 1, 2] ++ rg 10 4), false, [0], some 34, [13, 2]⟩, ⟨[22, 29, 34], ([0, 1, 2] ++ rg 5 10), false, [0], some 35, [9, 14, 2]⟩, ⟨[22, 24, 35], rg 0 16, false, [0], some 36, [4, 15, 2]⟩, ⟨[22, 36], rg 0 17, false, [0], some 37, [2, 16]⟩]
def di48_9 : List DI := [⟨[3], [], false, [0], some 38, []⟩, ⟨[6], [], false, [0], some 39, []⟩, ⟨[3], [], false, [0], some 40, []⟩, ⟨[6], [], false, [0], some 41, []⟩, ⟨[40, 41], [2, 3], false, [0], some 42, [2, 3]⟩, ⟨[42], [2, 3, 4], false, [0], some 43, [4]⟩, ⟨[43], rg 2 4, false, [0], some 44, [5]⟩, ⟨[5], [], false, [0], some 45, []⟩, ⟨[45], [7], false, [0], some 46, [7]⟩, ⟨[5], [], false, [0], some 47, []⟩, ⟨[47], [9], false, [0], some 48, [9]⟩, ⟨[46, 48], rg 7 4, false, [0], some 49, [8, 10]⟩, ⟨[3], [], false, [0], some 50, []⟩, ⟨[6], [], false, [0], some 51, []⟩, ⟨[50, 51], [12, 13], false, [0], some 52, [12, 13]⟩, ⟨[52], [12, 13, 14], false, [0], some 53, [14]⟩, ⟨[53], rg 12 4, false, [0], some 54, [15]⟩, ⟨[49, 54], rg 7 10, false, [0], some 55, [11, 16]⟩, ⟨[44, 55], rg 2 16, false, [0], some 56, [6, 17]⟩, ⟨[38, 39], rg 0 19, false, [0], some 57, ([0, 1] ++ rg 0 19)⟩, ⟨[57], rg 0 20, false, [0], some 58, ([19] ++ rg 0 19)⟩, ⟨[56, 58], rg 0 21, true, [], none, ([20, 18] ++ rg 0 19)⟩]

theorem all_eS (rs : List Sp) : ((rs.map eS).all fun y => y.cells.all DV.one) = true := by
  rw [List.all_eq_true]
  intro y hy
  obtain ⟨x, _, rfl⟩ := List.mem_map.1 hy
  rfl
theorem low_eS (n : Nat) (x : Sp) : Low n (eS x) := by simp [eS, eI, low_agg, low_int]
theorem low_spans (n c k : Nat) (l : List Sp) : Low n (.vec c k (l.map eS)) := by
  rw [low_vec]
  intro u hu
  obtain ⟨v, _, rfl⟩ := List.mem_map.1 hu
  exact low_eS n v
theorem low_spOb (n t k : Nat) (rs : List Sp) : lowOb n (.arr t k (rs.map eS)) := by
  intro y hy
  obtain ⟨x, _, rfl⟩ := List.mem_map.1 hy
  exact low_eS n x
theorem cloneSpan_ok (c : Nat) (xs : List Sp) (h0 : 0 < xs.length) (h1 : xs.length ≤ 1048576) (σ : List Ob) : Ok Tryz.prog 51 [.vec c 2 (xs.map eS)] σ (.ret (.sl σ.length xs.length 0 xs.length)) (σ ++ [.arr 73 2 (xs.map eS)]) := by
  obtain ⟨X, hX⟩ : ∃ X, X = xs.map eS := ⟨_, rfl⟩
  have hXl : X.length = xs.length := by rw [hX, List.length_map]
  have aX := all_eS xs
  rw [← hX] at aX ⊢
  simp only [DV.cells] at aX
  have hcap : X.length * 16 ≤ 140737488355328 := by omega
  have n0 : (X.length = 0) = False := eq_false (by omega)
  obtain ⟨x, R, hXR⟩ : ∃ x R, X = x :: R := by
    cases X with
    | nil => simp at hXl; omega
    | cons x R => exact ⟨x, R, rfl⟩
  rw [hXR] at aX hcap n0 hXl ⊢
  rw [List.length_cons] at hcap
  refine Ok.of_body layOk Tryz.func51 rfl (by decide) (by simp [Tryz.ntmps51]) fun C hP hn hσ hfix hdd => ?_
  rw [show Tryz.f51.ntmps = 8 from rfl] at hn
  have hL : LayOk C.P L := hP ▸ layOk
  have hm : C.P.follows .mixedOrders = true := hP ▸ mixed
  repeat (first | ((first | refine sA hL hn rfl ?_ | refine sB hL hn rfl ?_); simp only [go_sem, Nat.reduceBEq, Int.reduceLT, Int.reduceLE, reduceAdd, reduceEqDiff, reduceIte, reduceSub, Nat.reduceLT, reduceMul, reduceLeDiff, reduceCtorEq, appDV, aX, hcap, n0, Array.size_empty, List.size_toArray]) | ((first | refine sC ?_ | refine sH ?_ | refine sI ?_ | refine sJ ?_); try simp only [thenK, blockK, loopK, loopG, if_true, if_false, reduceEqDiff]) | refine sD ?_ | refine sE ?_ | refine sF rfl ?_ | refine sG rfl ?_)
  rw [← hXl]
  exact ⟨_, _, _, Ghost.refl _ _, rfl, GhostV.refl _ _ _, rfl⟩
theorem cloneSpan0_ok (c : Nat) (σ : List Ob) : Ok Tryz.prog 51 [.vec c 2 []] σ (.ret (.vec 0 2 [])) σ := by
  refine (OkE.thaw (c := 0) (R := fun D => D = .vec 0 2 []) ?_ (by simp [low_vec]) σ).ok fun o σ' ⟨e, D', e1, e2⟩ => by subst e2; exact ⟨e1, e⟩
  refine OkE.of_body layOk Tryz.func51 rfl (by decide) (by simp [Tryz.ntmps51]) fun C hP hn hσ hfix hdd => ?_
  rw [show Tryz.f51.ntmps = 8 from rfl] at hn
  have hL : LayOk C.P L := hP ▸ layOk
  have hm : C.P.follows .mixedOrders = true := hP ▸ mixed
  repeat (first | ((first | refine sA hL hn rfl ?_ | refine sB hL hn rfl ?_); simp only [go_sem, Nat.reduceBEq, Int.reduceLT, Int.reduceLE, reduceAdd, reduceEqDiff, reduceIte, reduceSub, Nat.reduceLT, reduceMul, reduceLeDiff, reduceCtorEq]) | ((first | refine sC ?_ | refine sH ?_ | refine sI ?_ | refine sJ ?_); try simp only [thenK, blockK, loopK, loopG, if_true, if_false, reduceEqDiff]) | refine sD ?_ | refine sE ?_ | refine sF rfl ?_ | refine sG rfl ?_)
  refine SWops.eqNil hL (by rw [hn]; rfl) rfl rfl ⟨_, _, rfl, rfl⟩ rfl rfl fun b hb => ?_
  refine SWops.nil ?_
  simp only [upo, up, thenK]
  cases b
  · repeat (first | ((first | refine sA hL hn rfl ?_ | refine sB hL hn rfl ?_); simp only [go_sem, Nat.reduceBEq, Int.reduceLT, Int.reduceLE, reduceAdd, reduceEqDiff, reduceIte, reduceSub, Nat.reduceLT, reduceMul, reduceLeDiff, reduceCtorEq, appDV]) | ((first | refine sC ?_ | refine sH ?_ | refine sI ?_ | refine sJ ?_); try simp only [thenK, blockK, loopK, loopG, if_true, if_false, reduceEqDiff]) | refine sD ?_ | refine sE ?_ | refine sF rfl ?_ | refine sG rfl ?_)
    refine ⟨.ret .emp, [], ⟨_, _, rfl, .emp, rfl⟩, ?_⟩
    exact ⟨_, _, _, Ghost.refl _ _, rfl, GhostV.refl _ _ _, rfl⟩
  · repeat (first | ((first | refine sA hL hn rfl ?_ | refine sB hL hn rfl ?_); simp only [go_sem, Nat.reduceBEq, Int.reduceLT, Int.reduceLE, reduceAdd, reduceEqDiff, reduceIte, reduceSub, Nat.reduceLT, reduceMul, reduceLeDiff, reduceCtorEq]) | ((first | refine sC ?_ | refine sH ?_ | refine sI ?_ | refine sJ ?_); try simp only [thenK, blockK, loopK, loopG, if_true, if_false, reduceEqDiff]) | refine sD ?_ | refine sE ?_ | refine sF rfl ?_ | refine sG rfl ?_)
    refine ⟨.ret .nils, [], ⟨_, _, rfl, .nil, rfl⟩, ?_⟩
    exact ⟨_, _, _, Ghost.refl _ _, rfl, GhostV.refl _ _ _, rfl⟩

/-! ### Join -/
def joinStep (out : List Sp) (x : Sp) : List Sp := match out.getLast? with
  | none => [x]
  | some y => if decide (x.a ≤ w64 (y.a + y.l)) then out.dropLast ++ [⟨y.a, mx y.l (w64 (w64 (x.a + x.l) - y.a))⟩] else out ++ [x]
theorem joinStep_len (out : List Sp) (x : Sp) : (joinStep out x).length ≤ out.length + 1 := by
  unfold joinStep
  split
  · simp
  · split <;> simp
theorem joinFold_len : ∀ (xs out : List Sp), (xs.foldl joinStep out).length ≤ out.length + xs.length
  | [], out => Nat.le_refl _
  | x :: r, out => by
    have := joinFold_len r (joinStep out x)
    have := joinStep_len out x
    simp only [List.foldl_cons, List.length_cons]
    omega
theorem join0_ok (c : Nat) (σ : List Ob) : Ok Tryz.prog 48 [.vec c 2 []] σ (.ret .nils) σ := by
  refine Ok.of_body layOk Tryz.func48 rfl (by decide) (by simp [Tryz.ntmps48]) fun C hP hn hσ hfix hdd => ?_
  rw [show Tryz.f48.ntmps = 65 from rfl] at hn
  have hL : LayOk C.P L := hP ▸ layOk
  have hm : C.P.follows .mixedOrders = true := hP ▸ mixed
  repeat (first | ((first | refine sA hL hn rfl ?_ | refine sB hL hn rfl ?_); simp only [go_sem, Nat.reduceBEq, Int.reduceLT, Int.reduceLE, reduceAdd, reduceEqDiff, reduceIte, reduceSub, Nat.reduceLT, reduceMul, reduceLeDiff, reduceCtorEq]) | ((first | refine sC ?_ | refine sH ?_ | refine sI ?_ | refine sJ ?_); try simp only [thenK, blockK, loopK, loopG, if_true, if_false, reduceEqDiff]) | refine sD ?_ | refine sE ?_ | refine sF rfl ?_ | refine sG rfl ?_)
  refine sK hP hL hn rfl rfl (cloneSpan0_ok c _) rfl rfl rfl rfl ?_; simp (maxSteps := 2000000) only [go_sem, Nat.reduceBEq, Int.reduceLT, Int.reduceLE, reduceAdd, reduceEqDiff, reduceIte, reduceSub, Nat.reduceLT, reduceMul, reduceLeDiff, reduceCtorEq]
  repeat (first | ((first | refine sA hL hn rfl ?_ | refine sB hL hn rfl ?_); simp only [go_sem, Nat.reduceBEq, Int.reduceLT, Int.reduceLE, reduceAdd, reduceEqDiff, reduceIte, reduceSub, Nat.reduceLT, reduceMul, reduceLeDiff, reduceCtorEq]) | ((first | refine sC ?_ | refine sH ?_ | refine sI ?_ | refine sJ ?_); try simp only [thenK, blockK, loopK, loopG, if_true, if_false, reduceEqDiff]) | refine sD ?_ | refine sE ?_ | refine sF rfl ?_ | refine sG rfl ?_)
  refine sK hP hL hn rfl rfl (sortSpan1_ok _) rfl rfl rfl rfl ?_; simp (maxSteps := 2000000) only [go_sem, Nat.reduceBEq, Int.reduceLT, Int.reduceLE, reduceAdd, reduceEqDiff, reduceIte, reduceSub, Nat.reduceLT, reduceMul, reduceLeDiff, reduceCtorEq]
  repeat (first | ((first | refine sA hL hn rfl ?_ | refine sB hL hn rfl ?_); simp only [go_sem, Nat.reduceBEq, Int.reduceLT, Int.reduceLE, reduceAdd, reduceEqDiff, reduceIte, reduceSub, Nat.reduceLT, reduceMul, reduceLeDiff, reduceCtorEq]) | ((first | refine sC ?_ | refine sH ?_ | refine sI ?_ | refine sJ ?_); try simp only [thenK, blockK, loopK, loopG, if_true, if_false, reduceEqDiff]) | refine sD ?_ | refine sE ?_ | refine sF rfl ?_ | refine sG rfl ?_)
  refine SW.lpg (fun _ : Nat => ⟨[(3, .nils), (12, .int .i64 0), (13, .int .i64 0)], σ⟩) (fun _ => 0) (fun _ => True) 0 trivial (.of rfl ⟨rfl, rfl, rfl, trivial⟩) ?_
  intro _ _
  repeat (first | ((first | refine sA hL hn rfl ?_ | refine sB hL hn rfl ?_); simp only [go_sem, Nat.reduceBEq, Int.reduceLT, Int.reduceLE, reduceAdd, reduceEqDiff, reduceIte, reduceSub, Nat.reduceLT, reduceMul, reduceLeDiff, reduceCtorEq]) | ((first | refine sC ?_ | refine sH ?_ | refine sI ?_ | refine sJ ?_); try simp only [thenK, blockK, loopK, loopG, if_true, if_false, reduceEqDiff]) | refine sD ?_ | refine sE ?_ | refine sF rfl ?_ | refine sG rfl ?_)
  exact ⟨_, _, _, Ghost.refl _ _, rfl, GhostV.refl _ _ _, rfl⟩
theorem joinRaw_ok (c : Nat) (xs ys : List Sp) (h0 : 0 < xs.length) (h1 : xs.length ≤ 65536) (hy : ys.length = xs.length)
    (hs : ∀ (m t : Nat) (σ : List Ob), 0 < xs.length → σ[m]? = some (.arr t 2 (xs.map eS)) → Ok Tryz.prog 52 [.sl m xs.length 0 xs.length, .fn 64 []] σ (.ret (.tup [])) (σ.set m (.arr t 2 (ys.map eS)))) (σ : List Ob) :
    Ok Tryz.prog 48 [.vec c 2 (xs.map eS)] σ (.ret (.sl (σ.length + 1) (ys.foldl joinStep []).length 0 (ys.foldl joinStep []).length)) (σ ++ [.arr 73 2 (ys.map eS), .arr 73 2 ((ys.foldl joinStep []).map eS)]) := by
  refine Ok.of_body layOk Tryz.func48 rfl (by decide) (by simp [Tryz.ntmps48]) fun C hP hn hσ hfix hdd => ?_
  rw [show Tryz.f48.ntmps = 65 from rfl] at hn
  have hL : LayOk C.P L := hP ▸ layOk
  have hm : C.P.follows .mixedOrders = true := hP ▸ mixed
  repeat (first | ((first | refine sA hL hn rfl ?_ | refine sB hL hn rfl ?_); simp only [go_sem, Nat.reduceBEq, Int.reduceLT, Int.reduceLE, reduceAdd, reduceEqDiff, reduceIte, reduceSub, Nat.reduceLT, reduceMul, reduceLeDiff, reduceCtorEq]) | ((first | refine sC ?_ | refine sH ?_ | refine sI ?_ | refine sJ ?_); try simp only [thenK, blockK, loopK, loopG, if_true, if_false, reduceEqDiff]) | refine sD ?_ | refine sE ?_ | refine sF rfl ?_ | refine sG rfl ?_)
  refine sK hP hL hn rfl rfl (cloneSpan_ok c xs h0 (by omega) _) rfl rfl rfl rfl ?_; simp (maxSteps := 2000000) only [go_sem, Nat.reduceBEq, Int.reduceLT, Int.reduceLE, reduceAdd, reduceEqDiff, reduceIte, reduceSub, Nat.reduceLT, reduceMul, reduceLeDiff, reduceCtorEq]
  repeat (first | ((first | refine sA hL hn rfl ?_ | refine sB hL hn rfl ?_); simp only [go_sem, Nat.reduceBEq, Int.reduceLT, Int.reduceLE, reduceAdd, reduceEqDiff, reduceIte, reduceSub, Nat.reduceLT, reduceMul, reduceLeDiff, reduceCtorEq]) | ((first | refine sC ?_ | refine sH ?_ | refine sI ?_ | refine sJ ?_); try simp only [thenK, blockK, loopK, loopG, if_true, if_false, reduceEqDiff]) | refine sD ?_ | refine sE ?_ | refine sF rfl ?_ | refine sG rfl ?_)
  refine sK hP hL hn rfl rfl (hs σ.length 73 _ h0 (by simp [own_get])) rfl rfl rfl rfl ?_; simp (maxSteps := 2000000) only [go_sem, Nat.reduceBEq, Int.reduceLT, Int.reduceLE, reduceAdd, reduceEqDiff, reduceIte, reduceSub, Nat.reduceLT, reduceMul, reduceLeDiff, reduceCtorEq]
  repeat (first | ((first | refine sA hL hn rfl ?_ | refine sB hL hn rfl ?_); simp only [go_sem, Nat.reduceBEq, Int.reduceLT, Int.reduceLE, reduceAdd, reduceEqDiff, reduceIte, reduceSub, Nat.reduceLT, reduceMul, reduceLeDiff, reduceCtorEq]) | ((first | refine sC ?_ | refine sH ?_ | refine sI ?_ | refine sJ ?_); try simp only [thenK, blockK, loopK, loopG, if_true, if_false, reduceEqDiff]) | refine sD ?_ | refine sE ?_ | refine sF rfl ?_ | refine sG rfl ?_)
  rw [← hy]
  refine SW.lpg (fun x : Nat × List Sp => ⟨[(3, .sl (σ.length + 1) x.2.length 0 x.2.length), (11, .sl σ.length ys.length 0 ys.length), (12, .int .i64 ys.length), (13, .int .i64 x.1)], σ ++ [.arr 73 2 (ys.map eS), .arr 73 2 (x.2.map eS)]⟩) (fun x => ys.length - x.1) (fun x => x.1 ≤ ys.length ∧ x.2 = (ys.take x.1).foldl joinStep []) (0, []) ⟨by simp, by simp⟩ ?_ ?_
  · refine Ghost.trans (Ghost.newNil 3 73 2 (by simp [lk])) (.of (by simp) (by simp [agree, lk, up]))
  rintro ⟨k, out⟩ ⟨hk, hout⟩
  simp only at hk hout
  by_cases hlt : k < ys.length
  · have hol : out.length ≤ 65536 := by
      have := joinFold_len (ys.take k) []
      rw [← hout] at this
      simp at this
      omega
    have e1 : decide ((k : Int) < (ys.length : Int)) = true := decide_eq_true (by omega)
    have e2 : (0 ≤ (k : Int) ∧ (k : Int) < (ys.length : Int)) := by omega
    obtain ⟨x, hx⟩ : ∃ x, x = ys[k] := ⟨_, rfl⟩
    have e3 : (ys.map eS)[k]? = some (.agg [.int .i64 x.a, .int .i64 x.l]) := by simp [hlt, eS, eI, hx]
    have w1 : IntKind.i64.wrap ((k : Int) + 1) = ((k + 1 : Nat) : Int) := wi (by omega) (by omega)
    have hnx : (ys.take (k + 1)).foldl joinStep [] = joinStep out x := by rw [List.take_succ_eq_append_getElem hlt, List.foldl_append, ← hout, hx]; rfl
    obtain ⟨Y, hY⟩ : ∃ Y, Y = ys.map eS := ⟨_, rfl⟩
    have hYl : Y.length = ys.length := by rw [hY, List.length_map]
    have hYo := low_spOb (σ.length + 2) 73 2 ys
    rw [← hY] at e3 hYo
    rw [← hYl] at e2 e1 
    rw [← hY, ← hYl]
    obtain ⟨O, hO⟩ : ∃ O, O = out.map eS := ⟨_, rfl⟩
    have hOl : O.length = out.length := by rw [hO, List.length_map]
    have aO := all_eS out
    rw [← hO] at aO
    simp only [DV.cells] at aO
    rw [← hO]
    rcases List.eq_nil_or_concat out with ho | ⟨init, y, ho⟩
    · subst ho
      have hO0 : O = [] := by rw [hO]; rfl
      subst hO0
      obtain ⟨q, hq⟩ : ∃ q : Int, q = -1 := ⟨_, rfl⟩
      have wn : IntKind.i64.wrap (((0 : Nat) : Int) - 1) = q := by rw [hq]; rfl
      have g3 : decide (q ≥ 0) = false := by rw [hq]; rfl
      repeat (first | ((first | refine sA hL hn rfl ?_ | refine sB hL hn rfl ?_); simp only [go_sem, Nat.reduceBEq, Int.reduceLT, Int.reduceLE, reduceAdd, reduceEqDiff, reduceIte, reduceSub, Nat.reduceLT, reduceMul, reduceLeDiff, reduceCtorEq, e1, e2, e3, List.length_nil, wn]) | ((first | refine sC ?_ | refine sH ?_ | refine sI ?_ | refine sJ ?_); try simp only [thenK, blockK, loopK, loopG, if_true, if_false, reduceEqDiff]) | refine sD ?_ | refine sE ?_ | refine sF rfl ?_ | refine sG rfl ?_)
      refine sM hL hm hn di48_8 [σ ++ [.arr 73 2 Y, .arr 73 2 [], .arr 73 2 [.agg [.int .i64 x.a, .int .i64 x.l]]]] rfl rfl rfl ?_
      unfold di48_8
      repeat (rw [dgo_cons]; simp (maxSteps := 2000000) only [go_sem, Nat.reduceBEq, Int.reduceLT, Int.reduceLE, reduceAdd, reduceEqDiff, reduceIte, reduceSub, Nat.reduceLT, reduceMul, reduceLeDiff, reduceCtorEq, g3])
      try rw [dgo_nil]
      try simp only [go_sem, Nat.reduceBEq, Int.reduceLT, Int.reduceLE, reduceAdd, reduceEqDiff, reduceIte, reduceSub, Nat.reduceLT, reduceMul, reduceLeDiff, reduceCtorEq, g3]
      have q0 : joinStep [] x = [x] := rfl
      have hcap : (0 + 1) * 16 ≤ 140737488355328 := by omega
      repeat (first | ((first | refine sA hL hn rfl ?_ | refine sB hL hn rfl ?_); simp only [go_sem, Nat.reduceBEq, Int.reduceLT, Int.reduceLE, reduceAdd, reduceEqDiff, reduceIte, reduceSub, Nat.reduceLT, reduceMul, reduceLeDiff, reduceCtorEq, appDV, w1]) | ((first | refine sC ?_ | refine sH ?_ | refine sI ?_ | refine sJ ?_); try simp only [thenK, blockK, loopK, loopG, if_true, if_false, reduceEqDiff]) | refine sD ?_ | refine sE ?_ | refine sF rfl ?_ | refine sG rfl ?_)
      have q3 := low_spOb (σ.length + 2) 73 2 [x]
      refine Lp.nextg (k + 1, [x]) ⟨by simp only; omega, hnx.symm⟩ (by simp only; omega) ?_
      refine Ghost.keep 2 _ hσ hfix (by simp [agree, lk, hYl]) ?_ ⟨hYo, q3, trivial⟩ (by simp [lk, low_int, low_bool, low_str, low_nils, low_nilp, low_nilf, low_nili, low_undef, low_skip, low_vec, low_agg, low_tup, low_fn, low_vptr, low_iface, low_ptr, low_sl, low_mp, low_it, low_yld, low_emp, lowEnv, lowObs, lowOb, tmpObs, isArr, eX, eI])
      exact ⟨(low_sl _ _ _ _).2 (by simp), (low_sl _ _ _ _).2 (by simp), (low_int _ _).2 trivial, (low_int _ _).2 trivial, trivial⟩
    · have hN : out.length = init.length + 1 := by rw [ho]; simp
      obtain ⟨M, hM⟩ : ∃ M, M = init.length := ⟨_, rfl⟩
      rw [← hM] at hN
      have wn : IntKind.i64.wrap ((out.length : Int) - 1) = (M : Int) := by rw [hN]; exact wi (by omega) (by omega)
      have g1 : O[M]? = some (.agg [.int .i64 y.a, .int .i64 y.l]) := by rw [hO, ho, hM]; simp [eS, eI]
      have g2 : (0 ≤ (M : Int) ∧ (M : Int) < (out.length : Int)) := by omega
      have g3 : decide ((M : Int) ≥ 0) = true := decide_eq_true (by omega)
      repeat (first | ((first | refine sA hL hn rfl ?_ | refine sB hL hn rfl ?_); simp only [go_sem, Nat.reduceBEq, Int.reduceLT, Int.reduceLE, reduceAdd, reduceEqDiff, reduceIte, reduceSub, Nat.reduceLT, reduceMul, reduceLeDiff, reduceCtorEq, e1, e2, e3, wn]) | ((first | refine sC ?_ | refine sH ?_ | refine sI ?_ | refine sJ ?_); try simp only [thenK, blockK, loopK, loopG, if_true, if_false, reduceEqDiff]) | refine sD ?_ | refine sE ?_ | refine sF rfl ?_ | refine sG rfl ?_)
      refine sM hL hm hn di48_8 [σ ++ [.arr 73 2 Y, .arr 73 2 O, .arr 73 2 [.agg [.int .i64 x.a, .int .i64 x.l]]]] rfl rfl rfl ?_
      unfold di48_8
      cases hd : decide (x.a ≤ w64 (y.a + y.l))
      · repeat (rw [dgo_cons]; simp (maxSteps := 2000000) only [go_sem, Nat.reduceBEq, Int.reduceLT, Int.reduceLE, reduceAdd, reduceEqDiff, reduceIte, reduceSub, Nat.reduceLT, reduceMul, reduceLeDiff, reduceCtorEq, g1, g2, g3, hOl, hd])
        try rw [dgo_nil]
        try simp only [go_sem, Nat.reduceBEq, Int.reduceLT, Int.reduceLE, reduceAdd, reduceEqDiff, reduceIte, reduceSub, Nat.reduceLT, reduceMul, reduceLeDiff, reduceCtorEq, g1, g2, g3, hOl, hd]
        have q0 : joinStep out x = out ++ [x] := by unfold joinStep; rw [ho]; simp only [List.concat_eq_append, List.getLast?_append, List.getLast?_singleton, Option.some_or]; rw [hd]; rfl
        have q1 : (joinStep out x).map eS = O ++ [.agg [.int .i64 x.a, .int .i64 x.l]] := by rw [q0, List.map_append, ← hO]; rfl
        have q2 : (joinStep out x).length = out.length + 1 := by rw [q0]; simp
        have hcap : (out.length + 1) * 16 ≤ 140737488355328 := by omega
        repeat (first | ((first | refine sA hL hn rfl ?_ | refine sB hL hn rfl ?_); simp only [go_sem, Nat.reduceBEq, Int.reduceLT, Int.reduceLE, reduceAdd, reduceEqDiff, reduceIte, reduceSub, Nat.reduceLT, reduceMul, reduceLeDiff, reduceCtorEq, appDV, aO, hOl, hcap, w1]) | ((first | refine sC ?_ | refine sH ?_ | refine sI ?_ | refine sJ ?_); try simp only [thenK, blockK, loopK, loopG, if_true, if_false, reduceEqDiff]) | refine sD ?_ | refine sE ?_ | refine sF rfl ?_ | refine sG rfl ?_)
        refine Lp.nextg (k + 1, joinStep out x) ⟨by simp only; omega, hnx.symm⟩ (by simp only; omega) ?_
        have q3 := low_spOb (σ.length + 2) 73 2 (joinStep out x)
        rw [q1] at q3
        simp only [q1, q2]
        refine Ghost.keep 2 _ hσ hfix (by simp [agree, lk, hYl, hOl]) ?_ ⟨hYo, q3, trivial⟩ (by simp [lk, low_int, low_bool, low_str, low_nils, low_nilp, low_nilf, low_nili, low_undef, low_skip, low_vec, low_agg, low_tup, low_fn, low_vptr, low_iface, low_ptr, low_sl, low_mp, low_it, low_yld, low_emp, lowEnv, lowObs, lowOb, tmpObs, isArr, eX, eI])
        exact ⟨(low_sl _ _ _ _).2 (by simp), (low_sl _ _ _ _).2 (by simp), (low_int _ _).2 trivial, (low_int _ _).2 trivial, trivial⟩
      · repeat (rw [dgo_cons]; simp (maxSteps := 2000000) only [go_sem, Nat.reduceBEq, Int.reduceLT, Int.reduceLE, reduceAdd, reduceEqDiff, reduceIte, reduceSub, Nat.reduceLT, reduceMul, reduceLeDiff, reduceCtorEq, g1, g2, g3, hOl, hd])
        try rw [dgo_nil]
        try simp only [go_sem, Nat.reduceBEq, Int.reduceLT, Int.reduceLE, reduceAdd, reduceEqDiff, reduceIte, reduceSub, Nat.reduceLT, reduceMul, reduceLeDiff, reduceCtorEq, g1, g2, g3, hOl, hd]
        first | ((first | refine sA hL hn rfl ?_ | refine sB hL hn rfl ?_); simp only [go_sem, Nat.reduceBEq, Int.reduceLT, Int.reduceLE, reduceAdd, reduceEqDiff, reduceIte, reduceSub, Nat.reduceLT, reduceMul, reduceLeDiff, reduceCtorEq]) | ((first | refine sC ?_ | refine sH ?_ | refine sI ?_ | refine sJ ?_); try simp only [thenK, blockK, loopK, loopG, if_true, if_false, reduceEqDiff]) | refine sD ?_ | refine sE ?_ | refine sF rfl ?_ | refine sG rfl ?_
        first | ((first | refine sA hL hn rfl ?_ | refine sB hL hn rfl ?_); simp only [go_sem, Nat.reduceBEq, Int.reduceLT, Int.reduceLE, reduceAdd, reduceEqDiff, reduceIte, reduceSub, Nat.reduceLT, reduceMul, reduceLeDiff, reduceCtorEq]) | ((first | refine sC ?_ | refine sH ?_ | refine sI ?_ | refine sJ ?_); try simp only [thenK, blockK, loopK, loopG, if_true, if_false, reduceEqDiff]) | refine sD ?_ | refine sE ?_ | refine sF rfl ?_ | refine sG rfl ?_
        refine sM hL hm hn di48_9 [σ ++ [.arr 73 2 Y, .arr 73 2 O, .arr 73 2 [.agg [.int .i64 x.a, .int .i64 x.l]]], σ ++ [.arr 73 2 Y, .arr 73 2 (O.set M (.agg [.int .i64 y.a, .int .i64 (mx y.l (w64 (w64 (x.a + x.l) - y.a)))])), .arr 73 2 [.agg [.int .i64 x.a, .int .i64 x.l]]]] rfl rfl rfl ?_
        unfold di48_9
        repeat (rw [dgo_cons]; simp (maxSteps := 2000000) only [go_sem, Nat.reduceBEq, Int.reduceLT, Int.reduceLE, reduceAdd, reduceEqDiff, reduceIte, reduceSub, Nat.reduceLT, reduceMul, reduceLeDiff, reduceCtorEq, g1, g2, g3, hOl])
        try rw [dgo_nil]
        try simp only [go_sem, Nat.reduceBEq, Int.reduceLT, Int.reduceLE, reduceAdd, reduceEqDiff, reduceIte, reduceSub, Nat.reduceLT, reduceMul, reduceLeDiff, reduceCtorEq, g1, g2, g3, hOl]
        have q0 : joinStep out x = init ++ [⟨y.a, mx y.l (w64 (w64 (x.a + x.l) - y.a))⟩] := by unfold joinStep; rw [ho]; simp only [List.concat_eq_append, List.getLast?_append, List.getLast?_singleton, Option.some_or]; rw [hd]; simp
        have q1 : (joinStep out x).map eS = O.set M (.agg [.int .i64 y.a, .int .i64 (mx y.l (w64 (w64 (x.a + x.l) - y.a)))]) := by
          rw [q0, hO, ho, hM]
          simp [eS, eI]
        have q2 : (joinStep out x).length = out.length := by rw [q0, hN, hM]; simp
        repeat (first | ((first | refine sA hL hn rfl ?_ | refine sB hL hn rfl ?_); simp only [go_sem, Nat.reduceBEq, Int.reduceLT, Int.reduceLE, reduceAdd, reduceEqDiff, reduceIte, reduceSub, Nat.reduceLT, reduceMul, reduceLeDiff, reduceCtorEq, w1]) | ((first | refine sC ?_ | refine sH ?_ | refine sI ?_ | refine sJ ?_); try simp only [thenK, blockK, loopK, loopG, if_true, if_false, reduceEqDiff]) | refine sD ?_ | refine sE ?_ | refine sF rfl ?_ | refine sG rfl ?_)
        refine Lp.nextg (k + 1, joinStep out x) ⟨by simp only; omega, hnx.symm⟩ (by simp only; omega) ?_
        have q3 := low_spOb (σ.length + 2) 73 2 (joinStep out x)
        rw [q1] at q3
        simp only [q1, q2]
        refine Ghost.keep 2 _ hσ hfix (by simp [agree, lk, hYl, hOl]) ?_ ⟨hYo, q3, trivial⟩ (by simp [lk, low_int, low_bool, low_str, low_nils, low_nilp, low_nilf, low_nili, low_undef, low_skip, low_vec, low_agg, low_tup, low_fn, low_vptr, low_iface, low_ptr, low_sl, low_mp, low_it, low_yld, low_emp, lowEnv, lowObs, lowOb, tmpObs, isArr, eX, eI])
        exact ⟨(low_sl _ _ _ _).2 (by simp), (low_sl _ _ _ _).2 (by simp), (low_int _ _).2 trivial, (low_int _ _).2 trivial, trivial⟩
  · have e1 : decide ((k : Int) < (ys.length : Int)) = false := decide_eq_false (by omega)
    obtain rfl : k = ys.length := by omega
    rw [List.take_length] at hout
    rw [← hout]
    repeat (first | ((first | refine sA hL hn rfl ?_ | refine sB hL hn rfl ?_); simp only [go_sem, Nat.reduceBEq, Int.reduceLT, Int.reduceLE, reduceAdd, reduceEqDiff, reduceIte, reduceSub, Nat.reduceLT, reduceMul, reduceLeDiff, reduceCtorEq, e1]) | ((first | refine sC ?_ | refine sH ?_ | refine sI ?_ | refine sJ ?_); try simp only [thenK, blockK, loopK, loopG, if_true, if_false, reduceEqDiff]) | refine sD ?_ | refine sE ?_ | refine sF rfl ?_ | refine sG rfl ?_)
    exact ⟨_, _, _, Ghost.refl _ _, rfl, GhostV.refl _ _ _, rfl⟩
theorem join_ok (c : Nat) (xs : List Sp) (h1 : xs.length ≤ 65536) : ∃ D : List Sp, D.length ≤ xs.length ∧ ∀ σ, Ok Tryz.prog 48 [.vec c 2 (xs.map eS)] σ (.ret (.vec 0 2 (D.map eS))) σ := by
  have ha : ∀ x ∈ [DV.vec c 2 (xs.map eS)], Low 0 x := by simp; exact low_spans 0 c 2 xs
  rcases Nat.eq_zero_or_pos xs.length with h0 | h0
  · obtain rfl := List.length_eq_zero_iff.1 h0
    exact ⟨[], by simp, fun σ => Ok.thaw (c := 0) (join0_ok c []) .nil ha σ⟩
  · obtain ⟨ys, e1, _, hs⟩ := sortSpans xs (by omega) (g := 64) fun x y => join1_ok _ _ _ _ _
    refine ⟨ys.foldl joinStep [], ?_, fun σ => Ok.thaw (c := 0) (joinRaw_ok c xs ys h0 h1 e1 hs []) (Fz.list eS (low_eS 0) (t := 73) (k := 2) ?_) ha σ⟩
    · have := joinFold_len ys []
      simp only [List.length_nil] at this
      omega
    · rfl
end Go.VL
end
