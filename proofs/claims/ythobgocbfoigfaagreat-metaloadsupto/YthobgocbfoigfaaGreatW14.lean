/- Proved: MetaLoads: whatever items and data come in (together of bulk at most 1048576), the call returns true and they read as they did; no other condition. This text is part 14 of 15. -/
import Derived.Test.YthobgocbfoigfaaGreatW13
section
set_option linter.unusedSimpArgs false
set_option linter.unusedVariables false
set_option maxRecDepth 10000
set_option maxHeartbeats 4000000
namespace Go.VL
open Go Go.Proofs
open Nat (reduceAdd reduceEqDiff reduceSub reduceMul reduceLeDiff)
def di5_7 : List DI := [⟨[6], [], false, [0, 1], some 21, []⟩, ⟨[21], [0], false, [0, 1], some 22, [0]⟩, ⟨[8], [], false, [0], some 23, []⟩, ⟨[23], [2], false, [0], some 24, [2]⟩, ⟨[24], [2, 3], true, [], some 25, [3]⟩, ⟨[22, 25], rg 0 5, true, [], some 26, [1, 4, 3]⟩, ⟨[6], rg 0 6, false, [2], some 27, rg 0 6⟩, ⟨[26, 27], rg 0 7, true, [], none, ([6, 5, 5] ++ rg 0 6)⟩]

theorem told_ok (c : Nat) (l : List It) (hl : l.length ≤ 1048576) (σ : List Ob) : OkE Tryz.prog 13 [.vec c 2 (l.map eT)] σ fun o σ' => σ' = σ ∧ ∃ D, o = .ret D ∧ ∃ v, GoodV l.length v ∧ D = eV0 v :=
  OkE.thaw (c := 0) (R := fun D => ∃ v, GoodV l.length v ∧ D = eV0 v) ((toldE c l hl).mono fun o O ⟨d, v, h1, h2, h3⟩ => ⟨d, _, h1, h3, v, h2, rfl⟩) (by simp [low_vec]; intro a _; exact low_eT 0 a) σ
def zeroV : DV := .agg [.int .i64 0, .nils, .nils, .int .i64 0, .int .i64 0, .nils, .nils]
/-- What Load answers. -/
def LoadR (l : List It) (data : List (List UInt8)) (D : DV) : Prop :=
  (upTo l l.length = false ∧ D = .tup [zeroV, .int .i64 32]) ∨ (upTo l l.length = true ∧ D = .tup [zeroV, .int .i64 21]) ∨
  (upTo l l.length = true ∧ ∃ (v : Vo) (sps : List Sp), v.data = data ∧ (∀ σ, Ok Tryz.prog 10 [eV v (.vec 0 2 (sps.map eS))] σ (.ret (.int .i64 0)) σ) ∧
    (∀ σ, Ok Tryz.prog 17 [eV v (.vec 0 2 (sps.map eS))] σ (.ret (.vec 0 2 (l.map eT))) σ) ∧ D = .tup [eV v (.vec 0 2 (sps.map eS)), .int .i64 0])
theorem zeroV_low (n : Nat) : Low n zeroV := by simp [zeroV, low_agg, low_int, low_nils]
theorem loadE (c : Nat) (l : List It) (data : List (List UInt8)) (hl : l.length ≤ 1048576) (h1 : data.length ≤ 1048576) (h2 : ∀ x ∈ data, x.length ≤ 1048576) :
    OkE Tryz.prog 5 [.vec c 2 (l.map eT), .vec 0 1 (data.map (eD 0))] [] fun o O => ∃ d D, o = .ret d ∧ Fz O 0 d D ∧ LoadR l data D := by
  have hrise := fun σ => rising_ok c l σ
  have htold := fun σ => told_ok c l hl σ
  have hequal := fun (ys : List It) σ => equalItem_ok 0 c ys l σ
  obtain ⟨X, hX⟩ : ∃ X, X = l.map eT := ⟨_, rfl⟩
  rw [← hX] at hrise htold ⊢
  simp only [← hX] at hequal
  obtain ⟨DD, hDD⟩ : ∃ DD, DD = data.map (eD 0) := ⟨_, rfl⟩
  have hDl : DD.length = data.length := by rw [hDD, List.length_map]
  have hDm := lowIff (eD 0) (fun n => low_eD n 0) data
  have hDn := noId_of_low (eD 0) (fun n => low_eD n 0) data
  rw [← hDD] at hDm hDn ⊢
  obtain ⟨σ, hσ0⟩ : ∃ σ : List Ob, σ = [] := ⟨_, rfl⟩
  rw [← hσ0]
  refine OkE.of_body layOk Tryz.func5 rfl (by decide) (by simp [Tryz.ntmps5]) fun C hP hn hσ hfix hdd => ?_
  rw [show Tryz.f5.ntmps = 49 from rfl] at hn
  have hL : LayOk C.P L := hP ▸ layOk
  have hm : C.P.follows .mixedOrders = true := hP ▸ mixed
  have hb0 : buildDV L 34 [] = some (.agg [.int .i64 0, .nils, .nils, .int .i64 0, .int .i64 0, .nils, .nils]) := rfl
  have hb1 : ∀ n : Int, buildDV L 32 [(0, .int .i64 n)] = some (.agg [.int .i64 n, .nils]) := fun _ => rfl
  cases hup : upTo l l.length
  · repeat (first | ((first | refine sA hL hn rfl ?_ | refine sB hL hn rfl ?_); simp only [go_sem, Nat.reduceBEq, Int.reduceLT, Int.reduceLE, reduceAdd, reduceEqDiff, reduceIte, reduceSub, Nat.reduceLT, reduceMul, reduceLeDiff, reduceCtorEq]) | ((first | refine sC ?_ | refine sH ?_ | refine sI ?_ | refine sJ ?_); try simp only [thenK, blockK, loopK, loopG, if_true, if_false, reduceEqDiff]) | refine sD ?_ | refine sE ?_ | refine sF rfl ?_ | refine sG rfl ?_)
    refine sK hP hL hn rfl rfl (hrise _) rfl rfl rfl rfl ?_; simp (maxSteps := 2000000) only [go_sem, Nat.reduceBEq, Int.reduceLT, Int.reduceLE, reduceAdd, reduceEqDiff, reduceIte, reduceSub, Nat.reduceLT, reduceMul, reduceLeDiff, reduceCtorEq, hup]
    repeat (first | ((first | refine sA hL hn rfl ?_ | refine sB hL hn rfl ?_); simp only [go_sem, Nat.reduceBEq, Int.reduceLT, Int.reduceLE, reduceAdd, reduceEqDiff, reduceIte, reduceSub, Nat.reduceLT, reduceMul, reduceLeDiff, reduceCtorEq, hb0]) | ((first | refine sC ?_ | refine sH ?_ | refine sI ?_ | refine sJ ?_); try simp only [thenK, blockK, loopK, loopG, if_true, if_false, reduceEqDiff]) | refine sD ?_ | refine sE ?_ | refine sF rfl ?_ | refine sG rfl ?_)
    refine ⟨_, _, ⟨_, _, rfl, ?_, .inl ⟨hup, rfl⟩⟩, _, .tup [.agg [.int .i64 0, .nils, .nils, .int .i64 0, .int .i64 0, .nils, .nils], .int .i64 32], _, Ghost.refl _ _, ?_, GhostV.refl _ _ _, rfl⟩
    rotate_left
    show resDV L _ [Go.ResultVar.cell 4 34, Go.ResultVar.tmp 5] = _
    simp only [resDV, resL, resDV1, go_sem, Nat.reduceBEq, Int.reduceLT, Int.reduceLE, reduceAdd, reduceEqDiff, reduceIte, reduceSub, Nat.reduceLT, reduceMul, reduceLeDiff, reduceCtorEq]
    exact .low (by simp [low_tup, low_agg, low_int, low_nils])
  repeat (first | ((first | refine sA hL hn rfl ?_ | refine sB hL hn rfl ?_); simp only [go_sem, Nat.reduceBEq, Int.reduceLT, Int.reduceLE, reduceAdd, reduceEqDiff, reduceIte, reduceSub, Nat.reduceLT, reduceMul, reduceLeDiff, reduceCtorEq]) | ((first | refine sC ?_ | refine sH ?_ | refine sI ?_ | refine sJ ?_); try simp only [thenK, blockK, loopK, loopG, if_true, if_false, reduceEqDiff]) | refine sD ?_ | refine sE ?_ | refine sF rfl ?_ | refine sG rfl ?_)
  refine sK hP hL hn rfl rfl (hrise _) rfl rfl rfl rfl ?_; simp (maxSteps := 2000000) only [go_sem, Nat.reduceBEq, Int.reduceLT, Int.reduceLE, reduceAdd, reduceEqDiff, reduceIte, reduceSub, Nat.reduceLT, reduceMul, reduceLeDiff, reduceCtorEq, hup]
  repeat (first | ((first | refine sA hL hn rfl ?_ | refine sB hL hn rfl ?_); simp only [go_sem, Nat.reduceBEq, Int.reduceLT, Int.reduceLE, reduceAdd, reduceEqDiff, reduceIte, reduceSub, Nat.reduceLT, reduceMul, reduceLeDiff, reduceCtorEq]) | ((first | refine sC ?_ | refine sH ?_ | refine sI ?_ | refine sJ ?_); try simp only [thenK, blockK, loopK, loopG, if_true, if_false, reduceEqDiff]) | refine sD ?_ | refine sE ?_ | refine sF rfl ?_ | refine sG rfl ?_)
  refine SWops.callE hP (by rw [hn]; rfl) (htold _) rfl rfl rfl rfl (fun d σ' h => by obtain ⟨_, _, h, _⟩ := h; cases h) fun d σ' h => ?_
  obtain ⟨rfl, D0, hd0, v, hgood, rfl⟩ := h
  cases hd0
  unfold eV0
  obtain ⟨N, hN⟩ : ∃ N, N = v.now.map eX := ⟨_, rfl⟩
  obtain ⟨Z, hZ⟩ : ∃ Z, Z = v.snaps.map (eZ 0) := ⟨_, rfl⟩
  have hNn := noId_of_low eX low_eXn v.now
  have hZn := noId_of_low (eZ 0) (fun n => low_eZ n 0) v.snaps
  have hNm := lowIff eX low_eXn v.now
  have hZm := lowIff (eZ 0) (fun n => low_eZ n 0) v.snaps
  rw [← hN] at hNn hNm
  rw [← hZ] at hZn hZm
  rw [← hN, ← hZ]
  refine SWops.go hL (by rw [hn]; rfl) ?_
  simp (maxSteps := 2000000) only [go_sem, Nat.reduceBEq, Int.reduceLT, Int.reduceLE, reduceAdd, reduceEqDiff, reduceIte, reduceSub, Nat.reduceLT, reduceMul, reduceLeDiff, reduceCtorEq, dgo_nil, dgo_cons]
  repeat (first | ((first | refine sA hL hn rfl ?_ | refine sB hL hn rfl ?_); simp only [go_sem, Nat.reduceBEq, Int.reduceLT, Int.reduceLE, reduceAdd, reduceEqDiff, reduceIte, reduceSub, Nat.reduceLT, reduceMul, reduceLeDiff, reduceCtorEq]) | ((first | refine sC ?_ | refine sH ?_ | refine sI ?_ | refine sJ ?_); try simp only [thenK, blockK, loopK, loopG, if_true, if_false, reduceEqDiff]) | refine sD ?_ | refine sE ?_ | refine sF rfl ?_ | refine sG rfl ?_)
  refine SW.ghost (Ghost.newNilIn (σ.length + 1) 6 48 1 (t := 34) (k := 7) (cs := [.int .i64 v.size, .vec 0 3 N, .vec 0 4 Z, .int .i64 v.next, .int .i64 0, .nils, .nils]) (by simp [own_get]) rfl) ?_
  refine SW.lpg (fun x : Nat × List (List UInt8) => ⟨[(0, .vec c 2 X), (1, .vec 0 1 DD), (4, .ptr σ.length 1 0 0), (5, .int .i64 0), (6, .ptr (σ.length + 1) 1 0 0), (15, .vec 0 1 DD), (16, .int .i64 data.length), (17, .int .i64 x.1)], σ ++ [.arr 34 7 [.agg [.int .i64 0, .nils, .nils, .int .i64 0, .int .i64 0, .nils, .nils]], .arr 34 7 [.agg [.int .i64 v.size, .vec 0 3 N, .vec 0 4 Z, .int .i64 v.next, .int .i64 0, .nils, (.sl (σ.length + 2) x.2.length 0 x.2.length)]], .arr 48 1 (x.2.map (eD 0))]⟩) (fun x => data.length - x.1) (fun x => x.1 ≤ data.length ∧ x.2 = data.take x.1) (0, []) ⟨by simp, rfl⟩ (.of (by simp [own_set]) (by simp [agree, lk, hDl])) ?_
  rintro ⟨k, out⟩ ⟨hk, hout⟩
  simp only at hk hout
  have hol : out.length = k := by rw [hout]; simp; omega
  obtain ⟨O, hO⟩ : ∃ O, O = out.map (eD 0) := ⟨_, rfl⟩
  have hOl : O.length = out.length := by rw [hO, List.length_map]
  have aO := all_eD 0 out
  rw [← hO] at aO
  simp only [DV.cells] at aO
  by_cases hlt : k < data.length
  · have e1 : decide ((k : Int) < (data.length : Int)) = true := decide_eq_true (by omega)
    have e2 : (0 ≤ (k : Int) ∧ (k : Int) < (DD.length : Int)) := by omega
    obtain ⟨x, hx⟩ : ∃ x, x = data[k] := ⟨_, rfl⟩
    obtain ⟨xl, hxl⟩ : ∃ xl, xl = x.map eB := ⟨_, rfl⟩
    have hxm := lowIff eB low_eB x
    have hcl := fun σ => cloneB_ok 0 x (h2 x (by rw [hx]; exact List.getElem_mem _)) σ
    rw [← hxl] at hxm hcl
    have e3 : DD[k]?.getD .undef = .vec 0 1 xl := by rw [hDD, hxl, hx]; simp [hlt, eD]
    have w1 : IntKind.i64.wrap ((k : Int) + 1) = ((k + 1 : Nat) : Int) := wi (by omega) (by omega)
    have hnx : data.take (k + 1) = out ++ [x] := by rw [List.take_succ_eq_append_getElem hlt, hout, hx]
    have hcap : (out.length + 1) * 24 ≤ 140737488355328 := by omega
    have q1 : (out ++ [x]).map (eD 0) = O ++ [.vec 0 1 xl] := by rw [List.map_append, ← hO, hxl]; rfl
    have q2 : (out ++ [x]).length = out.length + 1 := by simp
    rw [← hO]
    repeat (first | ((first | refine sA hL hn rfl ?_ | refine sB hL hn rfl ?_); simp only [go_sem, Nat.reduceBEq, Int.reduceLT, Int.reduceLE, reduceAdd, reduceEqDiff, reduceIte, reduceSub, Nat.reduceLT, reduceMul, reduceLeDiff, reduceCtorEq, e1, e2, e3]) | ((first | refine sC ?_ | refine sH ?_ | refine sI ?_ | refine sJ ?_); try simp only [thenK, blockK, loopK, loopG, if_true, if_false, reduceEqDiff]) | refine sD ?_ | refine sE ?_ | refine sF rfl ?_ | refine sG rfl ?_)
    refine sM hL hm hn di5_7 [σ ++ [.arr 34 7 [.agg [.int .i64 0, .nils, .nils, .int .i64 0, .int .i64 0, .nils, .nils]], .arr 34 7 [.agg [.int .i64 v.size, .vec 0 3 N, .vec 0 4 Z, .int .i64 v.next, .int .i64 0, .nils, (.sl (σ.length + 2) out.length 0 out.length)]], .arr 48 1 O], σ ++ [.arr 34 7 [.agg [.int .i64 0, .nils, .nils, .int .i64 0, .int .i64 0, .nils, .nils]], .arr 34 7 [.agg [.int .i64 v.size, .vec 0 3 N, .vec 0 4 Z, .int .i64 v.next, .int .i64 0, .nils, (.sl (σ.length + 2) out.length 0 out.length)]], .arr 48 1 O, .arr 48 1 [.vec 0 1 xl]], σ ++ [.arr 34 7 [.agg [.int .i64 0, .nils, .nils, .int .i64 0, .int .i64 0, .nils, .nils]], .arr 34 7 [.agg [.int .i64 v.size, .vec 0 3 N, .vec 0 4 Z, .int .i64 v.next, .int .i64 0, .nils, (.sl (σ.length + 2) out.length 0 out.length)]], .arr 48 1 (O ++ [.vec 0 1 xl]), .arr 48 1 [.vec 0 1 xl]], σ ++ [.arr 34 7 [.agg [.int .i64 0, .nils, .nils, .int .i64 0, .int .i64 0, .nils, .nils]], .arr 34 7 [.agg [.int .i64 v.size, .vec 0 3 N, .vec 0 4 Z, .int .i64 v.next, .int .i64 0, .nils, (.sl (σ.length + 2) (out.length + 1) 0 (out.length + 1))]], .arr 48 1 (O ++ [.vec 0 1 xl]), .arr 48 1 [.vec 0 1 xl]]] rfl rfl rfl ?_
    unfold di5_7
    repeat (rw [dgo_cons]; simp (maxSteps := 2000000) only [go_sem, Nat.reduceBEq, Int.reduceLT, Int.reduceLE, reduceAdd, reduceEqDiff, reduceIte, reduceSub, Nat.reduceLT, reduceMul, reduceLeDiff, reduceCtorEq])
    try rw [dgo_nil]
    try simp only [go_sem, Nat.reduceBEq, Int.reduceLT, Int.reduceLE, reduceAdd, reduceEqDiff, reduceIte, reduceSub, Nat.reduceLT, reduceMul, reduceLeDiff, reduceCtorEq]
    refine DCall.pure hP (fun q _ => hcl _) rfl rfl rfl rfl ?_; repeat (simp (maxSteps := 2000000) only [go_sem, Nat.reduceBEq, Int.reduceLT, Int.reduceLE, reduceAdd, reduceEqDiff, reduceIte, reduceSub, Nat.reduceLT, reduceMul, reduceLeDiff, reduceCtorEq, appDV, aO, hOl, hcap]; first | rw [dgo_cons] | rw [dgo_nil])
    try simp only [go_sem, Nat.reduceBEq, Int.reduceLT, Int.reduceLE, reduceAdd, reduceEqDiff, reduceIte, reduceSub, Nat.reduceLT, reduceMul, reduceLeDiff, reduceCtorEq, appDV, aO, hOl, hcap]
    repeat (first | ((first | refine sA hL hn rfl ?_ | refine sB hL hn rfl ?_); simp only [go_sem, Nat.reduceBEq, Int.reduceLT, Int.reduceLE, reduceAdd, reduceEqDiff, reduceIte, reduceSub, Nat.reduceLT, reduceMul, reduceLeDiff, reduceCtorEq, w1]) | ((first | refine sC ?_ | refine sH ?_ | refine sI ?_ | refine sJ ?_); try simp only [thenK, blockK, loopK, loopG, if_true, if_false, reduceEqDiff]) | refine sD ?_ | refine sE ?_ | refine sF rfl ?_ | refine sG rfl ?_)
    refine Lp.nextg (k + 1, out ++ [x]) ⟨by simp only; omega, hnx.symm⟩ (by simp only; omega) ?_
    have q3 := low_ob (eD 0) (fun n => low_eD n 0) (σ.length + 3) 48 1 (out ++ [x])
    rw [q1] at q3
    simp only [q1, q2]
    refine Ghost.keep 3 _ hσ hfix (by simp [agree, lk, hOl, hDl]) ?_ ⟨?_, ?_, q3, trivial⟩ (by simp [lk, low_int, low_bool, low_str, low_nils, low_nilp, low_nilf, low_nili, low_undef, low_skip, low_vec, low_agg, low_tup, low_fn, low_vptr, low_iface, low_ptr, low_sl, low_mp, low_it, low_yld, low_emp, lowEnv, lowObs, lowOb, tmpObs, isArr, hxm])
    · rw [hX]
      simp [lk, low_int, low_bool, low_str, low_nils, low_nilp, low_nilf, low_nili, low_undef, low_skip, low_vec, low_agg, low_tup, low_fn, low_vptr, low_iface, low_ptr, low_sl, low_mp, low_it, low_yld, low_emp, lowEnv, lowObs, lowOb, tmpObs, isArr, hDm, eT, eN]
    · simp [lk, low_int, low_bool, low_str, low_nils, low_nilp, low_nilf, low_nili, low_undef, low_skip, low_vec, low_agg, low_tup, low_fn, low_vptr, low_iface, low_ptr, low_sl, low_mp, low_it, low_yld, low_emp, lowEnv, lowObs, lowOb, tmpObs, isArr]
    · simp [lk, low_int, low_bool, low_str, low_nils, low_nilp, low_nilf, low_nili, low_undef, low_skip, low_vec, low_agg, low_tup, low_fn, low_vptr, low_iface, low_ptr, low_sl, low_mp, low_it, low_yld, low_emp, lowEnv, lowObs, lowOb, tmpObs, isArr, hNm, hZm]
  · have e1 : decide ((k : Int) < (data.length : Int)) = false := decide_eq_false (by omega)
    obtain rfl : k = data.length := by omega
    rw [List.take_length] at hout
    subst hout
    rw [← hDD]
    refine SW.ghost (Ghost.giveIn 0 1 6 2 (X := [.arr 34 7 [.agg [.int .i64 0, .nils, .nils, .int .i64 0, .int .i64 0, .nils, .nils]], .arr 34 7 [.agg [.int .i64 v.size, .vec 0 3 N, .vec 0 4 Z, .int .i64 v.next, .int .i64 0, .nils, (.sl (σ.length + 2) out.length 0 out.length)]], .arr 48 1 DD]) [(0, .vec c 2 X), (1, .vec 0 1 DD), (4, .ptr σ.length 1 0 0), (5, .int .i64 0), (6, .ptr (σ.length + 1) 1 0 0), (15, .vec 0 1 DD), (16, .int .i64 out.length), (17, .int .i64 out.length)] hσ hfix rfl rfl (by rw [hDl]; rfl) (by simp [agree, lk]) ?_ ?_ ?_ (fun x hx => (hDn _).2 trivial x hx)) ?_
    · rw [hX]
      simp [noId_int, noId_bool, noId_str, noId_nils, noId_nilp, noId_nilf, noId_nili, noId_undef, noId_skip, noId_vec, noId_agg, noId_tup, noId_fn, noId_vptr, noId_iface, noId_ptr', noId_sl', noId_mp', noId_it', noId_yld', noId_emp, obNoId_arr, obNoId_oth, obNoId_dead, obsNoId, envNoId, hDn, eT, eN]
    · simp [noId_int, noId_bool, noId_str, noId_nils, noId_nilp, noId_nilf, noId_nili, noId_undef, noId_skip, noId_vec, noId_agg, noId_tup, noId_fn, noId_vptr, noId_iface, noId_ptr', noId_sl', noId_mp', noId_it', noId_yld', noId_emp, obNoId_arr, obNoId_oth, obNoId_dead, obsNoId, envNoId, hDn]
    · simp [noId_int, noId_bool, noId_str, noId_nils, noId_nilp, noId_nilf, noId_nili, noId_undef, noId_skip, noId_vec, noId_agg, noId_tup, noId_fn, noId_vptr, noId_iface, noId_ptr', noId_sl', noId_mp', noId_it', noId_yld', noId_emp, obNoId_arr, obNoId_oth, obNoId_dead, obsNoId, envNoId, hNn, hZn]
    simp only [List.set_cons_succ, List.set_cons_zero]
    have hsn : (⟨v.size, v.now, v.snaps, v.next, out.length, out⟩ : Vo).snaps.length ≤ 1048576 := by have := hgood.1; simp only; omega
    have hz9 : ((9 : Int) != 0) = true := rfl
    have hz0 : ((0 : Int) != 0) = false := rfl
    have hbad : LoadR l out (.tup [.agg [.int .i64 0, .nils, .nils, .int .i64 0, .int .i64 0, .nils, .nils], .int .i64 21]) := .inr (.inl ⟨hup, rfl⟩)
    have hlow : ∀ O : List Ob, Fz O 0 (.tup [.agg [.int .i64 0, .nils, .nils, .int .i64 0, .int .i64 0, .nils, .nils], .int .i64 21]) (.tup [.agg [.int .i64 0, .nils, .nils, .int .i64 0, .int .i64 0, .nils, .nils], .int .i64 21]) := fun O => .low (by simp [low_tup, low_agg, low_int, low_nils])
    rcases settle_ok (⟨v.size, v.now, v.snaps, v.next, out.length, out⟩ : Vo) hsn with ⟨zs, hset⟩ | ⟨G, hset⟩
    rotate_left
    · unfold eV at hset
      simp only [← hN, ← hZ, ← hDD] at hset
      repeat (first | ((first | refine sA hL hn rfl ?_ | refine sB hL hn rfl ?_); simp only [go_sem, Nat.reduceBEq, Int.reduceLT, Int.reduceLE, reduceAdd, reduceEqDiff, reduceIte, reduceSub, Nat.reduceLT, reduceMul, reduceLeDiff, reduceCtorEq, e1, hDl, hb1]) | ((first | refine sC ?_ | refine sH ?_ | refine sI ?_ | refine sJ ?_); try simp only [thenK, blockK, loopK, loopG, if_true, if_false, reduceEqDiff]) | refine sD ?_ | refine sE ?_ | refine sF rfl ?_ | refine sG rfl ?_)
      refine sK hP hL hn rfl rfl (hset _ (σ.length + 1) (by simp [own_get])) rfl rfl rfl rfl ?_; simp (maxSteps := 2000000) only [go_sem, Nat.reduceBEq, Int.reduceLT, Int.reduceLE, reduceAdd, reduceEqDiff, reduceIte, reduceSub, Nat.reduceLT, reduceMul, reduceLeDiff, reduceCtorEq]
      repeat (first | ((first | refine sA hL hn rfl ?_ | refine sB hL hn rfl ?_); simp only [go_sem, Nat.reduceBEq, Int.reduceLT, Int.reduceLE, reduceAdd, reduceEqDiff, reduceIte, reduceSub, Nat.reduceLT, reduceMul, reduceLeDiff, reduceCtorEq, hb0]) | ((first | refine sC ?_ | refine sH ?_ | refine sI ?_ | refine sJ ?_); try simp only [thenK, blockK, loopK, loopG, if_true, if_false, reduceEqDiff]) | refine sD ?_ | refine sE ?_ | refine sF rfl ?_ | refine sG rfl ?_)
      refine ⟨_, _, ⟨_, _, rfl, ?_, hbad⟩, _, .tup [.agg [.int .i64 0, .nils, .nils, .int .i64 0, .int .i64 0, .nils, .nils], .int .i64 21], _, Ghost.refl _ _, ?_, GhostV.refl _ _ _, rfl⟩
      rotate_left
      show resDV L _ [Go.ResultVar.cell 4 34, Go.ResultVar.tmp 5] = _
      simp only [resDV, resL, resDV1, go_sem, Nat.reduceBEq, Int.reduceLT, Int.reduceLE, reduceAdd, reduceEqDiff, reduceIte, reduceSub, Nat.reduceLT, reduceMul, reduceLeDiff, reduceCtorEq]
      exact hlow _
    obtain ⟨e, he, hgd, hchk⟩ := check_ok (⟨v.size, v.now, v.snaps, v.next, out.length, out⟩ : Vo) zs hsn
    obtain ⟨ZS, hZS⟩ : ∃ ZS, ZS = zs.map eS := ⟨_, rfl⟩
    have hchk' := hchk
    unfold eV at hset hchk'
    simp only [← hN, ← hZ, ← hDD, ← hZS] at hset hchk'
    rcases he with rfl | rfl
    rotate_left
    · repeat (first | ((first | refine sA hL hn rfl ?_ | refine sB hL hn rfl ?_); simp only [go_sem, Nat.reduceBEq, Int.reduceLT, Int.reduceLE, reduceAdd, reduceEqDiff, reduceIte, reduceSub, Nat.reduceLT, reduceMul, reduceLeDiff, reduceCtorEq, e1, hDl, hb1]) | ((first | refine sC ?_ | refine sH ?_ | refine sI ?_ | refine sJ ?_); try simp only [thenK, blockK, loopK, loopG, if_true, if_false, reduceEqDiff]) | refine sD ?_ | refine sE ?_ | refine sF rfl ?_ | refine sG rfl ?_)
      refine sK hP hL hn rfl rfl (hset _ (σ.length + 1) (by simp [own_get])) rfl rfl rfl rfl ?_; simp (maxSteps := 2000000) only [go_sem, Nat.reduceBEq, Int.reduceLT, Int.reduceLE, reduceAdd, reduceEqDiff, reduceIte, reduceSub, Nat.reduceLT, reduceMul, reduceLeDiff, reduceCtorEq]
      refine sK hP hL hn rfl rfl (hchk' _) rfl rfl rfl rfl ?_; simp (maxSteps := 2000000) only [go_sem, Nat.reduceBEq, Int.reduceLT, Int.reduceLE, reduceAdd, reduceEqDiff, reduceIte, reduceSub, Nat.reduceLT, reduceMul, reduceLeDiff, reduceCtorEq, hz9]
      repeat (first | ((first | refine sA hL hn rfl ?_ | refine sB hL hn rfl ?_); simp only [go_sem, Nat.reduceBEq, Int.reduceLT, Int.reduceLE, reduceAdd, reduceEqDiff, reduceIte, reduceSub, Nat.reduceLT, reduceMul, reduceLeDiff, reduceCtorEq, hb0]) | ((first | refine sC ?_ | refine sH ?_ | refine sI ?_ | refine sJ ?_); try simp only [thenK, blockK, loopK, loopG, if_true, if_false, reduceEqDiff]) | refine sD ?_ | refine sE ?_ | refine sF rfl ?_ | refine sG rfl ?_)
      refine ⟨_, _, ⟨_, _, rfl, ?_, hbad⟩, _, .tup [.agg [.int .i64 0, .nils, .nils, .int .i64 0, .int .i64 0, .nils, .nils], .int .i64 21], _, Ghost.refl _ _, ?_, GhostV.refl _ _ _, rfl⟩
      rotate_left
      show resDV L _ [Go.ResultVar.cell 4 34, Go.ResultVar.tmp 5] = _
      simp only [resDV, resL, resDV1, go_sem, Nat.reduceBEq, Int.reduceLT, Int.reduceLE, reduceAdd, reduceEqDiff, reduceIte, reduceSub, Nat.reduceLT, reduceMul, reduceLeDiff, reduceCtorEq]
      exact hlow _
    obtain ⟨hC, h8⟩ := hgd rfl
    obtain ⟨ys, hit⟩ := items_ok (⟨v.size, v.now, v.snaps, v.next, out.length, out⟩ : Vo) (.vec 0 2 (zs.map eS)) rfl (fun n => low_spans n 0 2 zs) h8 hC (fun s hs => by have := hgood.2 s hs; omega)
    have hit' := hit
    unfold eV at hit'
    simp only [← hN, ← hZ, ← hDD, ← hZS] at hit'
    have hequal := hequal ys
    obtain ⟨Y, hY⟩ : ∃ Y, Y = ys.map eT := ⟨_, rfl⟩
    rw [← hY] at hit' hequal
    cases hI : decide (ys = l)
    · repeat (first | ((first | refine sA hL hn rfl ?_ | refine sB hL hn rfl ?_); simp only [go_sem, Nat.reduceBEq, Int.reduceLT, Int.reduceLE, reduceAdd, reduceEqDiff, reduceIte, reduceSub, Nat.reduceLT, reduceMul, reduceLeDiff, reduceCtorEq, e1, hDl, hb1]) | ((first | refine sC ?_ | refine sH ?_ | refine sI ?_ | refine sJ ?_); try simp only [thenK, blockK, loopK, loopG, if_true, if_false, reduceEqDiff]) | refine sD ?_ | refine sE ?_ | refine sF rfl ?_ | refine sG rfl ?_)
      refine sK hP hL hn rfl rfl (hset _ (σ.length + 1) (by simp [own_get])) rfl rfl rfl rfl ?_; simp (maxSteps := 2000000) only [go_sem, Nat.reduceBEq, Int.reduceLT, Int.reduceLE, reduceAdd, reduceEqDiff, reduceIte, reduceSub, Nat.reduceLT, reduceMul, reduceLeDiff, reduceCtorEq]
      refine sK hP hL hn rfl rfl (hchk' _) rfl rfl rfl rfl ?_; simp (maxSteps := 2000000) only [go_sem, Nat.reduceBEq, Int.reduceLT, Int.reduceLE, reduceAdd, reduceEqDiff, reduceIte, reduceSub, Nat.reduceLT, reduceMul, reduceLeDiff, reduceCtorEq, hz0]
      refine sK hP hL hn rfl rfl (hit' _) rfl rfl rfl rfl ?_; simp (maxSteps := 2000000) only [go_sem, Nat.reduceBEq, Int.reduceLT, Int.reduceLE, reduceAdd, reduceEqDiff, reduceIte, reduceSub, Nat.reduceLT, reduceMul, reduceLeDiff, reduceCtorEq]
      refine sK hP hL hn rfl rfl (hequal _) rfl rfl rfl rfl ?_; simp (maxSteps := 2000000) only [go_sem, Nat.reduceBEq, Int.reduceLT, Int.reduceLE, reduceAdd, reduceEqDiff, reduceIte, reduceSub, Nat.reduceLT, reduceMul, reduceLeDiff, reduceCtorEq, hI]
      repeat (first | ((first | refine sA hL hn rfl ?_ | refine sB hL hn rfl ?_); simp only [go_sem, Nat.reduceBEq, Int.reduceLT, Int.reduceLE, reduceAdd, reduceEqDiff, reduceIte, reduceSub, Nat.reduceLT, reduceMul, reduceLeDiff, reduceCtorEq, hb0]) | ((first | refine sC ?_ | refine sH ?_ | refine sI ?_ | refine sJ ?_); try simp only [thenK, blockK, loopK, loopG, if_true, if_false, reduceEqDiff]) | refine sD ?_ | refine sE ?_ | refine sF rfl ?_ | refine sG rfl ?_)
      refine ⟨_, _, ⟨_, _, rfl, ?_, hbad⟩, _, .tup [.agg [.int .i64 0, .nils, .nils, .int .i64 0, .int .i64 0, .nils, .nils], .int .i64 21], _, Ghost.refl _ _, ?_, GhostV.refl _ _ _, rfl⟩
      rotate_left
      show resDV L _ [Go.ResultVar.cell 4 34, Go.ResultVar.tmp 5] = _
      simp only [resDV, resL, resDV1, go_sem, Nat.reduceBEq, Int.reduceLT, Int.reduceLE, reduceAdd, reduceEqDiff, reduceIte, reduceSub, Nat.reduceLT, reduceMul, reduceLeDiff, reduceCtorEq]
      exact hlow _
    · have hyl := of_decide_eq_true hI
      rw [hyl] at hit
      repeat (first | ((first | refine sA hL hn rfl ?_ | refine sB hL hn rfl ?_); simp only [go_sem, Nat.reduceBEq, Int.reduceLT, Int.reduceLE, reduceAdd, reduceEqDiff, reduceIte, reduceSub, Nat.reduceLT, reduceMul, reduceLeDiff, reduceCtorEq, e1, hDl, hb1]) | ((first | refine sC ?_ | refine sH ?_ | refine sI ?_ | refine sJ ?_); try simp only [thenK, blockK, loopK, loopG, if_true, if_false, reduceEqDiff]) | refine sD ?_ | refine sE ?_ | refine sF rfl ?_ | refine sG rfl ?_)
      refine sK hP hL hn rfl rfl (hset _ (σ.length + 1) (by simp [own_get])) rfl rfl rfl rfl ?_; simp (maxSteps := 2000000) only [go_sem, Nat.reduceBEq, Int.reduceLT, Int.reduceLE, reduceAdd, reduceEqDiff, reduceIte, reduceSub, Nat.reduceLT, reduceMul, reduceLeDiff, reduceCtorEq]
      refine sK hP hL hn rfl rfl (hchk' _) rfl rfl rfl rfl ?_; simp (maxSteps := 2000000) only [go_sem, Nat.reduceBEq, Int.reduceLT, Int.reduceLE, reduceAdd, reduceEqDiff, reduceIte, reduceSub, Nat.reduceLT, reduceMul, reduceLeDiff, reduceCtorEq, hz0]
      refine sK hP hL hn rfl rfl (hit' _) rfl rfl rfl rfl ?_; simp (maxSteps := 2000000) only [go_sem, Nat.reduceBEq, Int.reduceLT, Int.reduceLE, reduceAdd, reduceEqDiff, reduceIte, reduceSub, Nat.reduceLT, reduceMul, reduceLeDiff, reduceCtorEq]
      refine sK hP hL hn rfl rfl (hequal _) rfl rfl rfl rfl ?_; simp (maxSteps := 2000000) only [go_sem, Nat.reduceBEq, Int.reduceLT, Int.reduceLE, reduceAdd, reduceEqDiff, reduceIte, reduceSub, Nat.reduceLT, reduceMul, reduceLeDiff, reduceCtorEq, hI]
      repeat (first | ((first | refine sA hL hn rfl ?_ | refine sB hL hn rfl ?_); simp only [go_sem, Nat.reduceBEq, Int.reduceLT, Int.reduceLE, reduceAdd, reduceEqDiff, reduceIte, reduceSub, Nat.reduceLT, reduceMul, reduceLeDiff, reduceCtorEq, hb0]) | ((first | refine sC ?_ | refine sH ?_ | refine sI ?_ | refine sJ ?_); try simp only [thenK, blockK, loopK, loopG, if_true, if_false, reduceEqDiff]) | refine sD ?_ | refine sE ?_ | refine sF rfl ?_ | refine sG rfl ?_)
      refine ⟨_, _, ⟨_, .tup [eV (⟨v.size, v.now, v.snaps, v.next, out.length, out⟩ : Vo) (.vec 0 2 (zs.map eS)), .int .i64 0], rfl, ?_, .inr (.inr ⟨hup, _, zs, rfl, hchk, hit, rfl⟩)⟩, _, .tup [.agg [.int .i64 v.size, .vec 0 3 N, .vec 0 4 Z, .int .i64 v.next, .int .i64 out.length, .vec 0 2 ZS, .vec 0 1 DD], .int .i64 0], _, Ghost.refl _ _, ?_, GhostV.refl _ _ _, rfl⟩
      rotate_left
      show resDV L _ [Go.ResultVar.cell 4 34, Go.ResultVar.tmp 5] = _
      simp only [resDV, resL, resDV1, go_sem, Nat.reduceBEq, Int.reduceLT, Int.reduceLE, reduceAdd, reduceEqDiff, reduceIte, reduceSub, Nat.reduceLT, reduceMul, reduceLeDiff, reduceCtorEq]
      rw [show eV (⟨v.size, v.now, v.snaps, v.next, out.length, out⟩ : Vo) (.vec 0 2 (zs.map eS)) = .agg [.int .i64 v.size, .vec 0 3 N, .vec 0 4 Z, .int .i64 v.next, .int .i64 out.length, .vec 0 2 ZS, .vec 0 1 DD] from by rw [hN, hZ, hZS, hDD]; rfl]
      have hlow2 := low_eV 0 (⟨v.size, v.now, v.snaps, v.next, out.length, out⟩ : Vo) (.vec 0 2 (zs.map eS)) (fun n => low_spans n 0 2 zs)
      rw [show eV (⟨v.size, v.now, v.snaps, v.next, out.length, out⟩ : Vo) (.vec 0 2 (zs.map eS)) = .agg [.int .i64 v.size, .vec 0 3 N, .vec 0 4 Z, .int .i64 v.next, .int .i64 out.length, .vec 0 2 ZS, .vec 0 1 DD] from by rw [hN, hZ, hZS, hDD]; rfl] at hlow2
      refine .low ?_
      rw [low_tup]
      intro z hz
      simp only [List.mem_cons, List.not_mem_nil, or_false] at hz
      rcases hz with rfl | rfl
      · exact hlow2
      · exact (low_int _ _).2 trivial
theorem load_ok (c : Nat) (l : List It) (data : List (List UInt8)) (hl : l.length ≤ 1048576) (h1 : data.length ≤ 1048576) (h2 : ∀ x ∈ data, x.length ≤ 1048576) (σ : List Ob) :
    OkE Tryz.prog 5 [.vec c 2 (l.map eT), .vec 0 1 (data.map (eD 0))] σ fun o σ' => σ' = σ ∧ ∃ D, o = .ret D ∧ LoadR l data D :=
  OkE.thaw (c := 0) (loadE c l data hl h1 h2) (by
    intro x hx
    simp only [List.mem_cons, List.not_mem_nil, or_false] at hx
    rcases hx with rfl | rfl
    · rw [low_vec]; exact (lowIff eT low_eT l 0).2 trivial
    · rw [low_vec]; exact (lowIff (eD 0) (fun n => low_eD n 0) data 0).2 trivial) σ
end Go.VL
end
section
set_option linter.unusedSimpArgs false
set_option linter.unusedVariables false
set_option maxRecDepth 10000
set_option maxHeartbeats 4000000
namespace Go.VL
open Go Go.Proofs
open Nat (reduceAdd reduceEqDiff reduceSub reduceMul reduceLeDiff)
def di3_7 : List DI := [⟨[5], [], false, [0], some 19, []⟩, ⟨[19], [0], false, [0], some 20, [0]⟩, ⟨[0, 20], [0, 1], false, [0], some 21, [1]⟩, ⟨[6, 20], [0, 1], false, [0], some 22, [1]⟩, ⟨[20, 22], [0, 1, 3], false, [0], some 23, [3, 1]⟩, ⟨[20, 21, 23], rg 0 5, false, [0], some 24, [2, 4, 1]⟩, ⟨[20, 24], rg 0 6, false, [0], some 25, [5, 1]⟩, ⟨[20, 25], rg 0 7, false, [0], some 26, [6, 1]⟩, ⟨[0, 20], [0, 1], false, [0], some 27, [1]⟩, ⟨[6, 20], [0, 1], false, [0], some 28, [1]⟩, ⟨[20, 27, 28], [0, 1, 8, 9], false, [0], some 29, [8, 9, 1]⟩, ⟨[20, 29], [0, 1, 8, 9, 10], false, [0], some 30, [10, 1]⟩, ⟨[20, 30], ([0, 1] ++ rg 8 4), false, [0], some 31, [11, 1]⟩, ⟨[20, 26, 31], rg 0 13, false, [0], some 32, [7, 12, 1]⟩, ⟨[20, 32], rg 0 14, false, [0], some 33, [1, 13]⟩, ⟨[33], rg 0 15, false, [0], some 5, ([14, 1] ++ rg 0 15)⟩]

theorem metaLoadsE (c d b : Nat) (l : List It) (data : List (List UInt8)) (hl : l.length ≤ 1048576) (h1 : data.length ≤ 1048576) (h2 : ∀ x ∈ data, x.length ≤ 1048576) :
    OkE Tryz.prog 3 [.vec c 2 (l.map eT), .vec d 1 (data.map (eD b))] [] fun o _ => o = .ret (.bool true) := by
  have hload := fun σ => load_ok c l data hl h1 h2 σ
  have hcopy := fun σ => copyList_ok b d data h1 h2 σ
  have hsame := fun σ => sameItems_ok 0 c l σ
  have hsamed := fun σ => sameList_ok 0 d 0 b data σ
  obtain ⟨X, hX⟩ : ∃ X, X = l.map eT := ⟨_, rfl⟩
  have hXl : X.length = l.length := by rw [hX, List.length_map]
  obtain ⟨DD, hDD⟩ : ∃ DD, DD = data.map (eD b) := ⟨_, rfl⟩
  obtain ⟨D0, hD0⟩ : ∃ D0, D0 = data.map (eD 0) := ⟨_, rfl⟩
  simp only [← hX, ← hDD, ← hD0] at hload hcopy hsame hsamed ⊢
  obtain ⟨σ, hσ0⟩ : ∃ σ : List Ob, σ = [] := ⟨_, rfl⟩
  rw [← hσ0]
  refine OkE.of_body layOk Tryz.func3 rfl (by decide) (by simp [Tryz.ntmps3]) fun C hP hn hσ hfix hdd => ?_
  rw [show Tryz.f3.ntmps = 88 from rfl] at hn
  have hL : LayOk C.P L := hP ▸ layOk
  have hm : C.P.follows .mixedOrders = true := hP ▸ mixed
  repeat (first | ((first | refine sA hL hn rfl ?_ | refine sB hL hn rfl ?_); simp only [go_sem, Nat.reduceBEq, Int.reduceLT, Int.reduceLE, reduceAdd, reduceEqDiff, reduceIte, reduceSub, Nat.reduceLT, reduceMul, reduceLeDiff, reduceCtorEq]) | ((first | refine sC ?_ | refine sH ?_ | refine sI ?_ | refine sJ ?_); try simp only [thenK, blockK, loopK, loopG, if_true, if_false, reduceEqDiff]) | refine sD ?_ | refine sE ?_ | refine sF rfl ?_ | refine sG rfl ?_)
  refine sK hP hL hn rfl rfl (alive_ok _) rfl rfl rfl rfl ?_; simp (maxSteps := 2000000) only [go_sem, Nat.reduceBEq, Int.reduceLT, Int.reduceLE, reduceAdd, reduceEqDiff, reduceIte, reduceSub, Nat.reduceLT, reduceMul, reduceLeDiff, reduceCtorEq]
  repeat (first | ((first | refine sA hL hn rfl ?_ | refine sB hL hn rfl ?_); simp only [go_sem, Nat.reduceBEq, Int.reduceLT, Int.reduceLE, reduceAdd, reduceEqDiff, reduceIte, reduceSub, Nat.reduceLT, reduceMul, reduceLeDiff, reduceCtorEq]) | ((first | refine sC ?_ | refine sH ?_ | refine sI ?_ | refine sJ ?_); try simp only [thenK, blockK, loopK, loopG, if_true, if_false, reduceEqDiff]) | refine sD ?_ | refine sE ?_ | refine sF rfl ?_ | refine sG rfl ?_)
  refine SW.lpg (fun k : Nat => ⟨[(0, .vec c 2 X), (1, .vec d 1 DD), (5, .bool (upTo l k)), (6, .int .i64 k)], σ⟩) (fun k => l.length - k) (fun k => 1 ≤ k ∧ (k ≤ l.length ∨ k = 1)) 1 ⟨by omega, .inr rfl⟩ (.of rfl (by simp [agree, lk, upTo_one])) ?_
  intro k ⟨hk1, hk⟩
  by_cases hlt : k < l.length
  · have e1 : decide ((k : Int) < (X.length : Int)) = true := decide_eq_true (by omega)
    have e2 : (0 ≤ (k : Int) ∧ (k : Int) < (X.length : Int)) := by omega
    obtain ⟨x, hx⟩ : ∃ x, x = l[k] := ⟨_, rfl⟩
    have e3 : X[k]?.getD .undef = .agg [.int .u64 x.k, .int .u64 x.v] := by rw [hX, hx]; simp [hlt, eT, eN]
    have kx : keyAt l k = x.k := by rw [hx]; simp [keyAt, hlt]
    have w1 : IntKind.i64.wrap ((k : Int) + 1) = ((k + 1 : Nat) : Int) := wi (by omega) (by omega)
    obtain ⟨j, hj⟩ : ∃ j, j = k - 1 := ⟨_, rfl⟩
    have w2 : IntKind.i64.wrap ((k : Int) - 1) = (j : Int) := wi (by omega) (by omega)
    have e2' : (0 ≤ (j : Int) ∧ (j : Int) < (X.length : Int)) := by omega
    obtain ⟨y, hy⟩ : ∃ y, y = l[j]'(by omega) := ⟨_, rfl⟩
    have e3' : X[j]?.getD .undef = .agg [.int .u64 y.k, .int .u64 y.v] := by rw [hX, hy]; simp [show j < l.length by omega, eT, eN]
    have ky : keyAt l (k - 1) = y.k := by rw [← hj, hy]; simp [keyAt, show j < l.length by omega]
    have hst := upTo_step l k (by omega)
    rw [kx, ky] at hst
    cases hu : upTo l k
    · rw [hu, Bool.false_and] at hst
      repeat (first | ((first | refine sA hL hn rfl ?_ | refine sB hL hn rfl ?_); simp only [go_sem, Nat.reduceBEq, Int.reduceLT, Int.reduceLE, reduceAdd, reduceEqDiff, reduceIte, reduceSub, Nat.reduceLT, reduceMul, reduceLeDiff, reduceCtorEq, e1]) | ((first | refine sC ?_ | refine sH ?_ | refine sI ?_ | refine sJ ?_); try simp only [thenK, blockK, loopK, loopG, if_true, if_false, reduceEqDiff]) | refine sD ?_ | refine sE ?_ | refine sF rfl ?_ | refine sG rfl ?_)
      refine sM hL hm hn di3_7 [σ] rfl rfl rfl ?_
      unfold di3_7
      repeat (rw [dgo_cons]; simp (maxSteps := 2000000) only [go_sem, Nat.reduceBEq, Int.reduceLT, Int.reduceLE, reduceAdd, reduceEqDiff, reduceIte, reduceSub, Nat.reduceLT, reduceMul, reduceLeDiff, reduceCtorEq])
      try rw [dgo_nil]
      try simp only [go_sem, Nat.reduceBEq, Int.reduceLT, Int.reduceLE, reduceAdd, reduceEqDiff, reduceIte, reduceSub, Nat.reduceLT, reduceMul, reduceLeDiff, reduceCtorEq]
      repeat (first | ((first | refine sA hL hn rfl ?_ | refine sB hL hn rfl ?_); simp only [go_sem, Nat.reduceBEq, Int.reduceLT, Int.reduceLE, reduceAdd, reduceEqDiff, reduceIte, reduceSub, Nat.reduceLT, reduceMul, reduceLeDiff, reduceCtorEq, w1]) | ((first | refine sC ?_ | refine sH ?_ | refine sI ?_ | refine sJ ?_); try simp only [thenK, blockK, loopK, loopG, if_true, if_false, reduceEqDiff]) | refine sD ?_ | refine sE ?_ | refine sF rfl ?_ | refine sG rfl ?_)
      exact Lp.nextg (k + 1) ⟨by omega, .inl (by omega)⟩ (by omega) (.of rfl (by simp [agree, lk, hst]))
    · rw [hu, Bool.true_and] at hst
      cases d2 : decide (y.k < x.k)
      · rw [d2] at hst
        repeat (first | ((first | refine sA hL hn rfl ?_ | refine sB hL hn rfl ?_); simp only [go_sem, Nat.reduceBEq, Int.reduceLT, Int.reduceLE, reduceAdd, reduceEqDiff, reduceIte, reduceSub, Nat.reduceLT, reduceMul, reduceLeDiff, reduceCtorEq, e1]) | ((first | refine sC ?_ | refine sH ?_ | refine sI ?_ | refine sJ ?_); try simp only [thenK, blockK, loopK, loopG, if_true, if_false, reduceEqDiff]) | refine sD ?_ | refine sE ?_ | refine sF rfl ?_ | refine sG rfl ?_)
        refine sM hL hm hn di3_7 [σ] rfl rfl rfl ?_
        unfold di3_7
        repeat (rw [dgo_cons]; simp (maxSteps := 2000000) only [go_sem, Nat.reduceBEq, Int.reduceLT, Int.reduceLE, reduceAdd, reduceEqDiff, reduceIte, reduceSub, Nat.reduceLT, reduceMul, reduceLeDiff, reduceCtorEq, w2, e2, e2', e3, e3', d2])
        try rw [dgo_nil]
        try simp only [go_sem, Nat.reduceBEq, Int.reduceLT, Int.reduceLE, reduceAdd, reduceEqDiff, reduceIte, reduceSub, Nat.reduceLT, reduceMul, reduceLeDiff, reduceCtorEq, w2, e2, e2', e3, e3', d2]
        repeat (first | ((first | refine sA hL hn rfl ?_ | refine sB hL hn rfl ?_); simp only [go_sem, Nat.reduceBEq, Int.reduceLT, Int.reduceLE, reduceAdd, reduceEqDiff, reduceIte, reduceSub, Nat.reduceLT, reduceMul, reduceLeDiff, reduceCtorEq, w1]) | ((first | refine sC ?_ | refine sH ?_ | refine sI ?_ | refine sJ ?_); try simp only [thenK, blockK, loopK, loopG, if_true, if_false, reduceEqDiff]) | refine sD ?_ | refine sE ?_ | refine sF rfl ?_ | refine sG rfl ?_)
        exact Lp.nextg (k + 1) ⟨by omega, .inl (by omega)⟩ (by omega) (.of rfl (by simp [agree, lk, hst]))
      · rw [d2] at hst
        repeat (first | ((first | refine sA hL hn rfl ?_ | refine sB hL hn rfl ?_); simp only [go_sem, Nat.reduceBEq, Int.reduceLT, Int.reduceLE, reduceAdd, reduceEqDiff, reduceIte, reduceSub, Nat.reduceLT, reduceMul, reduceLeDiff, reduceCtorEq, e1]) | ((first | refine sC ?_ | refine sH ?_ | refine sI ?_ | refine sJ ?_); try simp only [thenK, blockK, loopK, loopG, if_true, if_false, reduceEqDiff]) | refine sD ?_ | refine sE ?_ | refine sF rfl ?_ | refine sG rfl ?_)
        refine sM hL hm hn di3_7 [σ] rfl rfl rfl ?_
        unfold di3_7
        repeat (rw [dgo_cons]; simp (maxSteps := 2000000) only [go_sem, Nat.reduceBEq, Int.reduceLT, Int.reduceLE, reduceAdd, reduceEqDiff, reduceIte, reduceSub, Nat.reduceLT, reduceMul, reduceLeDiff, reduceCtorEq, w2, e2, e2', e3, e3', d2])
        try rw [dgo_nil]
        try simp only [go_sem, Nat.reduceBEq, Int.reduceLT, Int.reduceLE, reduceAdd, reduceEqDiff, reduceIte, reduceSub, Nat.reduceLT, reduceMul, reduceLeDiff, reduceCtorEq, w2, e2, e2', e3, e3', d2]
        repeat (first | ((first | refine sA hL hn rfl ?_ | refine sB hL hn rfl ?_); simp only [go_sem, Nat.reduceBEq, Int.reduceLT, Int.reduceLE, reduceAdd, reduceEqDiff, reduceIte, reduceSub, Nat.reduceLT, reduceMul, reduceLeDiff, reduceCtorEq, w1]) | ((first | refine sC ?_ | refine sH ?_ | refine sI ?_ | refine sJ ?_); try simp only [thenK, blockK, loopK, loopG, if_true, if_false, reduceEqDiff]) | refine sD ?_ | refine sE ?_ | refine sF rfl ?_ | refine sG rfl ?_)
        exact Lp.nextg (k + 1) ⟨by omega, .inl (by omega)⟩ (by omega) (.of rfl (by simp [agree, lk, hst]))
  · have e1 : decide ((k : Int) < (X.length : Int)) = false := decide_eq_false (by omega)
    have hu : upTo l k = upTo l l.length := by
      rcases hk with hk | rfl
      · rw [show k = l.length by omega]
      · rcases Nat.eq_zero_or_pos l.length with h0 | h0
        · rw [h0, upTo_one, upTo_zero]
        · rw [show l.length = 1 by omega]
    rw [hu]
    repeat (first | ((first | refine sA hL hn rfl ?_ | refine sB hL hn rfl ?_); simp only [go_sem, Nat.reduceBEq, Int.reduceLT, Int.reduceLE, reduceAdd, reduceEqDiff, reduceIte, reduceSub, Nat.reduceLT, reduceMul, reduceLeDiff, reduceCtorEq, e1]) | ((first | refine sC ?_ | refine sH ?_ | refine sI ?_ | refine sJ ?_); try simp only [thenK, blockK, loopK, loopG, if_true, if_false, reduceEqDiff]) | refine sD ?_ | refine sE ?_ | refine sF rfl ?_ | refine sG rfl ?_)
    refine sK hP hL hn rfl rfl (hcopy _) rfl rfl rfl rfl ?_; simp (maxSteps := 2000000) only [go_sem, Nat.reduceBEq, Int.reduceLT, Int.reduceLE, reduceAdd, reduceEqDiff, reduceIte, reduceSub, Nat.reduceLT, reduceMul, reduceLeDiff, reduceCtorEq]
    refine SWops.callE hP (by rw [hn]; rfl) (hload _) rfl rfl rfl rfl (fun d σ' h => by obtain ⟨_, _, h, _⟩ := h; cases h) fun d σ' h => ?_
    obtain ⟨rfl, R, hR, hcase⟩ := h
    cases hR
    rcases hcase with ⟨hup, rfl⟩ | ⟨hup, rfl⟩ | ⟨hup, v, sps, hvd, hchk, hit, rfl⟩
    · unfold zeroV
      rw [hup]
      have z1 : ((32 : Int) != 0) = true := rfl
      have z2 : ((32 : Int) == 32) = true := rfl
      have z3 : ((0 : Int) == 0) = true := rfl
      refine SWops.go hL (by rw [hn]; rfl) ?_
      simp (maxSteps := 2000000) only [go_sem, Nat.reduceBEq, Int.reduceLT, Int.reduceLE, reduceAdd, reduceEqDiff, reduceIte, reduceSub, Nat.reduceLT, reduceMul, reduceLeDiff, reduceCtorEq, dgo_nil, dgo_cons]
      repeat (first | ((first | refine sA hL hn rfl ?_ | refine sB hL hn rfl ?_); simp only [go_sem, Nat.reduceBEq, Int.reduceLT, Int.reduceLE, reduceAdd, reduceEqDiff, reduceIte, reduceSub, Nat.reduceLT, reduceMul, reduceLeDiff, reduceCtorEq, z1, z2, z3]) | ((first | refine sC ?_ | refine sH ?_ | refine sI ?_ | refine sJ ?_); try simp only [thenK, blockK, loopK, loopG, if_true, if_false, reduceEqDiff]) | refine sD ?_ | refine sE ?_ | refine sF rfl ?_ | refine sG rfl ?_)
      exact ⟨_, _, rfl, _, _, _, Ghost.refl _ _, rfl, GhostV.refl _ _ _, rfl⟩
    · unfold zeroV
      rw [hup]
      have z1 : ((21 : Int) != 0) = true := rfl
      have z2 : ((21 : Int) == 32) = false := rfl
      have z3 : ((0 : Int) == 0) = true := rfl
      have z4 : ((21 : Int) == 21) = true := rfl
      refine SWops.go hL (by rw [hn]; rfl) ?_
      simp (maxSteps := 2000000) only [go_sem, Nat.reduceBEq, Int.reduceLT, Int.reduceLE, reduceAdd, reduceEqDiff, reduceIte, reduceSub, Nat.reduceLT, reduceMul, reduceLeDiff, reduceCtorEq, dgo_nil, dgo_cons]
      repeat (first | ((first | refine sA hL hn rfl ?_ | refine sB hL hn rfl ?_); simp only [go_sem, Nat.reduceBEq, Int.reduceLT, Int.reduceLE, reduceAdd, reduceEqDiff, reduceIte, reduceSub, Nat.reduceLT, reduceMul, reduceLeDiff, reduceCtorEq, z1, z2, z3, z4]) | ((first | refine sC ?_ | refine sH ?_ | refine sI ?_ | refine sJ ?_); try simp only [thenK, blockK, loopK, loopG, if_true, if_false, reduceEqDiff]) | refine sD ?_ | refine sE ?_ | refine sF rfl ?_ | refine sG rfl ?_)
      exact ⟨_, _, rfl, _, _, _, Ghost.refl _ _, rfl, GhostV.refl _ _ _, rfl⟩
    · rw [hup]
      have htop := fun σ => itemsTop_ok v (.vec 0 2 (sps.map eS)) rfl (fun n => low_spans n 0 2 sps) l hchk hit σ
      unfold eV at hchk htop ⊢
      obtain ⟨N, hN⟩ : ∃ N, N = v.now.map eX := ⟨_, rfl⟩
      obtain ⟨Z, hZ⟩ : ∃ Z, Z = v.snaps.map (eZ 0) := ⟨_, rfl⟩
      obtain ⟨S, hS⟩ : ∃ S, S = sps.map eS := ⟨_, rfl⟩
      rw [hvd] at hchk htop ⊢
      simp only [← hN, ← hZ, ← hS, ← hD0, ← hX] at hchk htop ⊢
      have z1 : ((0 : Int) != 0) = false := rfl
      have z3 : ((0 : Int) == 0) = true := rfl
      refine SWops.go hL (by rw [hn]; rfl) ?_
      simp (maxSteps := 2000000) only [go_sem, Nat.reduceBEq, Int.reduceLT, Int.reduceLE, reduceAdd, reduceEqDiff, reduceIte, reduceSub, Nat.reduceLT, reduceMul, reduceLeDiff, reduceCtorEq, dgo_nil, dgo_cons]
      repeat (first | ((first | refine sA hL hn rfl ?_ | refine sB hL hn rfl ?_); simp only [go_sem, Nat.reduceBEq, Int.reduceLT, Int.reduceLE, reduceAdd, reduceEqDiff, reduceIte, reduceSub, Nat.reduceLT, reduceMul, reduceLeDiff, reduceCtorEq, z1]) | ((first | refine sC ?_ | refine sH ?_ | refine sI ?_ | refine sJ ?_); try simp only [thenK, blockK, loopK, loopG, if_true, if_false, reduceEqDiff]) | refine sD ?_ | refine sE ?_ | refine sF rfl ?_ | refine sG rfl ?_)
      refine sK hP hL hn rfl rfl (htop _) rfl rfl rfl rfl ?_; simp (maxSteps := 2000000) only [go_sem, Nat.reduceBEq, Int.reduceLT, Int.reduceLE, reduceAdd, reduceEqDiff, reduceIte, reduceSub, Nat.reduceLT, reduceMul, reduceLeDiff, reduceCtorEq]
      repeat (first | ((first | refine sA hL hn rfl ?_ | refine sB hL hn rfl ?_); simp only [go_sem, Nat.reduceBEq, Int.reduceLT, Int.reduceLE, reduceAdd, reduceEqDiff, reduceIte, reduceSub, Nat.reduceLT, reduceMul, reduceLeDiff, reduceCtorEq, z1, z3]) | ((first | refine sC ?_ | refine sH ?_ | refine sI ?_ | refine sJ ?_); try simp only [thenK, blockK, loopK, loopG, if_true, if_false, reduceEqDiff]) | refine sD ?_ | refine sE ?_ | refine sF rfl ?_ | refine sG rfl ?_)
      refine sK hP hL hn rfl rfl (hsame _) rfl rfl rfl rfl ?_; simp (maxSteps := 2000000) only [go_sem, Nat.reduceBEq, Int.reduceLT, Int.reduceLE, reduceAdd, reduceEqDiff, reduceIte, reduceSub, Nat.reduceLT, reduceMul, reduceLeDiff, reduceCtorEq]
      refine sK hP hL hn rfl rfl (hsamed _) rfl rfl rfl rfl ?_; simp (maxSteps := 2000000) only [go_sem, Nat.reduceBEq, Int.reduceLT, Int.reduceLE, reduceAdd, reduceEqDiff, reduceIte, reduceSub, Nat.reduceLT, reduceMul, reduceLeDiff, reduceCtorEq]
      refine sK hP hL hn rfl rfl (hchk _) rfl rfl rfl rfl ?_; simp (maxSteps := 2000000) only [go_sem, Nat.reduceBEq, Int.reduceLT, Int.reduceLE, reduceAdd, reduceEqDiff, reduceIte, reduceSub, Nat.reduceLT, reduceMul, reduceLeDiff, reduceCtorEq, z3]
      repeat (first | ((first | refine sA hL hn rfl ?_ | refine sB hL hn rfl ?_); simp only [go_sem, Nat.reduceBEq, Int.reduceLT, Int.reduceLE, reduceAdd, reduceEqDiff, reduceIte, reduceSub, Nat.reduceLT, reduceMul, reduceLeDiff, reduceCtorEq]) | ((first | refine sC ?_ | refine sH ?_ | refine sI ?_ | refine sJ ?_); try simp only [thenK, blockK, loopK, loopG, if_true, if_false, reduceEqDiff]) | refine sD ?_ | refine sE ?_ | refine sF rfl ?_ | refine sG rfl ?_)
      exact ⟨_, _, rfl, _, _, _, Ghost.refl _ _, rfl, GhostV.refl _ _ _, rfl⟩
theorem metaLoads_ok (c d b : Nat) (l : List It) (data : List (List UInt8)) (hl : l.length ≤ 1048576) (h1 : data.length ≤ 1048576) (h2 : ∀ x ∈ data, x.length ≤ 1048576) (σ : List Ob) :
    Ok Tryz.prog 3 [.vec c 2 (l.map eT), .vec d 1 (data.map (eD b))] σ (.ret (.bool true)) σ :=
  (metaLoadsE c d b l data hl h1 h2).pure0 ((low_bool _).2 trivial) (by
    intro x hx
    simp only [List.mem_cons, List.not_mem_nil, or_false] at hx
    rcases hx with rfl | rfl
    · rw [low_vec]; exact (lowIff eT low_eT l 0).2 trivial
    · rw [low_vec]; exact (lowIff (eD b) (fun n => low_eD n b) data 0).2 trivial) σ
end Go.VL
end
