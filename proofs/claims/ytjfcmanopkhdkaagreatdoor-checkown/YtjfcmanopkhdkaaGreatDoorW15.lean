/- Proved: the card of CheckOwn: whatever octets come in, the call returns true and they read as they did; no condition beside those the row itself lists. This text is part 15 of 17. -/
import Derived.Test.YtjfcmanopkhdkaaGreatDoorW14
section
set_option linter.unusedSimpArgs false
set_option linter.unusedVariables false
set_option maxRecDepth 10000
namespace Go.VL
open Go Go.Proofs

section
variable (bs : List UInt8) (c m : Nat)
/-- What lies there behind check.Raw. -/
def rawObs (Lp : Ob) (k : Nat) : List Ob :=
  [.arr 27 3 [.agg [.sl (m + 8) (k + 1) 0 (k + 1), .nils, .int .i64 65536]], .arr 27 3 [.agg [.sl (m + 8) (k + 1) 0 (k + 1), .nils, .int .i64 65536]], .arr 22 1 [.vec c 1 (bs.map eB)], .arr 3 1 [.int .i64 64], .oth .defd [.bool true], Lp, secOb bs 0, bldOb m 0, .arr 22 1 (secs (fId m) (k + 1))]
    ++ (List.range k).flatMap fun i => [secOb bs (i + 1), bldOb m (i + 1)]
end
theorem raw_of (c : Nat) (bs : List UInt8) (n : Nat) (σ : List Ob) (hbs : bs.length ≤ 4194304) (hn1 : 64 * (n + 1) < bs.length + 64) (hn2 : bs.length ≤ 64 * (n + 1)) {asg bo A B C3 R4 R9 : Code}
    (hbody : Tryz.f6.body = some (A.seq (B.seq (C3.seq ((R4.seq (.block 0 (.rangeFunc (.tmp 13) #[14] asg bo))).seq (R9.seq .ret))))))
    (hA : ∀ D : Ctx, D.P = Tryz.prog → D.n = 26 → SW D A ⟨[(0, .vec c 1 (bs.map eB))], σ⟩ (EndK D .normal ⟨[(0, .vec c 1 (bs.map eB)), (2, .ptr σ.length 1 0 0), (3, .int .i64 0)], σ ++ [.arr 27 3 [.agg [.nils, .nils, .int .i64 0]]]⟩))
    (hB : ∀ D : Ctx, D.P = Tryz.prog → D.n = 26 → ∀ ob, SW D B ⟨[(0, .vec c 1 (bs.map eB)), (2, .ptr σ.length 1 0 0), (3, .int .i64 0)], ob⟩ (EndK D .normal ⟨[(0, .vec c 1 (bs.map eB)), (2, .ptr σ.length 1 0 0), (3, .int .i64 0)], ob⟩))
    (hC : ∀ D : Ctx, D.P = Tryz.prog → D.n = 26 → SW D C3 ⟨[(0, .vec c 1 (bs.map eB)), (2, .ptr σ.length 1 0 0), (3, .int .i64 0)], σ ++ [.arr 27 3 [.agg [.nils, .nils, .int .i64 0]]]⟩ (EndK D .normal ⟨[(0, .vec c 1 (bs.map eB)), (2, .ptr σ.length 1 0 0), (3, .int .i64 0), (4, .ptr (σ.length + 1) 1 0 0)], σ ++ [.arr 27 3 [.agg [.nils, .nils, .int .i64 0]], .arr 27 3 [.agg [.nils, .nils, .int .i64 65536]]]⟩))
    (hR4 : ∀ D : Ctx, D.P = Tryz.prog → D.n = 26 → SW D R4 ⟨[(0, .vec c 1 (bs.map eB)), (2, .ptr σ.length 1 0 0), (3, .int .i64 0), (4, .ptr (σ.length + 1) 1 0 0)], σ ++ [.arr 27 3 [.agg [.nils, .nils, .int .i64 0]], .arr 27 3 [.agg [.nils, .nils, .int .i64 65536]]]⟩
      (EndK D .normal ⟨[(2, .ptr σ.length 1 0 0), (4, .ptr (σ.length + 1) 1 0 0), (13, .fn 30 [.ptr (σ.length + 2) 1 0 0, .ptr (σ.length + 3) 1 0 0])], σ ++ base bs c .nils⟩))
    (ha : ∀ D : Ctx, D.P = Tryz.prog → D.n = 26 → ∀ (d : DV) (ob : List Ob), SW D asg ⟨[(4, .ptr (σ.length + 1) 1 0 0), (14, d)], ob⟩ (EndK D .normal ⟨[(4, .ptr (σ.length + 1) 1 0 0), (5, d)], ob⟩))
    (hb : ∀ D : Ctx, D.P = Tryz.prog → D.n = 26 → ∀ (k : Nat) (Lp : Ob), k < n + 1 → SW D bo ⟨[(4, .ptr (σ.length + 1) 1 0 0), (5, .vec c 1 ((chunk bs k).map eB))], σ ++ roundObs bs c σ.length Lp k⟩ (EndK D .normal ⟨[], σ ++ roundObs bs c σ.length Lp (k + 1)⟩))
    (hR9 : ∀ D : Ctx, D.P = Tryz.prog → D.n = 26 → ∀ Lp : Ob, SW D R9 ⟨[(2, .ptr σ.length 1 0 0), (4, .ptr (σ.length + 1) 1 0 0)], σ ++ roundObs bs c σ.length Lp (n + 1)⟩ (EndK D .normal ⟨[(2, .ptr σ.length 1 0 0), (3, .int .i64 0)], (σ ++ roundObs bs c σ.length Lp (n + 1)).set σ.length (.arr 27 3 [.agg [.sl (σ.length + 8) (n + 1) 0 (n + 1), .nils, .int .i64 65536]])⟩)) :
    ∃ Lp, Ok Tryz.prog 6 [.vec c 1 (bs.map eB)] σ (.ret (.tup [.agg [.sl (σ.length + 8) (n + 1) 0 (n + 1), .nils, .int .i64 65536], .int .i64 0])) (σ ++ rawObs bs c σ.length Lp n) := by
  obtain ⟨Lp, hr⟩ := raw_range c bs (n + 1) σ hbs hn1 hn2 asg bo [(2, .ptr σ.length 1 0 0), (4, .ptr (σ.length + 1) 1 0 0), (13, .fn 30 [.ptr (σ.length + 2) 1 0 0, .ptr (σ.length + 3) 1 0 0])] rfl rfl ha hb
  refine ⟨Lp, ?_⟩
  refine ok_of_does layOk Tryz.func6 hbody (by decide) (by simp [Tryz.ntmps6]) (e := .ret) (md := .ret) (st1 := ⟨[(2, .ptr σ.length 1 0 0), (3, .int .i64 0)], (σ ++ roundObs bs c σ.length Lp (n + 1)).set σ.length (.arr 27 3 [.agg [.sl (σ.length + 8) (n + 1) 0 (n + 1), .nils, .int .i64 65536]])⟩) (dd1 := [.col (σ.length + 4)]) (fun C hP hn hrd hσ hfix => ?_) rfl ?_
  · have hn : C.n = 26 := hn
    have h5 : Does C (.block 0 (.rangeFunc (.tmp 13) #[14] asg bo)) ⟨[(2, .ptr σ.length 1 0 0), (4, .ptr (σ.length + 1) 1 0 0), (13, .fn 30 [.ptr (σ.length + 2) 1 0 0, .ptr (σ.length + 3) 1 0 0])], σ ++ base bs c .nils⟩ [] .normal ⟨[(2, .ptr σ.length 1 0 0), (4, .ptr (σ.length + 1) 1 0 0), (13, .fn 30 [.ptr (σ.length + 2) 1 0 0, .ptr (σ.length + 3) 1 0 0])], σ ++ roundObs bs c σ.length Lp (n + 1)⟩ [.col (σ.length + 4)] := Does.block (id := 0) (hr C hP hn hrd)
    have h9 := Does.weak (st := ⟨[(2, .ptr σ.length 1 0 0), (4, .ptr (σ.length + 1) 1 0 0), (13, .fn 30 [.ptr (σ.length + 2) 1 0 0, .ptr (σ.length + 3) 1 0 0])], σ ++ roundObs bs c σ.length Lp (n + 1)⟩) (st' := ⟨[(2, .ptr σ.length 1 0 0), (4, .ptr (σ.length + 1) 1 0 0)], σ ++ roundObs bs c σ.length Lp (n + 1)⟩) (Weak.of_agree rfl ⟨rfl, rfl, trivial⟩) (Does.part (dd := [.col (σ.length + 4)]) hP hn (fun d h => by cases h) fun D hP hn => hR9 D hP hn Lp)
    exact Does.seq (Does.part hP hn (fun d h => by cases h) hA) (Does.seq (Does.part hP hn (fun d h => by cases h) fun D hP hn => hB D hP hn _) (Does.seq (Does.part hP hn (fun d h => by cases h) hC) (Does.seq (Does.seq (Does.part hP hn (fun d h => by cases h) hR4) h5) (Does.seq h9 Does.ret))))
  · have hset : ((σ ++ roundObs bs c σ.length Lp (n + 1)).set σ.length (.arr 27 3 [.agg [.sl (σ.length + 8) (n + 1) 0 (n + 1), .nils, .int .i64 65536]])) = σ ++ (roundObs bs c σ.length Lp (n + 1)).set 0 (.arr 27 3 [.agg [.sl (σ.length + 8) (n + 1) 0 (n + 1), .nils, .int .i64 65536]]) := by
      rw [List.set_append_right _ _ (by omega), Nat.sub_self]
    refine ⟨?_, ?_, _, ?_, rfl⟩
    · rw [hset, own_get]; rfl
    · rw [hset, List.set_append_right _ _ (by omega), show σ.length + 4 - σ.length = 4 by omega]
      rfl
    · rw [hset, List.set_append_right _ _ (by omega), show σ.length + 4 - σ.length = 4 by omega]
      show resDV L _ #[Go.ResultVar.cell 2 27, Go.ResultVar.tmp 3].toList = _
      simp only [resDV, resL, resDV1, lk, if_true, if_false, Nat.reduceEqDiff, loadDV, L27, cellsAt, own_get0, roundObs, base, List.cons_append, List.set_cons_zero, List.set_cons_succ, List.getElem?_cons_zero, List.length_cons, List.length_nil, DV.cells, List.drop_zero, TD.isAgg, reduceIte, Nat.zero_add, List.take_succ_cons, List.take_zero, Nat.reduceAdd, Nat.reduceLeDiff, Nat.le_refl, List.take_nil]
theorem flat2_length (a b : Nat → Ob) (k : Nat) : ((List.range k).flatMap fun i => [a i, b i]).length = 2 * k := by
  induction k with
  | zero => rfl
  | succ k ih => rw [List.range_succ, List.flatMap_append, List.length_append, ih]; simp; omega
theorem raw_ok (c : Nat) (bs : List UInt8) (n : Nat) (σ : List Ob) (hbs : bs.length ≤ 4194304) (hn1 : 64 * (n + 1) < bs.length + 64) (hn2 : bs.length ≤ 64 * (n + 1)) :
    ∃ Lp, Ok Tryz.prog 6 [.vec c 1 (bs.map eB)] σ (.ret (.tup [.agg [.sl (σ.length + 8) (n + 1) 0 (n + 1), .nils, .int .i64 65536], .int .i64 0])) (σ ++ rawObs bs c σ.length Lp n) := by
  refine raw_of c bs n σ hbs hn1 hn2 rfl ?_ ?_ ?_ ?_ ?_ ?_ ?_
  all_goals
    intro C hP hn
    have hL : LayOk C.P L := hP ▸ layOk
    have hm : C.P.follows .mixedOrders = true := hP ▸ mixed
  · repeat (first | ((first | refine SW.rs hL (by rw [hn]; rfl) ?_ | refine SW.re hL (by rw [hn]; rfl) ?_); simp only [minDV, maxDV, bsDV, List.range_zero, rng1, rng2, rng3, rng4, Nat.reduceBEq, beq_self_eq_true, Bool.and_true, Bool.true_and, Int.reduceLT, Int.reduceLE, Nat.reduceAdd, Nat.reduceEqDiff, reduceIte, Nat.reduceSub, Nat.reduceLT, Nat.reduceMul, Nat.reduceLeDiff, runTo, gd, Op.plain, sop, sop0, mop, eqM, eqCells, eqCell, indexDV, convM, bstrDV, taM, lookupM, appM, copyM, clearM, lenD, srcM, srcDV, ev, ofVal, ofVal1, lk, up, upo, binDV, binInt, un, Option.map_some, Option.map_none, Option.bind_some, if_true, if_false, List.getElem?_toArray, List.getElem?_cons_zero, List.getElem?_cons_succ, Bool.true_beq, Bool.false_beq, Bool.not_true, Bool.not_false, Bool.false_eq_true, thenK, blockK, loopK, loopG, slots, reduceCtorEq, decide_true, decide_false, List.map_cons, List.map_nil, and_self, and_true, true_and, Bool.and_self, Nat.zero_add, Nat.add_zero, Nat.mul_one, List.drop_zero, List.take_zero, TD.isAgg, indexAddrDV, fieldAddrDV, loadDV, cellsAt, storeDV, setCells, bi, lenDV, convDV, shiftInt, List.all_cons, List.all_nil, own_get, own_get0, own_set, own_set0, List.append_assoc, List.length_append, Nat.add_assoc, List.set_cons_succ, List.set_cons_zero, List.append_nil, List.drop_succ_cons, List.drop_nil, List.take_succ_cons, List.take_nil, Int.toNat_natCast, DV.cells, DV.full, DV.one, List.length_cons, List.length_nil, List.nil_append, List.cons_append, L3, L5, L22, L24, L25, L27, L64]) | (refine SWops.nil ?_; try simp only [thenK, blockK, loopK, loopG]) | refine SW.seq ?_ | refine SW.block ?_ | (refine SW.ct rfl ?_) | (refine SW.cf rfl ?_) | (refine SW.skip ?_; try simp only [thenK, blockK, loopK, loopG]) | (refine SW.exit ?_; try simp only [thenK, blockK, loopK, loopG, if_true, if_false, Nat.reduceEqDiff]) | (refine SW.ret ?_; try simp only [thenK, blockK, loopK, loopG]))
    exact ⟨rfl, .of rfl ⟨rfl, rfl, rfl, trivial⟩⟩
  · intro ob
    have e1 : decide ((bs.length : Int) > 4194304) = false := decide_eq_false (by omega)
    repeat (first | ((first | refine SW.rs hL (by rw [hn]; rfl) ?_ | refine SW.re hL (by rw [hn]; rfl) ?_); simp only [minDV, maxDV, bsDV, List.range_zero, rng1, rng2, rng3, rng4, Nat.reduceBEq, beq_self_eq_true, Bool.and_true, Bool.true_and, Int.reduceLT, Int.reduceLE, Nat.reduceAdd, Nat.reduceEqDiff, reduceIte, Nat.reduceSub, Nat.reduceLT, Nat.reduceMul, Nat.reduceLeDiff, runTo, gd, Op.plain, sop, sop0, mop, eqM, eqCells, eqCell, indexDV, convM, bstrDV, taM, lookupM, appM, copyM, clearM, lenD, srcM, srcDV, ev, ofVal, ofVal1, lk, up, upo, binDV, binInt, un, Option.map_some, Option.map_none, Option.bind_some, if_true, if_false, List.getElem?_toArray, List.getElem?_cons_zero, List.getElem?_cons_succ, Bool.true_beq, Bool.false_beq, Bool.not_true, Bool.not_false, Bool.false_eq_true, thenK, blockK, loopK, loopG, slots, reduceCtorEq, decide_true, decide_false, List.map_cons, List.map_nil, and_self, and_true, true_and, Bool.and_self, Nat.zero_add, Nat.add_zero, Nat.mul_one, List.drop_zero, List.take_zero, TD.isAgg, indexAddrDV, fieldAddrDV, loadDV, cellsAt, storeDV, setCells, bi, lenDV, convDV, shiftInt, List.all_cons, List.all_nil, own_get, own_get0, own_set, own_set0, List.append_assoc, List.length_append, Nat.add_assoc, List.set_cons_succ, List.set_cons_zero, List.append_nil, List.drop_succ_cons, List.drop_nil, List.take_succ_cons, List.take_nil, Int.toNat_natCast, DV.cells, DV.full, DV.one, List.length_cons, List.length_nil, List.nil_append, List.cons_append, L3, L5, L22, L24, L25, L27, L64, List.length_map, e1]) | (refine SWops.nil ?_; try simp only [thenK, blockK, loopK, loopG]) | refine SW.seq ?_ | refine SW.block ?_ | (refine SW.ct rfl ?_) | (refine SW.cf rfl ?_) | (refine SW.skip ?_; try simp only [thenK, blockK, loopK, loopG]) | (refine SW.exit ?_; try simp only [thenK, blockK, loopK, loopG, if_true, if_false, Nat.reduceEqDiff]) | (refine SW.ret ?_; try simp only [thenK, blockK, loopK, loopG]))
    exact ⟨rfl, .of rfl ⟨rfl, rfl, rfl, trivial⟩⟩
  · have hl1 : (σ ++ [Ob.arr 27 3 [.agg [.nils, .nils, .int .i64 0]]]).length = σ.length + 1 := by simp
    repeat (first | ((first | refine SW.rs hL (by rw [hn]; rfl) ?_ | refine SW.re hL (by rw [hn]; rfl) ?_); simp only [minDV, maxDV, bsDV, List.range_zero, rng1, rng2, rng3, rng4, Nat.reduceBEq, beq_self_eq_true, Bool.and_true, Bool.true_and, Int.reduceLT, Int.reduceLE, Nat.reduceAdd, Nat.reduceEqDiff, reduceIte, Nat.reduceSub, Nat.reduceLT, Nat.reduceMul, Nat.reduceLeDiff, runTo, gd, Op.plain, sop, sop0, mop, eqM, eqCells, eqCell, indexDV, convM, bstrDV, taM, lookupM, appM, copyM, clearM, lenD, srcM, srcDV, ev, ofVal, ofVal1, lk, up, upo, binDV, binInt, un, Option.map_some, Option.map_none, Option.bind_some, if_true, if_false, List.getElem?_toArray, List.getElem?_cons_zero, List.getElem?_cons_succ, Bool.true_beq, Bool.false_beq, Bool.not_true, Bool.not_false, Bool.false_eq_true, thenK, blockK, loopK, loopG, slots, reduceCtorEq, decide_true, decide_false, List.map_cons, List.map_nil, and_self, and_true, true_and, Bool.and_self, Nat.zero_add, Nat.add_zero, Nat.mul_one, List.drop_zero, List.take_zero, TD.isAgg, indexAddrDV, fieldAddrDV, loadDV, cellsAt, storeDV, setCells, bi, lenDV, convDV, shiftInt, List.all_cons, List.all_nil, own_get, own_get0, own_set, own_set0, List.append_assoc, List.length_append, Nat.add_assoc, List.set_cons_succ, List.set_cons_zero, List.append_nil, List.drop_succ_cons, List.drop_nil, List.take_succ_cons, List.take_nil, Int.toNat_natCast, DV.cells, DV.full, DV.one, List.length_cons, List.length_nil, List.nil_append, List.cons_append, L3, L5, L22, L24, L25, L27, L64, hl1]) | (refine SWops.nil ?_; try simp only [thenK, blockK, loopK, loopG]) | refine SW.seq ?_ | refine SW.block ?_ | (refine SW.ct rfl ?_) | (refine SW.cf rfl ?_) | (refine SW.skip ?_; try simp only [thenK, blockK, loopK, loopG]) | (refine SW.exit ?_; try simp only [thenK, blockK, loopK, loopG, if_true, if_false, Nat.reduceEqDiff]) | (refine SW.ret ?_; try simp only [thenK, blockK, loopK, loopG]))
    exact ⟨rfl, .of (by rw [List.append_assoc]; rfl) ⟨rfl, rfl, rfl, by simp [lk], trivial⟩⟩
  · repeat (first | ((first | refine SW.rs hL (by rw [hn]; rfl) ?_ | refine SW.re hL (by rw [hn]; rfl) ?_); simp only [minDV, maxDV, bsDV, List.range_zero, rng1, rng2, rng3, rng4, Nat.reduceBEq, beq_self_eq_true, Bool.and_true, Bool.true_and, Int.reduceLT, Int.reduceLE, Nat.reduceAdd, Nat.reduceEqDiff, reduceIte, Nat.reduceSub, Nat.reduceLT, Nat.reduceMul, Nat.reduceLeDiff, runTo, gd, Op.plain, sop, sop0, mop, eqM, eqCells, eqCell, indexDV, convM, bstrDV, taM, lookupM, appM, copyM, clearM, lenD, srcM, srcDV, ev, ofVal, ofVal1, lk, up, upo, binDV, binInt, un, Option.map_some, Option.map_none, Option.bind_some, if_true, if_false, List.getElem?_toArray, List.getElem?_cons_zero, List.getElem?_cons_succ, Bool.true_beq, Bool.false_beq, Bool.not_true, Bool.not_false, Bool.false_eq_true, thenK, blockK, loopK, loopG, slots, reduceCtorEq, decide_true, decide_false, List.map_cons, List.map_nil, and_self, and_true, true_and, Bool.and_self, Nat.zero_add, Nat.add_zero, Nat.mul_one, List.drop_zero, List.take_zero, TD.isAgg, indexAddrDV, fieldAddrDV, loadDV, cellsAt, storeDV, setCells, bi, lenDV, convDV, shiftInt, List.all_cons, List.all_nil, own_get, own_get0, own_set, own_set0, List.append_assoc, List.length_append, Nat.add_assoc, List.set_cons_succ, List.set_cons_zero, List.append_nil, List.drop_succ_cons, List.drop_nil, List.take_succ_cons, List.take_nil, Int.toNat_natCast, DV.cells, DV.full, DV.one, List.length_cons, List.length_nil, List.nil_append, List.cons_append, L3, L5, L22, L24, L25, L27, L64]) | (refine SWops.nil ?_; try simp only [thenK, blockK, loopK, loopG]) | refine SW.seq ?_ | refine SW.block ?_ | (refine SW.ct rfl ?_) | (refine SW.cf rfl ?_) | (refine SW.skip ?_; try simp only [thenK, blockK, loopK, loopG]) | (refine SW.exit ?_; try simp only [thenK, blockK, loopK, loopG, if_true, if_false, Nat.reduceEqDiff]) | (refine SW.ret ?_; try simp only [thenK, blockK, loopK, loopG]))
    refine SWops.callx hP (by rw [hn]; rfl) (chunk15_ok c (bs.map eB) _) rfl rfl rfl rfl ?_; refine SWops.go hL (by rw [hn]; rfl) ?_; simp (maxSteps := 2000000) only [minDV, maxDV, bsDV, List.range_zero, rng1, rng2, rng3, rng4, Nat.reduceBEq, beq_self_eq_true, Bool.and_true, Bool.true_and, Int.reduceLT, Int.reduceLE, Nat.reduceAdd, Nat.reduceEqDiff, reduceIte, Nat.reduceSub, Nat.reduceLT, Nat.reduceMul, Nat.reduceLeDiff, runTo, gd, Op.plain, sop, sop0, mop, eqM, eqCells, eqCell, indexDV, convM, bstrDV, taM, lookupM, appM, copyM, clearM, lenD, srcM, srcDV, ev, ofVal, ofVal1, lk, up, upo, binDV, binInt, un, Option.map_some, Option.map_none, Option.bind_some, if_true, if_false, List.getElem?_toArray, List.getElem?_cons_zero, List.getElem?_cons_succ, Bool.true_beq, Bool.false_beq, Bool.not_true, Bool.not_false, Bool.false_eq_true, thenK, blockK, loopK, loopG, slots, reduceCtorEq, decide_true, decide_false, List.map_cons, List.map_nil, and_self, and_true, true_and, Bool.and_self, Nat.zero_add, Nat.add_zero, Nat.mul_one, List.drop_zero, List.take_zero, TD.isAgg, indexAddrDV, fieldAddrDV, loadDV, cellsAt, storeDV, setCells, bi, lenDV, convDV, shiftInt, List.all_cons, List.all_nil, own_get, own_get0, own_set, own_set0, List.append_assoc, List.length_append, Nat.add_assoc, List.set_cons_succ, List.set_cons_zero, List.append_nil, List.drop_succ_cons, List.drop_nil, List.take_succ_cons, List.take_nil, Int.toNat_natCast, DV.cells, DV.full, DV.one, List.length_cons, List.length_nil, List.nil_append, List.cons_append, dgo_nil, dgo_cons, DX_eq, pureDo_cons, rst, List.getD_cons_zero, List.getD_cons_succ, List.mem_cons, List.not_mem_nil, or_false, false_or, forall_eq, forall_eq_or_imp, List.isEmpty_cons, List.isEmpty_nil, false_imp_iff, imp_self, implies_true, L3, L5, L22, L24, L25, L27, L64]
    repeat (first | ((first | refine SW.rs hL (by rw [hn]; rfl) ?_ | refine SW.re hL (by rw [hn]; rfl) ?_); simp only [minDV, maxDV, bsDV, List.range_zero, rng1, rng2, rng3, rng4, Nat.reduceBEq, beq_self_eq_true, Bool.and_true, Bool.true_and, Int.reduceLT, Int.reduceLE, Nat.reduceAdd, Nat.reduceEqDiff, reduceIte, Nat.reduceSub, Nat.reduceLT, Nat.reduceMul, Nat.reduceLeDiff, runTo, gd, Op.plain, sop, sop0, mop, eqM, eqCells, eqCell, indexDV, convM, bstrDV, taM, lookupM, appM, copyM, clearM, lenD, srcM, srcDV, ev, ofVal, ofVal1, lk, up, upo, binDV, binInt, un, Option.map_some, Option.map_none, Option.bind_some, if_true, if_false, List.getElem?_toArray, List.getElem?_cons_zero, List.getElem?_cons_succ, Bool.true_beq, Bool.false_beq, Bool.not_true, Bool.not_false, Bool.false_eq_true, thenK, blockK, loopK, loopG, slots, reduceCtorEq, decide_true, decide_false, List.map_cons, List.map_nil, and_self, and_true, true_and, Bool.and_self, Nat.zero_add, Nat.add_zero, Nat.mul_one, List.drop_zero, List.take_zero, TD.isAgg, indexAddrDV, fieldAddrDV, loadDV, cellsAt, storeDV, setCells, bi, lenDV, convDV, shiftInt, List.all_cons, List.all_nil, own_get, own_get0, own_set, own_set0, List.append_assoc, List.length_append, Nat.add_assoc, List.set_cons_succ, List.set_cons_zero, List.append_nil, List.drop_succ_cons, List.drop_nil, List.take_succ_cons, List.take_nil, Int.toNat_natCast, DV.cells, DV.full, DV.one, List.length_cons, List.length_nil, List.nil_append, List.cons_append, L3, L5, L22, L24, L25, L27, L64]) | (refine SWops.nil ?_; try simp only [thenK, blockK, loopK, loopG]) | refine SW.seq ?_ | refine SW.block ?_ | (refine SW.ct rfl ?_) | (refine SW.cf rfl ?_) | (refine SW.skip ?_; try simp only [thenK, blockK, loopK, loopG]) | (refine SW.exit ?_; try simp only [thenK, blockK, loopK, loopG, if_true, if_false, Nat.reduceEqDiff]) | (refine SW.ret ?_; try simp only [thenK, blockK, loopK, loopG]))
    exact ⟨rfl, .of (by simp [base]) ⟨rfl, rfl, rfl, trivial⟩⟩
  · intro d ob
    repeat (first | ((first | refine SW.rs hL (by rw [hn]; rfl) ?_ | refine SW.re hL (by rw [hn]; rfl) ?_); simp only [minDV, maxDV, bsDV, List.range_zero, rng1, rng2, rng3, rng4, Nat.reduceBEq, beq_self_eq_true, Bool.and_true, Bool.true_and, Int.reduceLT, Int.reduceLE, Nat.reduceAdd, Nat.reduceEqDiff, reduceIte, Nat.reduceSub, Nat.reduceLT, Nat.reduceMul, Nat.reduceLeDiff, runTo, gd, Op.plain, sop, sop0, mop, eqM, eqCells, eqCell, indexDV, convM, bstrDV, taM, lookupM, appM, copyM, clearM, lenD, srcM, srcDV, ev, ofVal, ofVal1, lk, up, upo, binDV, binInt, un, Option.map_some, Option.map_none, Option.bind_some, if_true, if_false, List.getElem?_toArray, List.getElem?_cons_zero, List.getElem?_cons_succ, Bool.true_beq, Bool.false_beq, Bool.not_true, Bool.not_false, Bool.false_eq_true, thenK, blockK, loopK, loopG, slots, reduceCtorEq, decide_true, decide_false, List.map_cons, List.map_nil, and_self, and_true, true_and, Bool.and_self, Nat.zero_add, Nat.add_zero, Nat.mul_one, List.drop_zero, List.take_zero, TD.isAgg, indexAddrDV, fieldAddrDV, loadDV, cellsAt, storeDV, setCells, bi, lenDV, convDV, shiftInt, List.all_cons, List.all_nil, own_get, own_get0, own_set, own_set0, List.append_assoc, List.length_append, Nat.add_assoc, List.set_cons_succ, List.set_cons_zero, List.append_nil, List.drop_succ_cons, List.drop_nil, List.take_succ_cons, List.take_nil, Int.toNat_natCast, DV.cells, DV.full, DV.one, List.length_cons, List.length_nil, List.nil_append, List.cons_append, L3, L5, L22, L24, L25, L27, L64]) | (refine SWops.nil ?_; try simp only [thenK, blockK, loopK, loopG]) | refine SW.seq ?_ | refine SW.block ?_ | (refine SW.ct rfl ?_) | (refine SW.cf rfl ?_) | (refine SW.skip ?_; try simp only [thenK, blockK, loopK, loopG]) | (refine SW.exit ?_; try simp only [thenK, blockK, loopK, loopG, if_true, if_false, Nat.reduceEqDiff]) | (refine SW.ret ?_; try simp only [thenK, blockK, loopK, loopG]))
    exact ⟨rfl, .of rfl ⟨rfl, rfl, trivial⟩⟩
  · intro k Lp hk
    have t64 : Int.toNat 64 = 64 := rfl
    have hlc := chunk_length bs k
    have hne : ((chunk bs k).length = 0) = False := by simp [chunk]; omega
    have hmin : min (chunk bs k).length 64 = (chunk bs k).length := Nat.min_eq_left hlc
    have htk : ((chunk bs k).map eB).take (chunk bs k).length = (chunk bs k).map eB := List.take_of_length_le (by simp)
    have hpad : (chunk bs k).map eB ++ (List.replicate 64 (DV.int .u8 0)).drop (chunk bs k).length = (pad bs k).map eB := by
      rw [List.drop_replicate, pad, List.map_append, List.map_replicate]; rfl
    have hal := all_eB (chunk bs k)
    simp only [DV.cells] at hal
    cases k with
    | zero =>
      repeat (first | ((first | refine SW.rs hL (by rw [hn]; rfl) ?_ | refine SW.re hL (by rw [hn]; rfl) ?_); simp only [minDV, maxDV, bsDV, List.range_zero, rng1, rng2, rng3, rng4, Nat.reduceBEq, beq_self_eq_true, Bool.and_true, Bool.true_and, Int.reduceLT, Int.reduceLE, Nat.reduceAdd, Nat.reduceEqDiff, reduceIte, Nat.reduceSub, Nat.reduceLT, Nat.reduceMul, Nat.reduceLeDiff, runTo, gd, Op.plain, sop, sop0, mop, eqM, eqCells, eqCell, indexDV, convM, bstrDV, taM, lookupM, appM, copyM, clearM, lenD, srcM, srcDV, ev, ofVal, ofVal1, lk, up, upo, binDV, binInt, un, Option.map_some, Option.map_none, Option.bind_some, if_true, if_false, List.getElem?_toArray, List.getElem?_cons_zero, List.getElem?_cons_succ, Bool.true_beq, Bool.false_beq, Bool.not_true, Bool.not_false, Bool.false_eq_true, thenK, blockK, loopK, loopG, slots, reduceCtorEq, decide_true, decide_false, List.map_cons, List.map_nil, and_self, and_true, true_and, Bool.and_self, Nat.zero_add, Nat.add_zero, Nat.mul_one, List.drop_zero, List.take_zero, TD.isAgg, indexAddrDV, fieldAddrDV, loadDV, cellsAt, storeDV, setCells, bi, lenDV, convDV, shiftInt, List.all_cons, List.all_nil, own_get, own_get0, own_set, own_set0, List.append_assoc, List.length_append, Nat.add_assoc, List.set_cons_succ, List.set_cons_zero, List.append_nil, List.drop_succ_cons, List.drop_nil, List.take_succ_cons, List.take_nil, Int.toNat_natCast, DV.cells, DV.full, DV.one, List.length_cons, List.length_nil, List.nil_append, List.cons_append, L3, L5, L22, L24, L25, L27, L64, roundObs, base, copyM, t64, List.length_map, hmin, htk, hal, overM, List.length_replicate, hne, hpad, appDV]) | (refine SWops.nil ?_; try simp only [thenK, blockK, loopK, loopG]) | refine SW.seq ?_ | refine SW.block ?_ | (refine SW.ct rfl ?_) | (refine SW.cf rfl ?_) | (refine SW.skip ?_; try simp only [thenK, blockK, loopK, loopG]) | (refine SW.exit ?_; try simp only [thenK, blockK, loopK, loopG, if_true, if_false, Nat.reduceEqDiff]) | (refine SW.ret ?_; try simp only [thenK, blockK, loopK, loopG]))
      exact ⟨rfl, .of rfl trivial⟩
    | succ k =>
      obtain ⟨T, hT⟩ : ∃ T, T = (List.range k).flatMap fun i => [secOb bs (i + 1), bldOb σ.length (i + 1)] := ⟨_, rfl⟩
      have hTl : T.length = 2 * k := by rw [hT]; exact flat2_length _ _ k
      have hg1 : ∀ x : Ob, (T ++ [x])[2 * k]? = some x := fun x => by rw [← hTl]; simp
      have hg2 : ∀ x y : Ob, (T ++ [x]).set (2 * k) y = T ++ [y] := fun x y => by rw [← hTl]; simp
      have hg3 : ∀ x y : Ob, (T ++ [x, y])[2 * k + 1]? = some y := fun x y => by rw [← hTl]; simp
      have hk2 : ((k + (1 + 1)) * 24 ≤ 140737488355328) = True := by simp; omega
      have hsl := secs_length (fId σ.length) (k + 1)
      repeat (first | ((first | refine SW.rs hL (by rw [hn]; rfl) ?_ | refine SW.re hL (by rw [hn]; rfl) ?_); simp only [minDV, maxDV, bsDV, List.range_zero, rng1, rng2, rng3, rng4, Nat.reduceBEq, beq_self_eq_true, Bool.and_true, Bool.true_and, Int.reduceLT, Int.reduceLE, Nat.reduceAdd, Nat.reduceEqDiff, reduceIte, Nat.reduceSub, Nat.reduceLT, Nat.reduceMul, Nat.reduceLeDiff, runTo, gd, Op.plain, sop, sop0, mop, eqM, eqCells, eqCell, indexDV, convM, bstrDV, taM, lookupM, appM, copyM, clearM, lenD, srcM, srcDV, ev, ofVal, ofVal1, lk, up, upo, binDV, binInt, un, Option.map_some, Option.map_none, Option.bind_some, if_true, if_false, List.getElem?_toArray, List.getElem?_cons_zero, List.getElem?_cons_succ, Bool.true_beq, Bool.false_beq, Bool.not_true, Bool.not_false, Bool.false_eq_true, thenK, blockK, loopK, loopG, slots, reduceCtorEq, decide_true, decide_false, List.map_cons, List.map_nil, and_self, and_true, true_and, Bool.and_self, Nat.zero_add, Nat.add_zero, Nat.mul_one, List.drop_zero, List.take_zero, TD.isAgg, indexAddrDV, fieldAddrDV, loadDV, cellsAt, storeDV, setCells, bi, lenDV, convDV, shiftInt, List.all_cons, List.all_nil, own_get, own_get0, own_set, own_set0, List.append_assoc, List.length_append, Nat.add_assoc, List.set_cons_succ, List.set_cons_zero, List.append_nil, List.drop_succ_cons, List.drop_nil, List.take_succ_cons, List.take_nil, Int.toNat_natCast, DV.cells, DV.full, DV.one, List.length_cons, List.length_nil, List.nil_append, List.cons_append, L3, L5, L22, L24, L25, L27, L64, roundObs, base, copyM, t64, List.length_map, hmin, htk, hal, overM, List.length_replicate, hne, hpad, appDV, ← hT, hTl, hg1, hg2, hsl, hg3, hk2]) | (refine SWops.nil ?_; try simp only [thenK, blockK, loopK, loopG]) | refine SW.seq ?_ | refine SW.block ?_ | (refine SW.ct rfl ?_) | (refine SW.cf rfl ?_) | (refine SW.skip ?_; try simp only [thenK, blockK, loopK, loopG]) | (refine SW.exit ?_; try simp only [thenK, blockK, loopK, loopG, if_true, if_false, Nat.reduceEqDiff]) | (refine SW.ret ?_; try simp only [thenK, blockK, loopK, loopG]))
      refine ⟨rfl, .of ?_ trivial⟩
      have e1 : secs (fId σ.length) (k + 1 + 1) = secs (fId σ.length) (k + 1) ++ [.sl (σ.length + (2 * k + 9)) 64 0 64] := by
        simp [secs, List.range_succ, fId]
      have e2 : ((List.range (k + 1)).flatMap fun i => [secOb bs (i + 1), bldOb σ.length (i + 1)]) = T ++ [secOb bs (k + 1), bldOb σ.length (k + 1)] := by
        rw [hT, List.range_succ, List.flatMap_append]; simp
      simp only [roundObs, base, e1, e2]
      simp [secOb, bldOb, fId]
  · intro Lp
    repeat (first | ((first | refine SW.rs hL (by rw [hn]; rfl) ?_ | refine SW.re hL (by rw [hn]; rfl) ?_); simp only [minDV, maxDV, bsDV, List.range_zero, rng1, rng2, rng3, rng4, Nat.reduceBEq, beq_self_eq_true, Bool.and_true, Bool.true_and, Int.reduceLT, Int.reduceLE, Nat.reduceAdd, Nat.reduceEqDiff, reduceIte, Nat.reduceSub, Nat.reduceLT, Nat.reduceMul, Nat.reduceLeDiff, runTo, gd, Op.plain, sop, sop0, mop, eqM, eqCells, eqCell, indexDV, convM, bstrDV, taM, lookupM, appM, copyM, clearM, lenD, srcM, srcDV, ev, ofVal, ofVal1, lk, up, upo, binDV, binInt, un, Option.map_some, Option.map_none, Option.bind_some, if_true, if_false, List.getElem?_toArray, List.getElem?_cons_zero, List.getElem?_cons_succ, Bool.true_beq, Bool.false_beq, Bool.not_true, Bool.not_false, Bool.false_eq_true, thenK, blockK, loopK, loopG, slots, reduceCtorEq, decide_true, decide_false, List.map_cons, List.map_nil, and_self, and_true, true_and, Bool.and_self, Nat.zero_add, Nat.add_zero, Nat.mul_one, List.drop_zero, List.take_zero, TD.isAgg, indexAddrDV, fieldAddrDV, loadDV, cellsAt, storeDV, setCells, bi, lenDV, convDV, shiftInt, List.all_cons, List.all_nil, own_get, own_get0, own_set, own_set0, List.append_assoc, List.length_append, Nat.add_assoc, List.set_cons_succ, List.set_cons_zero, List.append_nil, List.drop_succ_cons, List.drop_nil, List.take_succ_cons, List.take_nil, Int.toNat_natCast, DV.cells, DV.full, DV.one, List.length_cons, List.length_nil, List.nil_append, List.cons_append, L3, L5, L22, L24, L25, L27, L64, roundObs, base]) | (refine SWops.nil ?_; try simp only [thenK, blockK, loopK, loopG]) | refine SW.seq ?_ | refine SW.block ?_ | (refine SW.ct rfl ?_) | (refine SW.cf rfl ?_) | (refine SW.skip ?_; try simp only [thenK, blockK, loopK, loopG]) | (refine SW.exit ?_; try simp only [thenK, blockK, loopK, loopG, if_true, if_false, Nat.reduceEqDiff]) | (refine SW.ret ?_; try simp only [thenK, blockK, loopK, loopG]))
    exact ⟨rfl, .of (by simp [own_set0]) ⟨rfl, rfl, trivial⟩⟩
end Go.VL
end
section
set_option linter.unusedSimpArgs false
set_option linter.unusedVariables false
set_option maxRecDepth 10000
set_option maxHeartbeats 2000000
namespace Go.VL
open Go Go.Proofs

theorem cat_take (bs : List UInt8) : ∀ k, 64 * k ≤ bs.length → cat (pad bs) k = bs.take (64 * k)
  | 0, _ => by simp [cat]
  | k + 1, h => by
    have hl : (chunk bs k).length = 64 := by simp [chunk]; omega
    rw [cat_succ, cat_take bs k (by omega), pad, hl, Nat.sub_self, List.replicate_zero, List.append_nil, chunk, show 64 * (k + 1) = 64 * k + 64 by omega, List.take_add]
theorem cat_pad (bs : List UInt8) (n : Nat) (h1 : 64 * (n + 1) < bs.length + 64) (h2 : bs.length ≤ 64 * (n + 1)) : cat (pad bs) (n + 1) = bs ++ List.replicate (64 * (n + 1) - bs.length) 0 := by
  have hl : (chunk bs n).length = bs.length - 64 * n := by simp [chunk]; omega
  rw [cat_succ, cat_take bs n (by omega), pad, ← List.append_assoc, hl, chunk, List.take_of_length_le (i := 64) (by simp; omega), List.take_append_drop]
  congr 2
  omega
theorem rawLong1_ok (c : Nat) (bs : List UInt8) (σ : List Ob) (h : 4194304 < bs.length) : Ok Tryz.prog 6 [.vec c 1 (bs.map eB)] σ (.ret (.tup [.agg [.nils, .nils, .int .i64 0], .int .i64 5])) (σ ++ [.arr 27 3 [.agg [.nils, .nils, .int .i64 0]]]) := by
  refine Ok.of_body layOk Tryz.func6 rfl (by decide) (by simp [Tryz.ntmps6]) fun C hP hn hσ hfix hdd => ?_
  rw [show Tryz.f6.ntmps = 26 from rfl] at hn
  have hL : LayOk C.P L := hP ▸ layOk
  have hm : C.P.follows .mixedOrders = true := hP ▸ mixed
  have e1 : decide ((bs.length : Int) > 4194304) = true := decide_eq_true (by omega)
  have hb : buildDV L 27 [] = some (.agg [.nils, .nils, .int .i64 0]) := rfl
  repeat (first | ((first | refine SW.rs hL (by rw [hn]; rfl) ?_ | refine SW.re hL (by rw [hn]; rfl) ?_); simp only [minDV, maxDV, bsDV, List.range_zero, rng1, rng2, rng3, rng4, Nat.reduceBEq, beq_self_eq_true, Bool.and_true, Bool.true_and, Int.reduceLT, Int.reduceLE, Nat.reduceAdd, Nat.reduceEqDiff, reduceIte, Nat.reduceSub, Nat.reduceLT, Nat.reduceMul, Nat.reduceLeDiff, runTo, gd, Op.plain, sop, sop0, mop, eqM, eqCells, eqCell, indexDV, convM, bstrDV, taM, lookupM, appM, copyM, clearM, lenD, srcM, srcDV, ev, ofVal, ofVal1, lk, up, upo, binDV, binInt, un, Option.map_some, Option.map_none, Option.bind_some, if_true, if_false, List.getElem?_toArray, List.getElem?_cons_zero, List.getElem?_cons_succ, Bool.true_beq, Bool.false_beq, Bool.not_true, Bool.not_false, Bool.false_eq_true, thenK, blockK, loopK, loopG, slots, reduceCtorEq, decide_true, decide_false, List.map_cons, List.map_nil, and_self, and_true, true_and, Bool.and_self, Nat.zero_add, Nat.add_zero, Nat.mul_one, List.drop_zero, List.take_zero, TD.isAgg, indexAddrDV, fieldAddrDV, loadDV, cellsAt, storeDV, setCells, bi, lenDV, convDV, shiftInt, List.all_cons, List.all_nil, own_get, own_get0, own_set, own_set0, List.append_assoc, List.length_append, Nat.add_assoc, List.set_cons_succ, List.set_cons_zero, List.append_nil, List.drop_succ_cons, List.drop_nil, List.take_succ_cons, List.take_nil, Int.toNat_natCast, DV.cells, DV.full, DV.one, List.length_cons, List.length_nil, List.nil_append, List.cons_append, L3, L5, L22, L24, L25, L27, L64, List.length_map, e1, hb]) | (refine SWops.nil ?_; try simp only [thenK, blockK, loopK, loopG]) | refine SW.seq ?_ | refine SW.block ?_ | (refine SW.ct rfl ?_) | (refine SW.cf rfl ?_) | (refine SW.skip ?_; try simp only [thenK, blockK, loopK, loopG]) | (refine SW.exit ?_; try simp only [thenK, blockK, loopK, loopG, if_true, if_false, Nat.reduceEqDiff]) | (refine SW.ret ?_; try simp only [thenK, blockK, loopK, loopG]))
  exact ⟨_, _, _, Ghost.refl _ _, by simp only [show Tryz.f6.results.toList = [.cell 2 27, .tmp 3] from rfl, resDV, resL, resDV1, lk, if_true, if_false, Nat.reduceEqDiff, loadDV, L27, cellsAt, own_get0, List.getElem?_cons_zero, List.length_cons, List.length_nil, DV.cells, List.drop_zero, TD.isAgg, reduceIte, Nat.zero_add, List.take_succ_cons, List.take_zero, Nat.reduceAdd, Nat.reduceLeDiff, Nat.le_refl, List.take_nil], GhostV.refl _ _ _, rfl⟩
theorem rawLong_ok (c : Nat) (bs : List UInt8) (σ : List Ob) (h : 4194304 < bs.length) : ∃ σ', Ok Tryz.prog 6 [.vec c 1 (bs.map eB)] σ (.ret (.tup [.agg [.nils, .nils, .int .i64 0], .int .i64 5])) (σ ++ σ') := ⟨_, rawLong1_ok c bs σ h⟩
/-- What is asked of the objects that check.Raw lays. -/
theorem rawObs_get (bs : List UInt8) (c : Nat) (σ : List Ob) (Lp : Ob) (n : Nat) : (σ ++ rawObs bs c σ.length Lp n)[σ.length + 8]? = some (.arr 22 1 (secs (fId σ.length) (n + 1))) ∧
    ∀ j, j < n + 1 → (pad bs j).length = 64 ∧ (σ ++ rawObs bs c σ.length Lp n)[fId σ.length j]? = some (.arr 5 1 ((pad bs j).map eB)) := by
  refine ⟨by rw [own_get]; rfl, fun j hj => ⟨pad_length bs j, ?_⟩⟩
  have key : ∀ k j, j < k → ((List.range k).flatMap fun i => [secOb bs (i + 1), bldOb σ.length (i + 1)])[2 * j]? = some (secOb bs (j + 1)) := by
    intro k
    induction k with
    | zero => intro j h; omega
    | succ k ih =>
      intro j hj
      rw [List.range_succ, List.flatMap_append]
      rcases Nat.lt_or_ge j k with h | h
      · rw [List.getElem?_append_left (by rw [flat2_length]; omega)]
        exact ih j h
      · obtain rfl : j = k := by omega
        rw [List.getElem?_append_right (by rw [flat2_length]; omega), flat2_length]
        simp
  cases j with
  | zero => show (σ ++ rawObs bs c σ.length Lp n)[σ.length + 6]? = _; rw [own_get]; rfl
  | succ j =>
    show (σ ++ rawObs bs c σ.length Lp n)[σ.length + (2 * j + 9)]? = _
    rw [own_get]
    unfold rawObs
    rw [List.getElem?_append_right (by simp)]
    simp only [List.length_cons, List.length_nil, Nat.zero_add, Nat.reduceAdd, Nat.add_sub_cancel]
    exact key n j (by omega)
theorem checkRawLong_ok (c : Nat) (bs : List UInt8) (h : 4194304 < bs.length) : ∃ σ', Ok Tryz.prog 3 [.vec c 1 (bs.map eB)] [] (.ret (.bool true)) σ' := by
  obtain ⟨σ', hr⟩ := rawLong_ok c bs [] h
  refine ⟨[] ++ (σ' ++ [.arr 27 3 [.agg [.nils, .nils, .int .i64 0]]]), ?_⟩
  refine Ok.of_body layOk Tryz.func3 rfl (by decide) (by simp [Tryz.ntmps3]) fun C hP hn hσ hfix hdd => ?_
  rw [show Tryz.f3.ntmps = 82 from rfl] at hn
  have hL : LayOk C.P L := hP ▸ layOk
  have hm : C.P.follows .mixedOrders = true := hP ▸ mixed
  have e1 : decide ((bs.length : Int) > 4194304) = true := decide_eq_true (by omega)
  repeat (first | ((first | refine SW.rs hL (by rw [hn]; rfl) ?_ | refine SW.re hL (by rw [hn]; rfl) ?_); simp only [minDV, maxDV, bsDV, List.range_zero, rng1, rng2, rng3, rng4, Nat.reduceBEq, beq_self_eq_true, Bool.and_true, Bool.true_and, Int.reduceLT, Int.reduceLE, Nat.reduceAdd, Nat.reduceEqDiff, reduceIte, Nat.reduceSub, Nat.reduceLT, Nat.reduceMul, Nat.reduceLeDiff, runTo, gd, Op.plain, sop, sop0, mop, eqM, eqCells, eqCell, indexDV, convM, bstrDV, taM, lookupM, appM, copyM, clearM, lenD, srcM, srcDV, ev, ofVal, ofVal1, lk, up, upo, binDV, binInt, un, Option.map_some, Option.map_none, Option.bind_some, if_true, if_false, List.getElem?_toArray, List.getElem?_cons_zero, List.getElem?_cons_succ, Bool.true_beq, Bool.false_beq, Bool.not_true, Bool.not_false, Bool.false_eq_true, thenK, blockK, loopK, loopG, slots, reduceCtorEq, decide_true, decide_false, List.map_cons, List.map_nil, and_self, and_true, true_and, Bool.and_self, Nat.zero_add, Nat.add_zero, Nat.mul_one, List.drop_zero, List.take_zero, TD.isAgg, indexAddrDV, fieldAddrDV, loadDV, cellsAt, storeDV, setCells, bi, lenDV, convDV, shiftInt, List.all_cons, List.all_nil, own_get, own_get0, own_set, own_set0, List.append_assoc, List.length_append, Nat.add_assoc, List.set_cons_succ, List.set_cons_zero, List.append_nil, List.drop_succ_cons, List.drop_nil, List.take_succ_cons, List.take_nil, Int.toNat_natCast, DV.cells, DV.full, DV.one, List.length_cons, List.length_nil, List.nil_append, List.cons_append, L3, L4, L5, L22, L24, L25, L27, L28, L64]) | (refine SWops.nil ?_; try simp only [thenK, blockK, loopK, loopG]) | refine SW.seq ?_ | refine SW.block ?_ | (refine SW.ct rfl ?_) | (refine SW.cf rfl ?_) | (refine SW.skip ?_; try simp only [thenK, blockK, loopK, loopG]) | (refine SW.exit ?_; try simp only [thenK, blockK, loopK, loopG, if_true, if_false, Nat.reduceEqDiff]) | (refine SW.ret ?_; try simp only [thenK, blockK, loopK, loopG]))
  refine SWops.callx hP (by rw [hn]; rfl) (alive_ok _) rfl rfl rfl rfl ?_; refine SWops.go hL (by rw [hn]; rfl) ?_; simp (maxSteps := 2000000) only [minDV, maxDV, bsDV, List.range_zero, rng1, rng2, rng3, rng4, Nat.reduceBEq, beq_self_eq_true, Bool.and_true, Bool.true_and, Int.reduceLT, Int.reduceLE, Nat.reduceAdd, Nat.reduceEqDiff, reduceIte, Nat.reduceSub, Nat.reduceLT, Nat.reduceMul, Nat.reduceLeDiff, runTo, gd, Op.plain, sop, sop0, mop, eqM, eqCells, eqCell, indexDV, convM, bstrDV, taM, lookupM, appM, copyM, clearM, lenD, srcM, srcDV, ev, ofVal, ofVal1, lk, up, upo, binDV, binInt, un, Option.map_some, Option.map_none, Option.bind_some, if_true, if_false, List.getElem?_toArray, List.getElem?_cons_zero, List.getElem?_cons_succ, Bool.true_beq, Bool.false_beq, Bool.not_true, Bool.not_false, Bool.false_eq_true, thenK, blockK, loopK, loopG, slots, reduceCtorEq, decide_true, decide_false, List.map_cons, List.map_nil, and_self, and_true, true_and, Bool.and_self, Nat.zero_add, Nat.add_zero, Nat.mul_one, List.drop_zero, List.take_zero, TD.isAgg, indexAddrDV, fieldAddrDV, loadDV, cellsAt, storeDV, setCells, bi, lenDV, convDV, shiftInt, List.all_cons, List.all_nil, own_get, own_get0, own_set, own_set0, List.append_assoc, List.length_append, Nat.add_assoc, List.set_cons_succ, List.set_cons_zero, List.append_nil, List.drop_succ_cons, List.drop_nil, List.take_succ_cons, List.take_nil, Int.toNat_natCast, DV.cells, DV.full, DV.one, List.length_cons, List.length_nil, List.nil_append, List.cons_append, dgo_nil, dgo_cons, DX_eq, pureDo_cons, rst, List.getD_cons_zero, List.getD_cons_succ, List.mem_cons, List.not_mem_nil, or_false, false_or, forall_eq, forall_eq_or_imp, List.isEmpty_cons, List.isEmpty_nil, false_imp_iff, imp_self, implies_true, L3, L4, L5, L22, L24, L25, L27, L28, L64]
  repeat (first | ((first | refine SW.rs hL (by rw [hn]; rfl) ?_ | refine SW.re hL (by rw [hn]; rfl) ?_); simp only [minDV, maxDV, bsDV, List.range_zero, rng1, rng2, rng3, rng4, Nat.reduceBEq, beq_self_eq_true, Bool.and_true, Bool.true_and, Int.reduceLT, Int.reduceLE, Nat.reduceAdd, Nat.reduceEqDiff, reduceIte, Nat.reduceSub, Nat.reduceLT, Nat.reduceMul, Nat.reduceLeDiff, runTo, gd, Op.plain, sop, sop0, mop, eqM, eqCells, eqCell, indexDV, convM, bstrDV, taM, lookupM, appM, copyM, clearM, lenD, srcM, srcDV, ev, ofVal, ofVal1, lk, up, upo, binDV, binInt, un, Option.map_some, Option.map_none, Option.bind_some, if_true, if_false, List.getElem?_toArray, List.getElem?_cons_zero, List.getElem?_cons_succ, Bool.true_beq, Bool.false_beq, Bool.not_true, Bool.not_false, Bool.false_eq_true, thenK, blockK, loopK, loopG, slots, reduceCtorEq, decide_true, decide_false, List.map_cons, List.map_nil, and_self, and_true, true_and, Bool.and_self, Nat.zero_add, Nat.add_zero, Nat.mul_one, List.drop_zero, List.take_zero, TD.isAgg, indexAddrDV, fieldAddrDV, loadDV, cellsAt, storeDV, setCells, bi, lenDV, convDV, shiftInt, List.all_cons, List.all_nil, own_get, own_get0, own_set, own_set0, List.append_assoc, List.length_append, Nat.add_assoc, List.set_cons_succ, List.set_cons_zero, List.append_nil, List.drop_succ_cons, List.drop_nil, List.take_succ_cons, List.take_nil, Int.toNat_natCast, DV.cells, DV.full, DV.one, List.length_cons, List.length_nil, List.nil_append, List.cons_append, L3, L4, L5, L22, L24, L25, L27, L28, L64]) | (refine SWops.nil ?_; try simp only [thenK, blockK, loopK, loopG]) | refine SW.seq ?_ | refine SW.block ?_ | (refine SW.ct rfl ?_) | (refine SW.cf rfl ?_) | (refine SW.skip ?_; try simp only [thenK, blockK, loopK, loopG]) | (refine SW.exit ?_; try simp only [thenK, blockK, loopK, loopG, if_true, if_false, Nat.reduceEqDiff]) | (refine SW.ret ?_; try simp only [thenK, blockK, loopK, loopG]))
  refine SWops.callx hP (by rw [hn]; rfl) (hr) rfl rfl rfl rfl ?_; refine SWops.go hL (by rw [hn]; rfl) ?_; simp (maxSteps := 2000000) only [minDV, maxDV, bsDV, List.range_zero, rng1, rng2, rng3, rng4, Nat.reduceBEq, beq_self_eq_true, Bool.and_true, Bool.true_and, Int.reduceLT, Int.reduceLE, Nat.reduceAdd, Nat.reduceEqDiff, reduceIte, Nat.reduceSub, Nat.reduceLT, Nat.reduceMul, Nat.reduceLeDiff, runTo, gd, Op.plain, sop, sop0, mop, eqM, eqCells, eqCell, indexDV, convM, bstrDV, taM, lookupM, appM, copyM, clearM, lenD, srcM, srcDV, ev, ofVal, ofVal1, lk, up, upo, binDV, binInt, un, Option.map_some, Option.map_none, Option.bind_some, if_true, if_false, List.getElem?_toArray, List.getElem?_cons_zero, List.getElem?_cons_succ, Bool.true_beq, Bool.false_beq, Bool.not_true, Bool.not_false, Bool.false_eq_true, thenK, blockK, loopK, loopG, slots, reduceCtorEq, decide_true, decide_false, List.map_cons, List.map_nil, and_self, and_true, true_and, Bool.and_self, Nat.zero_add, Nat.add_zero, Nat.mul_one, List.drop_zero, List.take_zero, TD.isAgg, indexAddrDV, fieldAddrDV, loadDV, cellsAt, storeDV, setCells, bi, lenDV, convDV, shiftInt, List.all_cons, List.all_nil, own_get, own_get0, own_set, own_set0, List.append_assoc, List.length_append, Nat.add_assoc, List.set_cons_succ, List.set_cons_zero, List.append_nil, List.drop_succ_cons, List.drop_nil, List.take_succ_cons, List.take_nil, Int.toNat_natCast, DV.cells, DV.full, DV.one, List.length_cons, List.length_nil, List.nil_append, List.cons_append, dgo_nil, dgo_cons, DX_eq, pureDo_cons, rst, List.getD_cons_zero, List.getD_cons_succ, List.mem_cons, List.not_mem_nil, or_false, false_or, forall_eq, forall_eq_or_imp, List.isEmpty_cons, List.isEmpty_nil, false_imp_iff, imp_self, implies_true, L3, L4, L5, L22, L24, L25, L27, L28, L64, List.nil_append]
  repeat (first | ((first | refine SW.rs hL (by rw [hn]; rfl) ?_ | refine SW.re hL (by rw [hn]; rfl) ?_); simp only [minDV, maxDV, bsDV, List.range_zero, rng1, rng2, rng3, rng4, Nat.reduceBEq, beq_self_eq_true, Bool.and_true, Bool.true_and, Int.reduceLT, Int.reduceLE, Nat.reduceAdd, Nat.reduceEqDiff, reduceIte, Nat.reduceSub, Nat.reduceLT, Nat.reduceMul, Nat.reduceLeDiff, runTo, gd, Op.plain, sop, sop0, mop, eqM, eqCells, eqCell, indexDV, convM, bstrDV, taM, lookupM, appM, copyM, clearM, lenD, srcM, srcDV, ev, ofVal, ofVal1, lk, up, upo, binDV, binInt, un, Option.map_some, Option.map_none, Option.bind_some, if_true, if_false, List.getElem?_toArray, List.getElem?_cons_zero, List.getElem?_cons_succ, Bool.true_beq, Bool.false_beq, Bool.not_true, Bool.not_false, Bool.false_eq_true, thenK, blockK, loopK, loopG, slots, reduceCtorEq, decide_true, decide_false, List.map_cons, List.map_nil, and_self, and_true, true_and, Bool.and_self, Nat.zero_add, Nat.add_zero, Nat.mul_one, List.drop_zero, List.take_zero, TD.isAgg, indexAddrDV, fieldAddrDV, loadDV, cellsAt, storeDV, setCells, bi, lenDV, convDV, shiftInt, List.all_cons, List.all_nil, own_get, own_get0, own_set, own_set0, List.append_assoc, List.length_append, Nat.add_assoc, List.set_cons_succ, List.set_cons_zero, List.append_nil, List.drop_succ_cons, List.drop_nil, List.take_succ_cons, List.take_nil, Int.toNat_natCast, DV.cells, DV.full, DV.one, List.length_cons, List.length_nil, List.nil_append, List.cons_append, L3, L4, L5, L22, L24, L25, L27, L28, L64, List.length_map, e1, List.nil_append]) | (refine SWops.nil ?_; try simp only [thenK, blockK, loopK, loopG]) | refine SW.seq ?_ | refine SW.block ?_ | (refine SW.ct rfl ?_) | (refine SW.cf rfl ?_) | (refine SW.skip ?_; try simp only [thenK, blockK, loopK, loopG]) | (refine SW.exit ?_; try simp only [thenK, blockK, loopK, loopG, if_true, if_false, Nat.reduceEqDiff]) | (refine SW.ret ?_; try simp only [thenK, blockK, loopK, loopG]))
  exact ⟨_, _, _, Ghost.refl _ _, rfl, GhostV.refl _ _ _, rfl⟩
end Go.VL
end
section
set_option linter.unusedSimpArgs false
set_option linter.unusedVariables false
set_option maxRecDepth 10000
namespace Go.VL
open Go Go.Proofs

theorem copyBytes_ok (c : Nat) (bs : List UInt8) (σ : List Ob) (h0 : 0 < bs.length) (h : bs.length ≤ 140737488355328) :
    Ok Tryz.prog 10 [.vec c 1 (bs.map eB)] σ (.ret (.sl σ.length bs.length 0 bs.length)) (σ ++ [.arr 5 1 (bs.map eB)]) := by
  refine Ok.of_body layOk Tryz.func10 rfl (by decide) (by simp [Tryz.ntmps10]) fun C hP hn hσ hfix hdd => ?_
  rw [show Tryz.f10.ntmps = 7 from rfl] at hn
  have hL : LayOk C.P L := hP ▸ layOk
  have hm : C.P.follows .mixedOrders = true := hP ▸ mixed
  have a1 := all_eB bs
  simp only [DV.cells] at a1
  have n0 : (bs.length = 0) = False := eq_false (by omega)
  repeat (first | ((first | refine SW.rs hL (by rw [hn]; rfl) ?_ | refine SW.re hL (by rw [hn]; rfl) ?_); simp only [minDV, maxDV, bsDV, List.range_zero, rng1, rng2, rng3, rng4, Nat.reduceBEq, beq_self_eq_true, Bool.and_true, Bool.true_and, Int.reduceLT, Int.reduceLE, Nat.reduceAdd, Nat.reduceEqDiff, reduceIte, Nat.reduceSub, Nat.reduceLT, Nat.reduceMul, Nat.reduceLeDiff, runTo, gd, Op.plain, sop, sop0, mop, eqM, eqCells, eqCell, indexDV, convM, bstrDV, taM, lookupM, appM, copyM, clearM, lenD, srcM, srcDV, ev, ofVal, ofVal1, lk, up, upo, binDV, binInt, un, Option.map_some, Option.map_none, Option.bind_some, if_true, if_false, List.getElem?_toArray, List.getElem?_cons_zero, List.getElem?_cons_succ, Bool.true_beq, Bool.false_beq, Bool.not_true, Bool.not_false, Bool.false_eq_true, thenK, blockK, loopK, loopG, slots, reduceCtorEq, decide_true, decide_false, List.map_cons, List.map_nil, and_self, and_true, true_and, Bool.and_self, Nat.zero_add, Nat.add_zero, Nat.mul_one, List.drop_zero, List.take_zero, TD.isAgg, indexAddrDV, fieldAddrDV, loadDV, cellsAt, storeDV, setCells, bi, lenDV, convDV, shiftInt, List.all_cons, List.all_nil, own_get, own_get0, own_set, own_set0, List.append_assoc, List.length_append, Nat.add_assoc, List.set_cons_succ, List.set_cons_zero, List.append_nil, List.drop_succ_cons, List.drop_nil, List.take_succ_cons, List.take_nil, Int.toNat_natCast, DV.cells, DV.full, DV.one, List.length_cons, List.length_nil, List.nil_append, List.cons_append, L5, L22, appDV, List.length_map, a1, n0, h]) | (refine SWops.nil ?_; try simp only [thenK, blockK, loopK, loopG]) | refine SW.seq ?_ | refine SW.block ?_ | (refine SW.ct rfl ?_) | (refine SW.cf rfl ?_) | (refine SW.skip ?_; try simp only [thenK, blockK, loopK, loopG]) | (refine SW.exit ?_; try simp only [thenK, blockK, loopK, loopG, if_true, if_false, Nat.reduceEqDiff]) | (refine SW.ret ?_; try simp only [thenK, blockK, loopK, loopG]))
  exact ⟨_, _, _, Ghost.refl _ _, rfl, GhostV.refl _ _ _, rfl⟩
def notB (b : UInt8) : UInt8 := UInt8.ofNat (255 - b.toNat)
theorem bits_not : ∀ n : _root_.Fin 256, bits .u8 .xor 255 (n.val : Int) = ((255 - n.val : Nat) : Int) := by decide
theorem notB_eq (b : UInt8) : bits .u8 .xor 255 (b.toNat : Int) = ((notB b).toNat : Int) := by
  have := bits_not ⟨b.toNat, b.toNat_lt⟩
  rw [this]
  unfold notB
  simp only [UInt8.toNat_ofNat']
  have := b.toNat_lt
  omega
theorem set_id {α : Type} {l : List α} {i : Nat} {x : α} (h : l[i]? = some x) : l.set i x = l := by
  apply List.ext_getElem?
  intro j
  rw [List.getElem?_set]
  split
  · rename_i e
    subst e
    rw [if_pos (lt_of_get h), h]
  · rfl
theorem spoil_ok (m : Nat) (bs : List UInt8) (σ : List Ob) (h : bs.length ≤ 140737488355328) (hx : σ[m]? = some (.arr 5 1 (bs.map eB))) :
    Ok Tryz.prog 11 [.sl m bs.length 0 bs.length] σ (.ret (.tup [])) (σ.set m (.arr 5 1 ((bs.map notB).map eB))) := by
  refine Ok.of_body layOk Tryz.func11 rfl (by decide) (by simp [Tryz.ntmps11]) fun C hP hn hσ hfix hdd => ?_
  rw [show Tryz.f11.ntmps = 17 from rfl] at hn
  have hL : LayOk C.P L := hP ▸ layOk
  have hm : C.P.follows .mixedOrders = true := hP ▸ mixed
  repeat (first | ((first | refine SW.rs hL (by rw [hn]; rfl) ?_ | refine SW.re hL (by rw [hn]; rfl) ?_); simp only [minDV, maxDV, bsDV, List.range_zero, rng1, rng2, rng3, rng4, Nat.reduceBEq, beq_self_eq_true, Bool.and_true, Bool.true_and, Int.reduceLT, Int.reduceLE, Nat.reduceAdd, Nat.reduceEqDiff, reduceIte, Nat.reduceSub, Nat.reduceLT, Nat.reduceMul, Nat.reduceLeDiff, runTo, gd, Op.plain, sop, sop0, mop, eqM, eqCells, eqCell, indexDV, convM, bstrDV, taM, lookupM, appM, copyM, clearM, lenD, srcM, srcDV, ev, ofVal, ofVal1, lk, up, upo, binDV, binInt, un, Option.map_some, Option.map_none, Option.bind_some, if_true, if_false, List.getElem?_toArray, List.getElem?_cons_zero, List.getElem?_cons_succ, Bool.true_beq, Bool.false_beq, Bool.not_true, Bool.not_false, Bool.false_eq_true, thenK, blockK, loopK, loopG, slots, reduceCtorEq, decide_true, decide_false, List.map_cons, List.map_nil, and_self, and_true, true_and, Bool.and_self, Nat.zero_add, Nat.add_zero, Nat.mul_one, List.drop_zero, List.take_zero, TD.isAgg, indexAddrDV, fieldAddrDV, loadDV, cellsAt, storeDV, setCells, bi, lenDV, convDV, shiftInt, List.all_cons, List.all_nil, own_get, own_get0, own_set, own_set0, List.append_assoc, List.length_append, Nat.add_assoc, List.set_cons_succ, List.set_cons_zero, List.append_nil, List.drop_succ_cons, List.drop_nil, List.take_succ_cons, List.take_nil, Int.toNat_natCast, DV.cells, DV.full, DV.one, List.length_cons, List.length_nil, List.nil_append, List.cons_append, L3, L5, L22]) | (refine SWops.nil ?_; try simp only [thenK, blockK, loopK, loopG]) | refine SW.seq ?_ | refine SW.block ?_ | (refine SW.ct rfl ?_) | (refine SW.cf rfl ?_) | (refine SW.skip ?_; try simp only [thenK, blockK, loopK, loopG]) | (refine SW.exit ?_; try simp only [thenK, blockK, loopK, loopG, if_true, if_false, Nat.reduceEqDiff]) | (refine SW.ret ?_; try simp only [thenK, blockK, loopK, loopG]))
  refine SW.lpg (fun k : Nat => ⟨[(0, .sl m bs.length 0 bs.length), (2, .int .i64 k)], σ.set m (.arr 5 1 (((bs.take k).map notB ++ bs.drop k).map eB))⟩) (fun k => bs.length - k) (fun k => k ≤ bs.length) 0 (by omega) (.of (by simpa using set_id hx) ⟨rfl, rfl, trivial⟩) ?_
  intro k hk
  have hml := lt_of_get hx
  have g : ∀ x : Ob, (σ.set m x)[m]? = some x := fun x => by rw [List.getElem?_set, if_pos rfl, if_pos hml]
  have gs : ∀ x y : Ob, (σ.set m x).set m y = σ.set m y := fun x y => by simp
  by_cases hlt : k < bs.length
  · have e1 : decide ((k : Int) < (bs.length : Int)) = true := decide_eq_true (by omega)
    have e2 : (0 ≤ (k : Int) ∧ (k : Int) < (bs.length : Int)) := by omega
    have w1 : IntKind.i64.wrap ((k : Int) + 1) = ((k + 1 : Nat) : Int) := wi (by omega) (by omega)
    have hl : (((bs.take k).map notB ++ bs.drop k).map eB).length = bs.length := by simp; omega
    have hg : (((bs.take k).map notB ++ bs.drop k).map eB)[k]? = some (eB bs[k]) := by
      rw [List.getElem?_map, List.getElem?_append_right (by simp; omega)]
      simp [List.getElem?_drop, Nat.min_eq_left (Nat.le_of_lt hlt), hlt]
    obtain ⟨Y, hY⟩ : ∃ Y, Y = ((bs.take k).map notB ++ bs.drop k).map eB := ⟨_, rfl⟩
    rw [← hY] at hl hg
    have hs : Y.set k (.int .u8 ((notB bs[k]).toNat : Int)) = ((bs.take (k + 1)).map notB ++ bs.drop (k + 1)).map eB := by
      rw [hY]
      apply List.ext_getElem?
      intro j
      rw [List.getElem?_set]
      have hl2 : (((bs.take k).map notB ++ bs.drop k).map eB).length = bs.length := by simp; omega
      by_cases hj : k = j
      · subst hj
        rw [if_pos rfl, if_pos (by omega), List.getElem?_map, List.getElem?_append_left (by simp; omega)]
        simp [hlt, eB]
      · rw [if_neg hj, List.getElem?_map, List.getElem?_map]
        congr 1
        rcases Nat.lt_or_ge j k with h' | h'
        · rw [List.getElem?_append_left (by simp; omega), List.getElem?_append_left (by simp; omega)]
          simp [List.getElem?_take, h', show j < k + 1 by omega]
        · rw [List.getElem?_append_right (by simp; omega), List.getElem?_append_right (by simp; omega)]
          simp only [List.length_map, List.length_take, List.getElem?_drop]
          congr 1
          omega
    have nb := notB_eq bs[k]
    have mx : IntKind.u8.max = 255 := rfl
    have sg : IntKind.u8.signed = false := rfl
    rw [← hY]
    simp only [eB] at hg
    repeat (first | ((first | refine SW.rs hL (by rw [hn]; rfl) ?_ | refine SW.re hL (by rw [hn]; rfl) ?_); simp only [minDV, maxDV, bsDV, List.range_zero, rng1, rng2, rng3, rng4, Nat.reduceBEq, beq_self_eq_true, Bool.and_true, Bool.true_and, Int.reduceLT, Int.reduceLE, Nat.reduceAdd, Nat.reduceEqDiff, reduceIte, Nat.reduceSub, Nat.reduceLT, Nat.reduceMul, Nat.reduceLeDiff, runTo, gd, Op.plain, sop, sop0, mop, eqM, eqCells, eqCell, indexDV, convM, bstrDV, taM, lookupM, appM, copyM, clearM, lenD, srcM, srcDV, ev, ofVal, ofVal1, lk, up, upo, binDV, binInt, un, Option.map_some, Option.map_none, Option.bind_some, if_true, if_false, List.getElem?_toArray, List.getElem?_cons_zero, List.getElem?_cons_succ, Bool.true_beq, Bool.false_beq, Bool.not_true, Bool.not_false, Bool.false_eq_true, thenK, blockK, loopK, loopG, slots, reduceCtorEq, decide_true, decide_false, List.map_cons, List.map_nil, and_self, and_true, true_and, Bool.and_self, Nat.zero_add, Nat.add_zero, Nat.mul_one, List.drop_zero, List.take_zero, TD.isAgg, indexAddrDV, fieldAddrDV, loadDV, cellsAt, storeDV, setCells, bi, lenDV, convDV, shiftInt, List.all_cons, List.all_nil, own_get, own_get0, own_set, own_set0, List.append_assoc, List.length_append, Nat.add_assoc, List.set_cons_succ, List.set_cons_zero, List.append_nil, List.drop_succ_cons, List.drop_nil, List.take_succ_cons, List.take_nil, Int.toNat_natCast, DV.cells, DV.full, DV.one, List.length_cons, List.length_nil, List.nil_append, List.cons_append, L3, L5, L22, e1, e2, g, gs, hl, hg, nb, mx, sg, w1]) | (refine SWops.nil ?_; try simp only [thenK, blockK, loopK, loopG]) | refine SW.seq ?_ | refine SW.block ?_ | (refine SW.ct rfl ?_) | (refine SW.cf rfl ?_) | (refine SW.skip ?_; try simp only [thenK, blockK, loopK, loopG]) | (refine SW.exit ?_; try simp only [thenK, blockK, loopK, loopG, if_true, if_false, Nat.reduceEqDiff]) | (refine SW.ret ?_; try simp only [thenK, blockK, loopK, loopG]))
    exact Lp.nextg (k + 1) (by omega) (by omega) (.of (by rw [← hs]; rfl) ⟨rfl, rfl, trivial⟩)
  · have e1 : decide ((k : Int) < (bs.length : Int)) = false := decide_eq_false (by omega)
    obtain rfl : k = bs.length := by omega
    repeat (first | ((first | refine SW.rs hL (by rw [hn]; rfl) ?_ | refine SW.re hL (by rw [hn]; rfl) ?_); simp only [minDV, maxDV, bsDV, List.range_zero, rng1, rng2, rng3, rng4, Nat.reduceBEq, beq_self_eq_true, Bool.and_true, Bool.true_and, Int.reduceLT, Int.reduceLE, Nat.reduceAdd, Nat.reduceEqDiff, reduceIte, Nat.reduceSub, Nat.reduceLT, Nat.reduceMul, Nat.reduceLeDiff, runTo, gd, Op.plain, sop, sop0, mop, eqM, eqCells, eqCell, indexDV, convM, bstrDV, taM, lookupM, appM, copyM, clearM, lenD, srcM, srcDV, ev, ofVal, ofVal1, lk, up, upo, binDV, binInt, un, Option.map_some, Option.map_none, Option.bind_some, if_true, if_false, List.getElem?_toArray, List.getElem?_cons_zero, List.getElem?_cons_succ, Bool.true_beq, Bool.false_beq, Bool.not_true, Bool.not_false, Bool.false_eq_true, thenK, blockK, loopK, loopG, slots, reduceCtorEq, decide_true, decide_false, List.map_cons, List.map_nil, and_self, and_true, true_and, Bool.and_self, Nat.zero_add, Nat.add_zero, Nat.mul_one, List.drop_zero, List.take_zero, TD.isAgg, indexAddrDV, fieldAddrDV, loadDV, cellsAt, storeDV, setCells, bi, lenDV, convDV, shiftInt, List.all_cons, List.all_nil, own_get, own_get0, own_set, own_set0, List.append_assoc, List.length_append, Nat.add_assoc, List.set_cons_succ, List.set_cons_zero, List.append_nil, List.drop_succ_cons, List.drop_nil, List.take_succ_cons, List.take_nil, Int.toNat_natCast, DV.cells, DV.full, DV.one, List.length_cons, List.length_nil, List.nil_append, List.cons_append, L3, L5, L22, e1]) | (refine SWops.nil ?_; try simp only [thenK, blockK, loopK, loopG]) | refine SW.seq ?_ | refine SW.block ?_ | (refine SW.ct rfl ?_) | (refine SW.cf rfl ?_) | (refine SW.skip ?_; try simp only [thenK, blockK, loopK, loopG]) | (refine SW.exit ?_; try simp only [thenK, blockK, loopK, loopG, if_true, if_false, Nat.reduceEqDiff]) | (refine SW.ret ?_; try simp only [thenK, blockK, loopK, loopG]))
    rw [List.take_length, List.drop_length, List.append_nil]
    exact ⟨_, _, _, Ghost.refl _ _, rfl, GhostV.refl _ _ _, rfl⟩

/-- The first k sectors spoilt. -/
def spoilN (f : Nat → Nat) (B : Nat → List UInt8) (σ : List Ob) : Nat → List Ob
  | 0 => σ
  | k + 1 => (spoilN f B σ k).set (f k) (.arr 5 1 (((B k).map notB).map eB))
theorem spoilN_get (f : Nat → Nat) (B : Nat → List UInt8) (σ : List Ob) (i : Nat) : ∀ k, (∀ j, j < k → f j ≠ i) → (spoilN f B σ k)[i]? = σ[i]?
  | 0, _ => rfl
  | k + 1, h => by
    rw [spoilN, List.getElem?_set, if_neg (h k (by omega))]
    exact spoilN_get f B σ i k fun j hj => h j (by omega)
theorem spoilList_ok (f : Nat → Nat) (B : Nat → List UInt8) (n l : Nat) (σ : List Ob) (hn0 : n ≤ 65536) (hl : σ[l]? = some (.arr 22 1 (secs f n))) (hB : ∀ j, j < n → (B j).length = 64 ∧ σ[f j]? = some (.arr 5 1 ((B j).map eB)))
    (hi : ∀ i j, i < n → j < n → f i = f j → i = j) (hf : ∀ j, j < n → f j ≠ l) :
    Ok Tryz.prog 12 [.sl l n 0 n] σ (.ret (.tup [])) (spoilN f B σ n) := by
  refine Ok.of_body layOk Tryz.func12 rfl (by decide) (by simp [Tryz.ntmps12]) fun C hP hn hσ hfix hdd => ?_
  rw [show Tryz.f12.ntmps = 14 from rfl] at hn
  have hL : LayOk C.P L := hP ▸ layOk
  have hm : C.P.follows .mixedOrders = true := hP ▸ mixed
  repeat (first | ((first | refine SW.rs hL (by rw [hn]; rfl) ?_ | refine SW.re hL (by rw [hn]; rfl) ?_); simp only [minDV, maxDV, bsDV, List.range_zero, rng1, rng2, rng3, rng4, Nat.reduceBEq, beq_self_eq_true, Bool.and_true, Bool.true_and, Int.reduceLT, Int.reduceLE, Nat.reduceAdd, Nat.reduceEqDiff, reduceIte, Nat.reduceSub, Nat.reduceLT, Nat.reduceMul, Nat.reduceLeDiff, runTo, gd, Op.plain, sop, sop0, mop, eqM, eqCells, eqCell, indexDV, convM, bstrDV, taM, lookupM, appM, copyM, clearM, lenD, srcM, srcDV, ev, ofVal, ofVal1, lk, up, upo, binDV, binInt, un, Option.map_some, Option.map_none, Option.bind_some, if_true, if_false, List.getElem?_toArray, List.getElem?_cons_zero, List.getElem?_cons_succ, Bool.true_beq, Bool.false_beq, Bool.not_true, Bool.not_false, Bool.false_eq_true, thenK, blockK, loopK, loopG, slots, reduceCtorEq, decide_true, decide_false, List.map_cons, List.map_nil, and_self, and_true, true_and, Bool.and_self, Nat.zero_add, Nat.add_zero, Nat.mul_one, List.drop_zero, List.take_zero, TD.isAgg, indexAddrDV, fieldAddrDV, loadDV, cellsAt, storeDV, setCells, bi, lenDV, convDV, shiftInt, List.all_cons, List.all_nil, own_get, own_get0, own_set, own_set0, List.append_assoc, List.length_append, Nat.add_assoc, List.set_cons_succ, List.set_cons_zero, List.append_nil, List.drop_succ_cons, List.drop_nil, List.take_succ_cons, List.take_nil, Int.toNat_natCast, DV.cells, DV.full, DV.one, List.length_cons, List.length_nil, List.nil_append, List.cons_append, L3, L5, L22, L24]) | (refine SWops.nil ?_; try simp only [thenK, blockK, loopK, loopG]) | refine SW.seq ?_ | refine SW.block ?_ | (refine SW.ct rfl ?_) | (refine SW.cf rfl ?_) | (refine SW.skip ?_; try simp only [thenK, blockK, loopK, loopG]) | (refine SW.exit ?_; try simp only [thenK, blockK, loopK, loopG, if_true, if_false, Nat.reduceEqDiff]) | (refine SW.ret ?_; try simp only [thenK, blockK, loopK, loopG]))
  refine SW.lpg (fun k : Nat => ⟨[(0, .sl l n 0 n), (2, .int .i64 k)], spoilN f B σ k⟩) (fun k => n - k) (fun k => k ≤ n) 0 (by omega) (.of rfl ⟨rfl, rfl, trivial⟩) ?_
  intro k hk
  by_cases hlt : k < n
  · have e1 : decide ((k : Int) < (n : Int)) = true := decide_eq_true (by omega)
    have e2 : (0 ≤ (k : Int) ∧ (k : Int) < (n : Int)) := by omega
    have e3 := secs_get f hlt
    have e4 := secs_length f n
    have w1 : IntKind.i64.wrap ((k : Int) + 1) = ((k + 1 : Nat) : Int) := wi (by omega) (by omega)
    have g1 : (spoilN f B σ k)[l]? = some (.arr 22 1 (secs f n)) := (spoilN_get f B σ l k fun j hj => hf j (by omega)).trans hl
    have g2 : (spoilN f B σ k)[f k]? = some (.arr 5 1 ((B k).map eB)) := (spoilN_get f B σ (f k) k fun j hj e => by have := hi j k (by omega) hlt e; omega).trans (hB k hlt).2
    have hb := (hB k hlt).1
    repeat (first | ((first | refine SW.rs hL (by rw [hn]; rfl) ?_ | refine SW.re hL (by rw [hn]; rfl) ?_); simp only [minDV, maxDV, bsDV, List.range_zero, rng1, rng2, rng3, rng4, Nat.reduceBEq, beq_self_eq_true, Bool.and_true, Bool.true_and, Int.reduceLT, Int.reduceLE, Nat.reduceAdd, Nat.reduceEqDiff, reduceIte, Nat.reduceSub, Nat.reduceLT, Nat.reduceMul, Nat.reduceLeDiff, runTo, gd, Op.plain, sop, sop0, mop, eqM, eqCells, eqCell, indexDV, convM, bstrDV, taM, lookupM, appM, copyM, clearM, lenD, srcM, srcDV, ev, ofVal, ofVal1, lk, up, upo, binDV, binInt, un, Option.map_some, Option.map_none, Option.bind_some, if_true, if_false, List.getElem?_toArray, List.getElem?_cons_zero, List.getElem?_cons_succ, Bool.true_beq, Bool.false_beq, Bool.not_true, Bool.not_false, Bool.false_eq_true, thenK, blockK, loopK, loopG, slots, reduceCtorEq, decide_true, decide_false, List.map_cons, List.map_nil, and_self, and_true, true_and, Bool.and_self, Nat.zero_add, Nat.add_zero, Nat.mul_one, List.drop_zero, List.take_zero, TD.isAgg, indexAddrDV, fieldAddrDV, loadDV, cellsAt, storeDV, setCells, bi, lenDV, convDV, shiftInt, List.all_cons, List.all_nil, own_get, own_get0, own_set, own_set0, List.append_assoc, List.length_append, Nat.add_assoc, List.set_cons_succ, List.set_cons_zero, List.append_nil, List.drop_succ_cons, List.drop_nil, List.take_succ_cons, List.take_nil, Int.toNat_natCast, DV.cells, DV.full, DV.one, List.length_cons, List.length_nil, List.nil_append, List.cons_append, L3, L5, L22, L24, e1, g1, e2, e3, e4]) | (refine SWops.nil ?_; try simp only [thenK, blockK, loopK, loopG]) | refine SW.seq ?_ | refine SW.block ?_ | (refine SW.ct rfl ?_) | (refine SW.cf rfl ?_) | (refine SW.skip ?_; try simp only [thenK, blockK, loopK, loopG]) | (refine SW.exit ?_; try simp only [thenK, blockK, loopK, loopG, if_true, if_false, Nat.reduceEqDiff]) | (refine SW.ret ?_; try simp only [thenK, blockK, loopK, loopG]))
    have hsp := spoil_ok (f k) (B k) (spoilN f B σ k) (by omega) g2
    rw [hb] at hsp
    refine SWops.callx hP (by rw [hn]; rfl) (hsp) rfl rfl rfl rfl ?_; refine SWops.go hL (by rw [hn]; rfl) ?_; simp (maxSteps := 2000000) only [minDV, maxDV, bsDV, List.range_zero, rng1, rng2, rng3, rng4, Nat.reduceBEq, beq_self_eq_true, Bool.and_true, Bool.true_and, Int.reduceLT, Int.reduceLE, Nat.reduceAdd, Nat.reduceEqDiff, reduceIte, Nat.reduceSub, Nat.reduceLT, Nat.reduceMul, Nat.reduceLeDiff, runTo, gd, Op.plain, sop, sop0, mop, eqM, eqCells, eqCell, indexDV, convM, bstrDV, taM, lookupM, appM, copyM, clearM, lenD, srcM, srcDV, ev, ofVal, ofVal1, lk, up, upo, binDV, binInt, un, Option.map_some, Option.map_none, Option.bind_some, if_true, if_false, List.getElem?_toArray, List.getElem?_cons_zero, List.getElem?_cons_succ, Bool.true_beq, Bool.false_beq, Bool.not_true, Bool.not_false, Bool.false_eq_true, thenK, blockK, loopK, loopG, slots, reduceCtorEq, decide_true, decide_false, List.map_cons, List.map_nil, and_self, and_true, true_and, Bool.and_self, Nat.zero_add, Nat.add_zero, Nat.mul_one, List.drop_zero, List.take_zero, TD.isAgg, indexAddrDV, fieldAddrDV, loadDV, cellsAt, storeDV, setCells, bi, lenDV, convDV, shiftInt, List.all_cons, List.all_nil, own_get, own_get0, own_set, own_set0, List.append_assoc, List.length_append, Nat.add_assoc, List.set_cons_succ, List.set_cons_zero, List.append_nil, List.drop_succ_cons, List.drop_nil, List.take_succ_cons, List.take_nil, Int.toNat_natCast, DV.cells, DV.full, DV.one, List.length_cons, List.length_nil, List.nil_append, List.cons_append, dgo_nil, dgo_cons, DX_eq, pureDo_cons, rst, List.getD_cons_zero, List.getD_cons_succ, List.mem_cons, List.not_mem_nil, or_false, false_or, forall_eq, forall_eq_or_imp, List.isEmpty_cons, List.isEmpty_nil, false_imp_iff, imp_self, implies_true, L3, L5, L22, L24]
    repeat (first | ((first | refine SW.rs hL (by rw [hn]; rfl) ?_ | refine SW.re hL (by rw [hn]; rfl) ?_); simp only [minDV, maxDV, bsDV, List.range_zero, rng1, rng2, rng3, rng4, Nat.reduceBEq, beq_self_eq_true, Bool.and_true, Bool.true_and, Int.reduceLT, Int.reduceLE, Nat.reduceAdd, Nat.reduceEqDiff, reduceIte, Nat.reduceSub, Nat.reduceLT, Nat.reduceMul, Nat.reduceLeDiff, runTo, gd, Op.plain, sop, sop0, mop, eqM, eqCells, eqCell, indexDV, convM, bstrDV, taM, lookupM, appM, copyM, clearM, lenD, srcM, srcDV, ev, ofVal, ofVal1, lk, up, upo, binDV, binInt, un, Option.map_some, Option.map_none, Option.bind_some, if_true, if_false, List.getElem?_toArray, List.getElem?_cons_zero, List.getElem?_cons_succ, Bool.true_beq, Bool.false_beq, Bool.not_true, Bool.not_false, Bool.false_eq_true, thenK, blockK, loopK, loopG, slots, reduceCtorEq, decide_true, decide_false, List.map_cons, List.map_nil, and_self, and_true, true_and, Bool.and_self, Nat.zero_add, Nat.add_zero, Nat.mul_one, List.drop_zero, List.take_zero, TD.isAgg, indexAddrDV, fieldAddrDV, loadDV, cellsAt, storeDV, setCells, bi, lenDV, convDV, shiftInt, List.all_cons, List.all_nil, own_get, own_get0, own_set, own_set0, List.append_assoc, List.length_append, Nat.add_assoc, List.set_cons_succ, List.set_cons_zero, List.append_nil, List.drop_succ_cons, List.drop_nil, List.take_succ_cons, List.take_nil, Int.toNat_natCast, DV.cells, DV.full, DV.one, List.length_cons, List.length_nil, List.nil_append, List.cons_append, L3, L5, L22, L24, w1]) | (refine SWops.nil ?_; try simp only [thenK, blockK, loopK, loopG]) | refine SW.seq ?_ | refine SW.block ?_ | (refine SW.ct rfl ?_) | (refine SW.cf rfl ?_) | (refine SW.skip ?_; try simp only [thenK, blockK, loopK, loopG]) | (refine SW.exit ?_; try simp only [thenK, blockK, loopK, loopG, if_true, if_false, Nat.reduceEqDiff]) | (refine SW.ret ?_; try simp only [thenK, blockK, loopK, loopG]))
    exact Lp.nextg (k + 1) (by omega) (by omega) (.of rfl ⟨rfl, rfl, trivial⟩)
  · have e1 : decide ((k : Int) < (n : Int)) = false := decide_eq_false (by omega)
    obtain rfl : k = n := by omega
    repeat (first | ((first | refine SW.rs hL (by rw [hn]; rfl) ?_ | refine SW.re hL (by rw [hn]; rfl) ?_); simp only [minDV, maxDV, bsDV, List.range_zero, rng1, rng2, rng3, rng4, Nat.reduceBEq, beq_self_eq_true, Bool.and_true, Bool.true_and, Int.reduceLT, Int.reduceLE, Nat.reduceAdd, Nat.reduceEqDiff, reduceIte, Nat.reduceSub, Nat.reduceLT, Nat.reduceMul, Nat.reduceLeDiff, runTo, gd, Op.plain, sop, sop0, mop, eqM, eqCells, eqCell, indexDV, convM, bstrDV, taM, lookupM, appM, copyM, clearM, lenD, srcM, srcDV, ev, ofVal, ofVal1, lk, up, upo, binDV, binInt, un, Option.map_some, Option.map_none, Option.bind_some, if_true, if_false, List.getElem?_toArray, List.getElem?_cons_zero, List.getElem?_cons_succ, Bool.true_beq, Bool.false_beq, Bool.not_true, Bool.not_false, Bool.false_eq_true, thenK, blockK, loopK, loopG, slots, reduceCtorEq, decide_true, decide_false, List.map_cons, List.map_nil, and_self, and_true, true_and, Bool.and_self, Nat.zero_add, Nat.add_zero, Nat.mul_one, List.drop_zero, List.take_zero, TD.isAgg, indexAddrDV, fieldAddrDV, loadDV, cellsAt, storeDV, setCells, bi, lenDV, convDV, shiftInt, List.all_cons, List.all_nil, own_get, own_get0, own_set, own_set0, List.append_assoc, List.length_append, Nat.add_assoc, List.set_cons_succ, List.set_cons_zero, List.append_nil, List.drop_succ_cons, List.drop_nil, List.take_succ_cons, List.take_nil, Int.toNat_natCast, DV.cells, DV.full, DV.one, List.length_cons, List.length_nil, List.nil_append, List.cons_append, L3, L5, L22, L24, e1]) | (refine SWops.nil ?_; try simp only [thenK, blockK, loopK, loopG]) | refine SW.seq ?_ | refine SW.block ?_ | (refine SW.ct rfl ?_) | (refine SW.cf rfl ?_) | (refine SW.skip ?_; try simp only [thenK, blockK, loopK, loopG]) | (refine SW.exit ?_; try simp only [thenK, blockK, loopK, loopG, if_true, if_false, Nat.reduceEqDiff]) | (refine SW.ret ?_; try simp only [thenK, blockK, loopK, loopG]))
    exact ⟨_, _, _, Ghost.refl _ _, rfl, GhostV.refl _ _ _, rfl⟩
end Go.VL
end
section
set_option linter.unusedSimpArgs false
set_option linter.unusedVariables false
set_option maxRecDepth 100000
namespace Go.VL
open Go Go.Proofs

def ownK (id : Nat) : Prop := id = 3 ∨ id = 5 ∨ id = 6
/-- What lies there behind check.Raw of an object that lies alone. -/
def ownHead (bs : List UInt8) (n : Nat) : List Ob :=
  [.arr 5 1 (bs.map eB), .arr 27 3 [.agg [.sl 9 (n + 1) 0 (n + 1), .nils, .int .i64 65536]], .arr 27 3 [.agg [.sl 9 (n + 1) 0 (n + 1), .nils, .int .i64 65536]], .dead, .arr 3 1 [.int .i64 64], .dead, .dead, secOb bs 0, bldOb 1 0, .arr 22 1 (secs (fId 1) (n + 1))]
def ownTail (bs : List UInt8) (n : Nat) : List Ob := (List.range n).flatMap fun i => [secOb bs (i + 1), bldOb 1 (i + 1)]
theorem int_of (l : List UInt8) : ∀ x ∈ l.map eB, ∃ k n, x = DV.int k n := by
  intro x hx
  obtain ⟨b, _, rfl⟩ := List.mem_map.1 hx
  exact ⟨_, _, rfl⟩
theorem cl_eB {c : Nat} {K : Nat → Prop} (l : List UInt8) : ∀ x ∈ l.map eB, Cl c K x := by
  intro x hx
  obtain ⟨k, n, rfl⟩ := int_of l x hx
  exact .int
theorem fId_ge (j : Nat) : fId 1 j = 7 ∨ (0 < j ∧ fId 1 j = 2 * j + 8) := by
  unfold fId
  split
  · exact .inl rfl
  · exact .inr ⟨by omega, by omega⟩
theorem fId_notK (j : Nat) : ¬ ownK (fId 1 j) := by
  unfold ownK
  rcases fId_ge j with h | ⟨h1, h2⟩ <;> omega
theorem own_clean (bs : List UInt8) (n : Nat) : ∀ id, ¬ ownK id → id ≠ 0 → ∀ x, (ownHead bs n ++ ownTail bs n)[id]? = some x → (∃ t k ys, x = Ob.arr t k ys ∧ ∀ y ∈ ys, Cl 1 ownK y) := by
  intro id hK h0 x hx
  have c9 : ¬ ownK 9 := by unfold ownK; omega
  have cA : ∀ y ∈ [DV.agg [.sl 9 (n + 1) 0 (n + 1), .nils, .int .i64 65536]], Cl 1 ownK y := by
    intro y hy
    rw [List.mem_singleton.1 hy]
    refine .agg fun z hz => ?_
    simp only [List.mem_cons, List.not_mem_nil, or_false] at hz
    rcases hz with rfl | rfl | rfl
    · exact .sl c9
    · exact .nils
    · exact .int
  have cB : ∀ j, ∀ y ∈ [DV.sl (fId 1 j) 64 0 64], Cl 1 ownK y := fun j y hy => by rw [List.mem_singleton.1 hy]; exact .sl (fId_notK j)
  rcases Nat.lt_or_ge id 10 with h | h
  · rw [List.getElem?_append_left (by exact h)] at hx
    have : id = 1 ∨ id = 2 ∨ id = 4 ∨ id = 7 ∨ id = 8 ∨ id = 9 := by unfold ownK at hK; omega
    rcases this with rfl | rfl | rfl | rfl | rfl | rfl <;> (cases hx)
    · exact ⟨_, _, _, rfl, cA⟩
    · exact ⟨_, _, _, rfl, cA⟩
    · exact ⟨_, _, _, rfl, fun y hy => by rw [List.mem_singleton.1 hy]; exact .int⟩
    · exact ⟨_, _, _, rfl, cl_eB _⟩
    · exact ⟨_, _, _, rfl, cB 0⟩
    · refine ⟨_, _, _, rfl, fun y hy => ?_⟩
      unfold secs at hy
      obtain ⟨j, _, rfl⟩ := List.mem_map.1 hy
      exact .sl (fId_notK j)
  · rw [List.getElem?_append_right (by exact h)] at hx
    have hm := List.mem_of_getElem? hx
    unfold ownTail at hm
    obtain ⟨i, _, hi⟩ := List.mem_flatMap.1 hm
    simp only [List.mem_cons, List.not_mem_nil, or_false] at hi
    rcases hi with rfl | rfl
    · exact ⟨_, _, _, rfl, cl_eB _⟩
    · exact ⟨_, _, _, rfl, cB _⟩
theorem rawOwn_ok (bs : List UInt8) (n : Nat) (hbs : bs.length ≤ 4194304) (hn1 : 64 * (n + 1) < bs.length + 64) (hn2 : bs.length ≤ 64 * (n + 1)) :
    Ok Tryz.prog 6 [.sl 0 bs.length 0 bs.length] [.arr 5 1 (bs.map eB)] (.ret (.tup [.agg [.sl 9 (n + 1) 0 (n + 1), .nils, .int .i64 65536], .int .i64 0])) (ownHead bs n ++ ownTail bs n) := by
  obtain ⟨LP, hr⟩ := raw_ok 1 bs n [.dead] hbs hn1 hn2
  have := Ok.lend (t := 5) (c := 1) (xs := bs.map eB) (K := ownK) (σ3 := ownHead bs n ++ ownTail bs n) (by simp; omega) (int_of bs) hr rfl (by unfold ownK; omega) rfl ?_ ?_ ?_
  · rw [List.length_map] at this; exact this
  · intro id hid x hx
    rcases hid with rfl | rfl | rfl <;> (cases hx; rfl)
  · intro id hK h0 x hx
    refine ⟨?_, .inl (own_clean bs n id hK h0 x hx)⟩
    rcases Nat.lt_or_ge id 10 with h | h
    · rw [List.getElem?_append_left (by exact h)] at hx
      have : id = 1 ∨ id = 2 ∨ id = 4 ∨ id = 7 ∨ id = 8 ∨ id = 9 := by unfold ownK at hK; omega
      rcases this with rfl | rfl | rfl | rfl | rfl | rfl <;> (cases hx; rfl)
    · rw [List.getElem?_append_right (by exact h)] at hx
      have e : ([Ob.dead] ++ rawObs bs 1 [Ob.dead].length LP n) = [Ob.dead, .arr 27 3 [.agg [.sl 9 (n + 1) 0 (n + 1), .nils, .int .i64 65536]], .arr 27 3 [.agg [.sl 9 (n + 1) 0 (n + 1), .nils, .int .i64 65536]], .arr 22 1 [.vec 1 1 (bs.map eB)], .arr 3 1 [.int .i64 64], .oth .defd [.bool true], LP, secOb bs 0, bldOb 1 0, .arr 22 1 (secs (fId 1) (n + 1))] ++ ownTail bs n := rfl
      rw [e, List.getElem?_append_right (by exact h)]
      exact hx
  · have c9 : ¬ ownK 9 := by unfold ownK; omega
    refine .tup fun z hz => ?_
    simp only [List.mem_cons, List.not_mem_nil, or_false] at hz
    rcases hz with rfl | rfl
    · refine .agg fun z hz => ?_
      simp only [List.mem_cons, List.not_mem_nil, or_false] at hz
      rcases hz with rfl | rfl | rfl
      · exact .sl c9
      · exact .nils
      · exact .int
    · exact .int
theorem rawLongOwn_ok (bs : List UInt8) (h : 4194304 < bs.length) :
    Ok Tryz.prog 6 [.sl 0 bs.length 0 bs.length] [.arr 5 1 (bs.map eB)] (.ret (.tup [.agg [.nils, .nils, .int .i64 0], .int .i64 5])) [.arr 5 1 (bs.map eB), .arr 27 3 [.agg [.nils, .nils, .int .i64 0]]] := by
  have hr := rawLong1_ok 1 bs [.dead] h
  have cA : Cl 1 (fun _ => False) (.agg [.nils, .nils, .int .i64 0]) := by
    refine .agg fun z hz => ?_
    simp only [List.mem_cons, List.not_mem_nil, or_false] at hz
    rcases hz with rfl | rfl | rfl
    · exact .nils
    · exact .nils
    · exact .int
  have := Ok.lend (t := 5) (c := 1) (xs := bs.map eB) (K := fun _ => False) (σ3 := [.arr 5 1 (bs.map eB), .arr 27 3 [.agg [.nils, .nils, .int .i64 0]]]) (by simp; omega) (int_of bs) hr rfl (fun e => e) rfl (fun _ e => e.elim) ?_ ?_
  · simpa only [List.length_map] using this
  · intro id _ h0 x hx
    match id, hx with
    | 0, _ => exact absurd rfl h0
    | 1, hx =>
      cases hx
      exact ⟨rfl, .inl ⟨_, _, _, rfl, fun y hy => by rw [List.mem_singleton.1 hy]; exact cA⟩⟩
    | i + 2, hx => simp at hx
  · refine .tup fun z hz => ?_
    simp only [List.mem_cons, List.not_mem_nil, or_false] at hz
    rcases hz with rfl | rfl
    · exact cA
    · exact .int
end Go.VL
end
