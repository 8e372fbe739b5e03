/- Proved: MetaLoads: whatever items and data come in (together of bulk at most 1048576), the call returns true and they read as they did; no other condition. This text is part 13 of 15. -/
import Derived.Test.YthobgocbfoigfaaGreatW12
section
set_option linter.unusedSimpArgs false
set_option linter.unusedVariables false
set_option maxRecDepth 10000
set_option maxHeartbeats 4000000
namespace Go.VL
open Go Go.Proofs
open Nat (reduceAdd reduceEqDiff reduceSub reduceMul reduceLeDiff)
def di13_10 : List DI := [⟨[3], [], false, [0, 1, 2], some 33, []⟩, ⟨[8], [], false, [0, 1, 2], some 34, []⟩, ⟨[3], [], false, [0, 1], some 35, []⟩, ⟨[8], [], false, [0, 1], some 36, []⟩, ⟨[35, 36], [2, 3], false, [0, 1], some 37, [2, 3]⟩, ⟨[7], [], false, [0], some 38, []⟩, ⟨[38], [5], false, [0], some 39, [5]⟩, ⟨[39], [5, 6], false, [0], some 40, [6]⟩, ⟨[6], [], false, [0], some 41, []⟩, ⟨[41], [8], false, [0], some 42, [8]⟩, ⟨[42], [8, 9], false, [0], some 43, [9]⟩, ⟨[43], rg 5 6, false, [0], some 44, [10, 7]⟩, ⟨[6], [], false, [0], some 45, []⟩, ⟨[45], [12], false, [0], some 46, [12]⟩, ⟨[46], [12, 13], false, [0], some 47, [13]⟩, ⟨[47], rg 5 10, false, [0], some 48, [14, 11]⟩, ⟨[40, 44, 48], rg 5 11, false, [0], some 49, [7, 11, 15]⟩, ⟨[49], rg 5 12, true, [], some 50, [16]⟩, ⟨[37, 50], rg 2 16, true, [], some 51, [4, 17, 15]⟩, ⟨[33, 34, 51], rg 0 19, true, [], none, ([0, 1, 18, 18] ++ rg 0 19)⟩]
def di13_17 : List DI := [⟨[6], [], false, [0], some 71, []⟩, ⟨[71], [0], false, [0], some 72, [0]⟩, ⟨[72], [0, 1], false, [0], some 73, [1]⟩, ⟨[73], [0, 1, 2], false, [0], some 74, [2]⟩, ⟨[6], [], false, [0], some 75, []⟩, ⟨[75], [4], false, [0], some 76, [4]⟩, ⟨[76], [4, 5], false, [0], some 77, [5]⟩, ⟨[77], rg 0 7, false, [0], some 78, [6, 3]⟩, ⟨[2], rg 0 4, false, [0], some 79, rg 0 4⟩, ⟨[74, 79], rg 0 9, true, [], none, ([8, 3, 7] ++ rg 0 4)⟩, ⟨[2], rg 0 10, false, [1], some 80, rg 0 10⟩, ⟨[78, 80], rg 0 11, true, [], none, ([10, 7, 9] ++ rg 0 10)⟩]
def di13_24 : List DI := [⟨[2], [], false, [0, 1], some 94, []⟩, ⟨[94], [0], false, [0, 1], some 95, [0]⟩, ⟨[11], [], false, [0], some 96, []⟩, ⟨[12], [], false, [0], some 97, []⟩, ⟨[97], [3], false, [0], some 98, [3]⟩, ⟨[12], [], false, [0], some 99, []⟩, ⟨[99], [5], false, [0], some 100, [5]⟩, ⟨[13], [], false, [0], some 101, []⟩, ⟨[101], [7], false, [0], some 102, [7]⟩, ⟨[102], [7, 8], false, [0], some 103, [8]⟩, ⟨[98, 100, 103], rg 3 7, false, [0], some 104, [4, 6, 9, 9]⟩, ⟨[13], [], false, [0], some 105, []⟩, ⟨[105], [11], false, [0], some 106, [11]⟩, ⟨[106], rg 3 10, false, [0], some 107, [12, 10]⟩, ⟨[3], [], false, [0], some 108, []⟩, ⟨[11], [], false, [0], some 109, []⟩, ⟨[108, 109], [14, 15], false, [0], some 110, [14, 15]⟩, ⟨[96, 104, 107, 110], rg 2 15, false, [0], some 111, [2, 10, 13, 16]⟩, ⟨[111], rg 2 16, true, [], some 112, [17]⟩, ⟨[95, 112], rg 0 19, true, [], some 113, [1, 18, 13]⟩, ⟨[2], rg 0 20, false, [2], some 114, rg 0 20⟩, ⟨[113, 114], rg 0 21, true, [], none, ([20, 19, 19] ++ rg 0 20)⟩]

def eV0 (v : Vo) : DV := .agg [.int .i64 v.size, .vec 0 3 (v.now.map eX), .vec 0 4 (v.snaps.map (eZ 0)), .int .i64 v.next, .int .i64 0, .nils, .nils]
def GoodV (n : Nat) (v : Vo) : Prop := v.snaps.length ≤ n ∧ ∀ s ∈ v.snaps, s.name.size ≤ 16
theorem all_eXs (rs : List Ex) : ((rs.map eX).all fun y => y.cells.all DV.one) = true := by
  rw [List.all_eq_true]
  intro y hy
  obtain ⟨x, _, rfl⟩ := List.mem_map.1 hy
  rfl
theorem bits_nonneg (a b : Int) : 0 ≤ bits .u64 .and a b := by
  unfold bits
  simp only
  rw [IntKind.wrap_u64]
  omega
theorem toldE (c : Nat) (l : List It) (hl : l.length ≤ 1048576) : OkE Tryz.prog 13 [.vec c 2 (l.map eT)] [] fun o O => ∃ d v, o = .ret d ∧ GoodV l.length v ∧ Fz O 0 d (eV0 v) := by
  obtain ⟨X, hX⟩ : ∃ X, X = l.map eT := ⟨_, rfl⟩
  have hXl : X.length = l.length := by rw [hX, List.length_map]
  rw [← hX]
  obtain ⟨σ, hσ0⟩ : ∃ σ : List Ob, σ = [] := ⟨_, rfl⟩
  rw [← hσ0]
  refine OkE.of_body layOk Tryz.func13 rfl (by decide) (by simp [Tryz.ntmps13]) fun C hP hn hσ hfix hdd => ?_
  rw [show Tryz.f13.ntmps = 119 from rfl] at hn
  have hL : LayOk C.P L := hP ▸ layOk
  have hm : C.P.follows .mixedOrders = true := hP ▸ mixed
  repeat (first | ((first | refine sA hL hn rfl ?_ | refine sB hL hn rfl ?_); simp only [go_sem, Nat.reduceBEq, Int.reduceLT, Int.reduceLE, reduceAdd, reduceEqDiff, reduceIte, reduceSub, Nat.reduceLT, reduceMul, reduceLeDiff, reduceCtorEq]) | ((first | refine sC ?_ | refine sH ?_ | refine sI ?_ | refine sJ ?_); try simp only [thenK, blockK, loopK, loopG, if_true, if_false, reduceEqDiff]) | refine sD ?_ | refine sE ?_ | refine sF rfl ?_ | refine sG rfl ?_)
  refine SW.lpg (fun s : TS => ⟨[(2, .ptr σ.length 1 0 0), (3, .mp (σ.length + 1)), (4, .mp (σ.length + 2)), (16, .vec c 2 X), (17, .int .i64 l.length), (18, .int .i64 s.k)],
    σ ++ (.arr 34 7 [.agg [.int .i64 s.sz, .nils, .nils, .int .i64 s.nx, .int .i64 0, .nils, .nils]] :: .oth (.map s.bs s.c1) (pr owK (owV σ.length) s.ow) :: .oth (.map (List.range s.nm.length) s.nm.length) (pr nnK nnV s.nm) :: s.T)⟩) (fun s => l.length - s.k) (TsOk l.length) ⟨0, 0, 0, [], [], [], [], 0⟩ ⟨by simp, by simp, by simp, .nil, by simp⟩ (.of rfl (by simp [agree, lk, hXl])) ?_
  intro s hs
  obtain ⟨k, sz, nx, ow, nm, T, bs, c1⟩ := s
  simp only
  have hk := hs.k
  simp only at hk
  by_cases hlt : k < l.length
  · have e1 : decide ((k : Int) < (l.length : Int)) = true := decide_eq_true (by omega)
    have e2 : (0 ≤ (k : Int) ∧ (k : Int) < (X.length : Int)) := by omega
    obtain ⟨x, hx⟩ : ∃ x, x = l[k] := ⟨_, rfl⟩
    have e3 : X[k]?.getD .undef = .agg [.int .u64 x.k, .int .u64 x.v] := by rw [hX, hx]; simp [hlt, eT, eN]
    have w1 : IntKind.i64.wrap ((k : Int) + 1) = ((k + 1 : Nat) : Int) := wi (by omega) (by omega)
    obtain ⟨LW, hLW⟩ : ∃ a, bits .u64 .and x.k 72057594037927935 = a := ⟨_, rfl⟩
    obtain ⟨KD, hKD⟩ : ∃ a, x.k.fdiv (2 ^ min (Int.toNat 56) 64) = a := ⟨_, rfl⟩
    obtain ⟨M1, hM1⟩ : ∃ M1, M1 = Ob.oth (.map bs c1) (pr owK (owV σ.length) ow) := ⟨_, rfl⟩
    obtain ⟨M2, hM2⟩ : ∃ M2, M2 = Ob.oth (.map (List.range nm.length) nm.length) (pr nnK nnV nm) := ⟨_, rfl⟩
    obtain ⟨HI, hHI⟩ : ∃ a, x.v.fdiv (2 ^ min (Int.toNat 32) 64) = a := ⟨_, rfl⟩
    obtain ⟨LO, hLO⟩ : ∃ a, bits .u64 .and x.v 4294967295 = a := ⟨_, rfl⟩
    cases hk1 : (KD == 1)
    rotate_left
    · obtain ⟨OW, hOW⟩ : ∃ a, numF (LW.fdiv (2 ^ min (Int.toNat 32) 64)) = a := ⟨_, rfl⟩
      obtain ⟨VI, hVI⟩ : ∃ a, bits .u64 .and LW 4294967295 = a := ⟨_, rfl⟩
      obtain ⟨P, hP1⟩ : ∃ P, P = pr owK (owV σ.length) ow := ⟨_, rfl⟩
      have hfd := findD_pr Ow.o (owV σ.length) OW ow 0
      rw [show pr (fun e : Ow => DV.int .i64 e.o) (owV σ.length) ow = P from hP1.symm] at hfd
      have hko : keyOk L 3 (.int .i64 OW) = true := rfl
      have his : isStruct L 3 = false := rfl
      have hbx : ∀ a b d : Int, buildDV L 80 [(0, .int .i64 a), (1, .int .i64 b), (2, .int .i64 d)] = some (.agg [.int .i64 a, .int .i64 b, .int .i64 d]) := fun _ _ _ => rfl
      rw [← hP1, ← hM2]
      rcases hfd with hfd | ⟨q, e, he, heo, hfd⟩
      · repeat (first | ((first | refine sA hL hn rfl ?_ | refine sB hL hn rfl ?_); simp only [go_sem, Nat.reduceBEq, Int.reduceLT, Int.reduceLE, reduceAdd, reduceEqDiff, reduceIte, reduceSub, Nat.reduceLT, reduceMul, reduceLeDiff, reduceCtorEq, e1, e2, e3, hLW, hKD, hk1]) | ((first | refine sC ?_ | refine sH ?_ | refine sI ?_ | refine sJ ?_); try simp only [thenK, blockK, loopK, loopG, if_true, if_false, reduceEqDiff]) | refine sD ?_ | refine sE ?_ | refine sF rfl ?_ | refine sG rfl ?_)
        refine sK hP hL hn rfl rfl (number_ok _ _) rfl rfl rfl rfl ?_; simp (maxSteps := 2000000) only [go_sem, Nat.reduceBEq, Int.reduceLT, Int.reduceLE, reduceAdd, reduceEqDiff, reduceIte, reduceSub, Nat.reduceLT, reduceMul, reduceLeDiff, reduceCtorEq, hOW]
        repeat (first | ((first | refine sA hL hn rfl ?_ | refine sB hL hn rfl ?_); simp only [go_sem, Nat.reduceBEq, Int.reduceLT, Int.reduceLE, reduceAdd, reduceEqDiff, reduceIte, reduceSub, Nat.reduceLT, reduceMul, reduceLeDiff, reduceCtorEq]) | ((first | refine sC ?_ | refine sH ?_ | refine sI ?_ | refine sJ ?_); try simp only [thenK, blockK, loopK, loopG, if_true, if_false, reduceEqDiff]) | refine sD ?_ | refine sE ?_ | refine sF rfl ?_ | refine sG rfl ?_)
        refine sM hL hm hn di13_10 [σ ++ (.arr 34 7 [.agg [.int .i64 sz, .nils, .nils, .int .i64 nx, .int .i64 0, .nils, .nils]] :: Ob.oth (.map bs c1) P :: M2 :: (T ++ [.arr 27 2 [.agg [.int .u64 x.k, .int .u64 x.v]]])), σ ++ (.arr 34 7 [.agg [.int .i64 sz, .nils, .nils, .int .i64 nx, .int .i64 0, .nils, .nils]] :: Ob.oth (.map bs c1) P :: M2 :: (T ++ [.arr 27 2 [.agg [.int .u64 x.k, .int .u64 x.v]], .arr 80 3 [.agg [.int .i64 (numF VI), .int .i64 (numF HI), .int .i64 (numF LO)]]])), σ ++ (.arr 34 7 [.agg [.int .i64 sz, .nils, .nils, .int .i64 nx, .int .i64 0, .nils, .nils]] :: Ob.oth (.map bs c1) P :: M2 :: (T ++ [.arr 27 2 [.agg [.int .u64 x.k, .int .u64 x.v]], .arr 80 3 [.agg [.int .i64 (numF VI), .int .i64 (numF HI), .int .i64 (numF LO)]], .arr 80 3 [.agg [.int .i64 (numF VI), .int .i64 (numF HI), .int .i64 (numF LO)]]])), σ ++ (.arr 34 7 [.agg [.int .i64 sz, .nils, .nils, .int .i64 nx, .int .i64 0, .nils, .nils]] :: Ob.oth (.map (bs ++ [c1]) (c1 + 1)) (P ++ [.int .i64 OW, .sl (σ.length + (T.length + 5)) 1 0 1]) :: M2 :: (T ++ [.arr 27 2 [.agg [.int .u64 x.k, .int .u64 x.v]], .arr 80 3 [.agg [.int .i64 (numF VI), .int .i64 (numF HI), .int .i64 (numF LO)]], .arr 80 3 [.agg [.int .i64 (numF VI), .int .i64 (numF HI), .int .i64 (numF LO)]]]))] rfl rfl rfl ?_
        unfold di13_10
        repeat (rw [dgo_cons]; simp (maxSteps := 2000000) only [go_sem, Nat.reduceBEq, Int.reduceLT, Int.reduceLE, reduceAdd, reduceEqDiff, reduceIte, reduceSub, Nat.reduceLT, reduceMul, reduceLeDiff, reduceCtorEq, hko, hfd, hVI, L28])
        try rw [dgo_nil]
        try simp only [go_sem, Nat.reduceBEq, Int.reduceLT, Int.reduceLE, reduceAdd, reduceEqDiff, reduceIte, reduceSub, Nat.reduceLT, reduceMul, reduceLeDiff, reduceCtorEq, hko, hfd, hVI, L28]
        refine DCall.pure hP (fun q _ => number_ok _ _) rfl rfl rfl rfl ?_; repeat (simp (maxSteps := 2000000) only [go_sem, Nat.reduceBEq, Int.reduceLT, Int.reduceLE, reduceAdd, reduceEqDiff, reduceIte, reduceSub, Nat.reduceLT, reduceMul, reduceLeDiff, reduceCtorEq, hHI]; first | rw [dgo_cons] | rw [dgo_nil])
        try simp only [go_sem, Nat.reduceBEq, Int.reduceLT, Int.reduceLE, reduceAdd, reduceEqDiff, reduceIte, reduceSub, Nat.reduceLT, reduceMul, reduceLeDiff, reduceCtorEq, hHI]
        refine DCall.pure hP (fun q _ => number_ok _ _) rfl rfl rfl rfl ?_; repeat (simp (maxSteps := 2000000) only [go_sem, Nat.reduceBEq, Int.reduceLT, Int.reduceLE, reduceAdd, reduceEqDiff, reduceIte, reduceSub, Nat.reduceLT, reduceMul, reduceLeDiff, reduceCtorEq, hLO]; first | rw [dgo_cons] | rw [dgo_nil])
        try simp only [go_sem, Nat.reduceBEq, Int.reduceLT, Int.reduceLE, reduceAdd, reduceEqDiff, reduceIte, reduceSub, Nat.reduceLT, reduceMul, reduceLeDiff, reduceCtorEq, hLO]
        refine DCall.pure hP (fun q _ => number_ok _ _) rfl rfl rfl rfl ?_; repeat (simp (maxSteps := 2000000) only [go_sem, Nat.reduceBEq, Int.reduceLT, Int.reduceLE, reduceAdd, reduceEqDiff, reduceIte, reduceSub, Nat.reduceLT, reduceMul, reduceLeDiff, reduceCtorEq, hbx, appDV, updM, hko, hfd]; first | rw [dgo_cons] | rw [dgo_nil])
        try simp only [go_sem, Nat.reduceBEq, Int.reduceLT, Int.reduceLE, reduceAdd, reduceEqDiff, reduceIte, reduceSub, Nat.reduceLT, reduceMul, reduceLeDiff, reduceCtorEq, hbx, appDV, updM, hko, hfd]
        repeat (first | ((first | refine sA hL hn rfl ?_ | refine sB hL hn rfl ?_); simp only [go_sem, Nat.reduceBEq, Int.reduceLT, Int.reduceLE, reduceAdd, reduceEqDiff, reduceIte, reduceSub, Nat.reduceLT, reduceMul, reduceLeDiff, reduceCtorEq, w1]) | ((first | refine sC ?_ | refine sH ?_ | refine sI ?_ | refine sJ ?_); try simp only [thenK, blockK, loopK, loopG, if_true, if_false, reduceEqDiff]) | refine sD ?_ | refine sE ?_ | refine sF rfl ?_ | refine sG rfl ?_)
        refine Lp.nextg ⟨k + 1, sz, nx, ow ++ [⟨OW, T.length + 2, [⟨numF VI, numF HI, numF LO⟩]⟩], nm, T ++ ([.arr 27 2 [.agg [.int .u64 x.k, .int .u64 x.v]], .arr 80 3 [.agg [.int .i64 (numF VI), .int .i64 (numF HI), .int .i64 (numF LO)]]] ++ [.arr 80 3 [.agg [.int .i64 (numF VI), .int .i64 (numF HI), .int .i64 (numF LO)]]]), bs ++ [c1], c1 + 1⟩ (hs.fresh hlt OW ⟨numF VI, numF HI, numF LO⟩ [.arr 27 2 [.agg [.int .u64 x.k, .int .u64 x.v]], .arr 80 3 [.agg [.int .i64 (numF VI), .int .i64 (numF HI), .int .i64 (numF LO)]]] (fun o ho => ?_) _ _) (by simp only; omega) (.of ?_ (by simp [agree, lk]))
        · simp only [List.mem_cons, List.not_mem_nil, or_false] at ho
          rcases ho with rfl | rfl
          · exact ⟨_, _, _, rfl, fun n y hy => by rw [List.mem_singleton.1 hy]; simp [low_agg, low_int]⟩
          · exact ⟨_, _, _, rfl, fun n y hy => by rw [List.mem_singleton.1 hy]; simp [low_agg, low_int]⟩
        · simp [hM2, hP1, pr_append, pr, owK, owV, Nat.add_assoc]
      · obtain ⟨ha1, ha2⟩ := hs.at_ e (List.mem_of_getElem? he)
        simp only at ha1 ha2
        have hejl := (List.getElem?_eq_some_iff.1 ha1).1
        obtain ⟨E, hE⟩ : ∃ E, E = e.l.map eX := ⟨_, rfl⟩
        have hEl : E.length = e.l.length := by rw [hE, List.length_map]
        rw [← hE] at ha1
        have aE : (E.all fun y => y.cells.all DV.one) = true := by rw [hE]; exact all_eXs e.l
        simp only [DV.cells] at aE
        have hgj : ∀ r, (T ++ r)[e.j]? = some (.arr 80 3 E) := fun r => by rw [List.getElem?_append_left hejl]; exact ha1
        have hsj : ∀ (r : List Ob) (Y : Ob), (T ++ r).set e.j Y = T.set e.j Y ++ r := fun r Y => List.set_append_left _ _ hejl
        have hcap : (e.l.length + 1) * 24 ≤ 140737488355328 := by omega
        unfold owV at hfd
        rw [Nat.zero_add] at hfd
        repeat (first | ((first | refine sA hL hn rfl ?_ | refine sB hL hn rfl ?_); simp only [go_sem, Nat.reduceBEq, Int.reduceLT, Int.reduceLE, reduceAdd, reduceEqDiff, reduceIte, reduceSub, Nat.reduceLT, reduceMul, reduceLeDiff, reduceCtorEq, e1, e2, e3, hLW, hKD, hk1]) | ((first | refine sC ?_ | refine sH ?_ | refine sI ?_ | refine sJ ?_); try simp only [thenK, blockK, loopK, loopG, if_true, if_false, reduceEqDiff]) | refine sD ?_ | refine sE ?_ | refine sF rfl ?_ | refine sG rfl ?_)
        refine sK hP hL hn rfl rfl (number_ok _ _) rfl rfl rfl rfl ?_; simp (maxSteps := 2000000) only [go_sem, Nat.reduceBEq, Int.reduceLT, Int.reduceLE, reduceAdd, reduceEqDiff, reduceIte, reduceSub, Nat.reduceLT, reduceMul, reduceLeDiff, reduceCtorEq, hOW]
        repeat (first | ((first | refine sA hL hn rfl ?_ | refine sB hL hn rfl ?_); simp only [go_sem, Nat.reduceBEq, Int.reduceLT, Int.reduceLE, reduceAdd, reduceEqDiff, reduceIte, reduceSub, Nat.reduceLT, reduceMul, reduceLeDiff, reduceCtorEq]) | ((first | refine sC ?_ | refine sH ?_ | refine sI ?_ | refine sJ ?_); try simp only [thenK, blockK, loopK, loopG, if_true, if_false, reduceEqDiff]) | refine sD ?_ | refine sE ?_ | refine sF rfl ?_ | refine sG rfl ?_)
        refine sM hL hm hn di13_10 [σ ++ (.arr 34 7 [.agg [.int .i64 sz, .nils, .nils, .int .i64 nx, .int .i64 0, .nils, .nils]] :: Ob.oth (.map bs c1) P :: M2 :: (T ++ [.arr 27 2 [.agg [.int .u64 x.k, .int .u64 x.v]]])), σ ++ (.arr 34 7 [.agg [.int .i64 sz, .nils, .nils, .int .i64 nx, .int .i64 0, .nils, .nils]] :: Ob.oth (.map bs c1) P :: M2 :: (T ++ [.arr 27 2 [.agg [.int .u64 x.k, .int .u64 x.v]], .arr 80 3 [.agg [.int .i64 (numF VI), .int .i64 (numF HI), .int .i64 (numF LO)]]])), σ ++ (.arr 34 7 [.agg [.int .i64 sz, .nils, .nils, .int .i64 nx, .int .i64 0, .nils, .nils]] :: Ob.oth (.map bs c1) P :: M2 :: (T.set e.j (.arr 80 3 (E ++ [.agg [.int .i64 (numF VI), .int .i64 (numF HI), .int .i64 (numF LO)]])) ++ [.arr 27 2 [.agg [.int .u64 x.k, .int .u64 x.v]], .arr 80 3 [.agg [.int .i64 (numF VI), .int .i64 (numF HI), .int .i64 (numF LO)]]])), σ ++ (.arr 34 7 [.agg [.int .i64 sz, .nils, .nils, .int .i64 nx, .int .i64 0, .nils, .nils]] :: Ob.oth (.map bs c1) ((P.set (2 * q) (.int .i64 OW)).set (2 * q + 1) (.sl (σ.length + (e.j + 3)) (e.l.length + 1) 0 (e.l.length + 1))) :: M2 :: (T.set e.j (.arr 80 3 (E ++ [.agg [.int .i64 (numF VI), .int .i64 (numF HI), .int .i64 (numF LO)]])) ++ [.arr 27 2 [.agg [.int .u64 x.k, .int .u64 x.v]], .arr 80 3 [.agg [.int .i64 (numF VI), .int .i64 (numF HI), .int .i64 (numF LO)]]]))] rfl rfl rfl ?_
        unfold di13_10
        repeat (rw [dgo_cons]; simp (maxSteps := 2000000) only [go_sem, Nat.reduceBEq, Int.reduceLT, Int.reduceLE, reduceAdd, reduceEqDiff, reduceIte, reduceSub, Nat.reduceLT, reduceMul, reduceLeDiff, reduceCtorEq, hko, hfd, hVI, L28])
        try rw [dgo_nil]
        try simp only [go_sem, Nat.reduceBEq, Int.reduceLT, Int.reduceLE, reduceAdd, reduceEqDiff, reduceIte, reduceSub, Nat.reduceLT, reduceMul, reduceLeDiff, reduceCtorEq, hko, hfd, hVI, L28]
        refine DCall.pure hP (fun q _ => number_ok _ _) rfl rfl rfl rfl ?_; repeat (simp (maxSteps := 2000000) only [go_sem, Nat.reduceBEq, Int.reduceLT, Int.reduceLE, reduceAdd, reduceEqDiff, reduceIte, reduceSub, Nat.reduceLT, reduceMul, reduceLeDiff, reduceCtorEq, hHI]; first | rw [dgo_cons] | rw [dgo_nil])
        try simp only [go_sem, Nat.reduceBEq, Int.reduceLT, Int.reduceLE, reduceAdd, reduceEqDiff, reduceIte, reduceSub, Nat.reduceLT, reduceMul, reduceLeDiff, reduceCtorEq, hHI]
        refine DCall.pure hP (fun q _ => number_ok _ _) rfl rfl rfl rfl ?_; repeat (simp (maxSteps := 2000000) only [go_sem, Nat.reduceBEq, Int.reduceLT, Int.reduceLE, reduceAdd, reduceEqDiff, reduceIte, reduceSub, Nat.reduceLT, reduceMul, reduceLeDiff, reduceCtorEq, hLO]; first | rw [dgo_cons] | rw [dgo_nil])
        try simp only [go_sem, Nat.reduceBEq, Int.reduceLT, Int.reduceLE, reduceAdd, reduceEqDiff, reduceIte, reduceSub, Nat.reduceLT, reduceMul, reduceLeDiff, reduceCtorEq, hLO]
        refine DCall.pure hP (fun q _ => number_ok _ _) rfl rfl rfl rfl ?_; repeat (simp (maxSteps := 2000000) only [go_sem, Nat.reduceBEq, Int.reduceLT, Int.reduceLE, reduceAdd, reduceEqDiff, reduceIte, reduceSub, Nat.reduceLT, reduceMul, reduceLeDiff, reduceCtorEq, hbx, appDV, updM, hko, hfd, aE, hEl, hgj, hsj, hcap, his]; first | rw [dgo_cons] | rw [dgo_nil])
        try simp only [go_sem, Nat.reduceBEq, Int.reduceLT, Int.reduceLE, reduceAdd, reduceEqDiff, reduceIte, reduceSub, Nat.reduceLT, reduceMul, reduceLeDiff, reduceCtorEq, hbx, appDV, updM, hko, hfd, aE, hEl, hgj, hsj, hcap, his]
        repeat (first | ((first | refine sA hL hn rfl ?_ | refine sB hL hn rfl ?_); simp only [go_sem, Nat.reduceBEq, Int.reduceLT, Int.reduceLE, reduceAdd, reduceEqDiff, reduceIte, reduceSub, Nat.reduceLT, reduceMul, reduceLeDiff, reduceCtorEq, w1]) | ((first | refine sC ?_ | refine sH ?_ | refine sI ?_ | refine sJ ?_); try simp only [thenK, blockK, loopK, loopG, if_true, if_false, reduceEqDiff]) | refine sD ?_ | refine sE ?_ | refine sF rfl ?_ | refine sG rfl ?_)
        have hps := pr_set owK (owV σ.length) (⟨e.o, e.j, e.l ++ [(⟨numF VI, numF HI, numF LO⟩ : Ex)]⟩ : Ow) ow q
        refine Lp.nextg ⟨k + 1, sz, nx, ow.set q ⟨e.o, e.j, e.l ++ [⟨numF VI, numF HI, numF LO⟩]⟩, nm, T.set e.j (.arr 80 3 ((e.l ++ [(⟨numF VI, numF HI, numF LO⟩ : Ex)]).map eX)) ++ [.arr 27 2 [.agg [.int .u64 x.k, .int .u64 x.v]], .arr 80 3 [.agg [.int .i64 (numF VI), .int .i64 (numF HI), .int .i64 (numF LO)]]], bs, c1⟩ (hs.more hlt he ⟨numF VI, numF HI, numF LO⟩ [.arr 27 2 [.agg [.int .u64 x.k, .int .u64 x.v]], .arr 80 3 [.agg [.int .i64 (numF VI), .int .i64 (numF HI), .int .i64 (numF LO)]]] (fun o ho => ?_)) (by simp only; omega) (.of ?_ (by simp [agree, lk]))
        · simp only [List.mem_cons, List.not_mem_nil, or_false] at ho
          rcases ho with rfl | rfl
          · exact ⟨_, _, _, rfl, fun n y hy => by rw [List.mem_singleton.1 hy]; simp [low_agg, low_int]⟩
          · exact ⟨_, _, _, rfl, fun n y hy => by rw [List.mem_singleton.1 hy]; simp [low_agg, low_int]⟩
        · simp only
          rw [← hps, ← hP1, ← hM2, List.map_append, ← hE]
          simp [owK, owV, heo, eX, eI]
    cases hk3 : (KD == 3)
    rotate_left
    · obtain ⟨ID, hID⟩ : ∃ a, numF (LW.fdiv (2 ^ min (Int.toNat 8) 64)) = a := ⟨_, rfl⟩
      obtain ⟨P, hP2⟩ : ∃ P, P = pr nnK nnV nm := ⟨_, rfl⟩
      have hfd := findD_pr Nn.id nnV ID nm 0
      rw [show pr (fun e : Nn => DV.int .i64 e.id) nnV nm = P from hP2.symm] at hfd
      have hko : keyOk L 3 (.int .i64 ID) = true := rfl
      have his : isStruct L 3 = false := rfl
      have hix : mn (bits .u64 .and LW 255) 2 = 0 ∨ mn (bits .u64 .and LW 255) 2 = 1 ∨ mn (bits .u64 .and LW 255) 2 = 2 := by
        have := bits_nonneg LW 255
        unfold mn
        split <;> omega
      have ia : ((0 : Int) < ((3 : Nat) : Int)) = True := by simp
      have ib : ((1 : Int) < ((3 : Nat) : Int)) = True := by simp
      have ic : ((2 : Int) < ((3 : Nat) : Int)) = True := by simp
      have ta : Int.toNat 0 = 0 := rfl
      have tb : Int.toNat 1 = 1 := rfl
      have tc : Int.toNat 2 = 2 := rfl
      rw [← hP2, ← hM1]
      rcases hfd with hfd | ⟨q, e, he, heo, hfd⟩
      · rcases hix with hix | hix | hix
        · repeat (first | ((first | refine sA hL hn rfl ?_ | refine sB hL hn rfl ?_); simp only [go_sem, Nat.reduceBEq, Int.reduceLT, Int.reduceLE, reduceAdd, reduceEqDiff, reduceIte, reduceSub, Nat.reduceLT, reduceMul, reduceLeDiff, reduceCtorEq, e1, e2, e3, hLW, hKD, hk1, hk3]) | ((first | refine sC ?_ | refine sH ?_ | refine sI ?_ | refine sJ ?_); try simp only [thenK, blockK, loopK, loopG, if_true, if_false, reduceEqDiff]) | refine sD ?_ | refine sE ?_ | refine sF rfl ?_ | refine sG rfl ?_)
          refine sK hP hL hn rfl rfl (number_ok _ _) rfl rfl rfl rfl ?_; simp (maxSteps := 2000000) only [go_sem, Nat.reduceBEq, Int.reduceLT, Int.reduceLE, reduceAdd, reduceEqDiff, reduceIte, reduceSub, Nat.reduceLT, reduceMul, reduceLeDiff, reduceCtorEq, hID]
          repeat (first | ((first | refine sA hL hn rfl ?_ | refine sB hL hn rfl ?_); simp only [go_sem, Nat.reduceBEq, Int.reduceLT, Int.reduceLE, reduceAdd, reduceEqDiff, reduceIte, reduceSub, Nat.reduceLT, reduceMul, reduceLeDiff, reduceCtorEq, hko, hfd, L81, hix, updM, his, w1, ia, ib, ic, ta, tb, tc]) | ((first | refine sC ?_ | refine sH ?_ | refine sI ?_ | refine sJ ?_); try simp only [thenK, blockK, loopK, loopG, if_true, if_false, reduceEqDiff]) | refine sD ?_ | refine sE ?_ | refine sF rfl ?_ | refine sG rfl ?_)
          refine Lp.nextg ⟨k + 1, sz, nx, ow, nm ++ [⟨ID, x.v, 0, 0⟩], T ++ [.arr 27 2 [.agg [.int .u64 x.k, .int .u64 x.v]], .arr 81 3 [.agg [.int .u64 x.v, .int .u64 0, .int .u64 0]]], bs, c1⟩ (hs.push hlt _ _ (nm ++ [⟨ID, x.v, 0, 0⟩]) (by simp) _ (fun o ho => ?_)) (by simp only; omega) (.of ?_ (by simp [agree, lk]))
          · simp only [List.mem_cons, List.not_mem_nil, or_false] at ho
            rcases ho with rfl | rfl
            · exact ⟨_, _, _, rfl, fun n y hy => by rw [List.mem_singleton.1 hy]; simp [low_agg, low_int]⟩
            · exact ⟨_, _, _, rfl, fun n y hy => by rw [List.mem_singleton.1 hy]; simp [low_agg, low_int]⟩
          · simp [hM1, hP2, pr_append, pr, nnK, nnV, List.range_succ]
        · repeat (first | ((first | refine sA hL hn rfl ?_ | refine sB hL hn rfl ?_); simp only [go_sem, Nat.reduceBEq, Int.reduceLT, Int.reduceLE, reduceAdd, reduceEqDiff, reduceIte, reduceSub, Nat.reduceLT, reduceMul, reduceLeDiff, reduceCtorEq, e1, e2, e3, hLW, hKD, hk1, hk3]) | ((first | refine sC ?_ | refine sH ?_ | refine sI ?_ | refine sJ ?_); try simp only [thenK, blockK, loopK, loopG, if_true, if_false, reduceEqDiff]) | refine sD ?_ | refine sE ?_ | refine sF rfl ?_ | refine sG rfl ?_)
          refine sK hP hL hn rfl rfl (number_ok _ _) rfl rfl rfl rfl ?_; simp (maxSteps := 2000000) only [go_sem, Nat.reduceBEq, Int.reduceLT, Int.reduceLE, reduceAdd, reduceEqDiff, reduceIte, reduceSub, Nat.reduceLT, reduceMul, reduceLeDiff, reduceCtorEq, hID]
          repeat (first | ((first | refine sA hL hn rfl ?_ | refine sB hL hn rfl ?_); simp only [go_sem, Nat.reduceBEq, Int.reduceLT, Int.reduceLE, reduceAdd, reduceEqDiff, reduceIte, reduceSub, Nat.reduceLT, reduceMul, reduceLeDiff, reduceCtorEq, hko, hfd, L81, hix, updM, his, w1, ia, ib, ic, ta, tb, tc]) | ((first | refine sC ?_ | refine sH ?_ | refine sI ?_ | refine sJ ?_); try simp only [thenK, blockK, loopK, loopG, if_true, if_false, reduceEqDiff]) | refine sD ?_ | refine sE ?_ | refine sF rfl ?_ | refine sG rfl ?_)
          refine Lp.nextg ⟨k + 1, sz, nx, ow, nm ++ [⟨ID, 0, x.v, 0⟩], T ++ [.arr 27 2 [.agg [.int .u64 x.k, .int .u64 x.v]], .arr 81 3 [.agg [.int .u64 0, .int .u64 x.v, .int .u64 0]]], bs, c1⟩ (hs.push hlt _ _ (nm ++ [⟨ID, 0, x.v, 0⟩]) (by simp) _ (fun o ho => ?_)) (by simp only; omega) (.of ?_ (by simp [agree, lk]))
          · simp only [List.mem_cons, List.not_mem_nil, or_false] at ho
            rcases ho with rfl | rfl
            · exact ⟨_, _, _, rfl, fun n y hy => by rw [List.mem_singleton.1 hy]; simp [low_agg, low_int]⟩
            · exact ⟨_, _, _, rfl, fun n y hy => by rw [List.mem_singleton.1 hy]; simp [low_agg, low_int]⟩
          · simp [hM1, hP2, pr_append, pr, nnK, nnV, List.range_succ]
        · repeat (first | ((first | refine sA hL hn rfl ?_ | refine sB hL hn rfl ?_); simp only [go_sem, Nat.reduceBEq, Int.reduceLT, Int.reduceLE, reduceAdd, reduceEqDiff, reduceIte, reduceSub, Nat.reduceLT, reduceMul, reduceLeDiff, reduceCtorEq, e1, e2, e3, hLW, hKD, hk1, hk3]) | ((first | refine sC ?_ | refine sH ?_ | refine sI ?_ | refine sJ ?_); try simp only [thenK, blockK, loopK, loopG, if_true, if_false, reduceEqDiff]) | refine sD ?_ | refine sE ?_ | refine sF rfl ?_ | refine sG rfl ?_)
          refine sK hP hL hn rfl rfl (number_ok _ _) rfl rfl rfl rfl ?_; simp (maxSteps := 2000000) only [go_sem, Nat.reduceBEq, Int.reduceLT, Int.reduceLE, reduceAdd, reduceEqDiff, reduceIte, reduceSub, Nat.reduceLT, reduceMul, reduceLeDiff, reduceCtorEq, hID]
          repeat (first | ((first | refine sA hL hn rfl ?_ | refine sB hL hn rfl ?_); simp only [go_sem, Nat.reduceBEq, Int.reduceLT, Int.reduceLE, reduceAdd, reduceEqDiff, reduceIte, reduceSub, Nat.reduceLT, reduceMul, reduceLeDiff, reduceCtorEq, hko, hfd, L81, hix, updM, his, w1, ia, ib, ic, ta, tb, tc]) | ((first | refine sC ?_ | refine sH ?_ | refine sI ?_ | refine sJ ?_); try simp only [thenK, blockK, loopK, loopG, if_true, if_false, reduceEqDiff]) | refine sD ?_ | refine sE ?_ | refine sF rfl ?_ | refine sG rfl ?_)
          refine Lp.nextg ⟨k + 1, sz, nx, ow, nm ++ [⟨ID, 0, 0, x.v⟩], T ++ [.arr 27 2 [.agg [.int .u64 x.k, .int .u64 x.v]], .arr 81 3 [.agg [.int .u64 0, .int .u64 0, .int .u64 x.v]]], bs, c1⟩ (hs.push hlt _ _ (nm ++ [⟨ID, 0, 0, x.v⟩]) (by simp) _ (fun o ho => ?_)) (by simp only; omega) (.of ?_ (by simp [agree, lk]))
          · simp only [List.mem_cons, List.not_mem_nil, or_false] at ho
            rcases ho with rfl | rfl
            · exact ⟨_, _, _, rfl, fun n y hy => by rw [List.mem_singleton.1 hy]; simp [low_agg, low_int]⟩
            · exact ⟨_, _, _, rfl, fun n y hy => by rw [List.mem_singleton.1 hy]; simp [low_agg, low_int]⟩
          · simp [hM1, hP2, pr_append, pr, nnK, nnV, List.range_succ]
      · unfold nnV at hfd
        rw [Nat.zero_add] at hfd
        rcases hix with hix | hix | hix
        · repeat (first | ((first | refine sA hL hn rfl ?_ | refine sB hL hn rfl ?_); simp only [go_sem, Nat.reduceBEq, Int.reduceLT, Int.reduceLE, reduceAdd, reduceEqDiff, reduceIte, reduceSub, Nat.reduceLT, reduceMul, reduceLeDiff, reduceCtorEq, e1, e2, e3, hLW, hKD, hk1, hk3]) | ((first | refine sC ?_ | refine sH ?_ | refine sI ?_ | refine sJ ?_); try simp only [thenK, blockK, loopK, loopG, if_true, if_false, reduceEqDiff]) | refine sD ?_ | refine sE ?_ | refine sF rfl ?_ | refine sG rfl ?_)
          refine sK hP hL hn rfl rfl (number_ok _ _) rfl rfl rfl rfl ?_; simp (maxSteps := 2000000) only [go_sem, Nat.reduceBEq, Int.reduceLT, Int.reduceLE, reduceAdd, reduceEqDiff, reduceIte, reduceSub, Nat.reduceLT, reduceMul, reduceLeDiff, reduceCtorEq, hID]
          repeat (first | ((first | refine sA hL hn rfl ?_ | refine sB hL hn rfl ?_); simp only [go_sem, Nat.reduceBEq, Int.reduceLT, Int.reduceLE, reduceAdd, reduceEqDiff, reduceIte, reduceSub, Nat.reduceLT, reduceMul, reduceLeDiff, reduceCtorEq, hko, hfd, L81, hix, updM, his, w1, ia, ib, ic, ta, tb, tc]) | ((first | refine sC ?_ | refine sH ?_ | refine sI ?_ | refine sJ ?_); try simp only [thenK, blockK, loopK, loopG, if_true, if_false, reduceEqDiff]) | refine sD ?_ | refine sE ?_ | refine sF rfl ?_ | refine sG rfl ?_)
          refine Lp.nextg ⟨k + 1, sz, nx, ow, nm.set q ⟨ID, x.v, e.b, e.c⟩, T ++ [.arr 27 2 [.agg [.int .u64 x.k, .int .u64 x.v]], .arr 81 3 [.agg [.int .u64 x.v, .int .u64 e.b, .int .u64 e.c]]], bs, c1⟩ (hs.push hlt _ _ (nm.set q ⟨ID, x.v, e.b, e.c⟩) (by simp) _ (fun o ho => ?_)) (by simp only; omega) (.of ?_ (by simp [agree, lk]))
          · simp only [List.mem_cons, List.not_mem_nil, or_false] at ho
            rcases ho with rfl | rfl
            · exact ⟨_, _, _, rfl, fun n y hy => by rw [List.mem_singleton.1 hy]; simp [low_agg, low_int]⟩
            · exact ⟨_, _, _, rfl, fun n y hy => by rw [List.mem_singleton.1 hy]; simp [low_agg, low_int]⟩
          · simp only
            rw [← pr_set, ← hP2, ← hM1]
            simp [nnK, nnV]
        · repeat (first | ((first | refine sA hL hn rfl ?_ | refine sB hL hn rfl ?_); simp only [go_sem, Nat.reduceBEq, Int.reduceLT, Int.reduceLE, reduceAdd, reduceEqDiff, reduceIte, reduceSub, Nat.reduceLT, reduceMul, reduceLeDiff, reduceCtorEq, e1, e2, e3, hLW, hKD, hk1, hk3]) | ((first | refine sC ?_ | refine sH ?_ | refine sI ?_ | refine sJ ?_); try simp only [thenK, blockK, loopK, loopG, if_true, if_false, reduceEqDiff]) | refine sD ?_ | refine sE ?_ | refine sF rfl ?_ | refine sG rfl ?_)
          refine sK hP hL hn rfl rfl (number_ok _ _) rfl rfl rfl rfl ?_; simp (maxSteps := 2000000) only [go_sem, Nat.reduceBEq, Int.reduceLT, Int.reduceLE, reduceAdd, reduceEqDiff, reduceIte, reduceSub, Nat.reduceLT, reduceMul, reduceLeDiff, reduceCtorEq, hID]
          repeat (first | ((first | refine sA hL hn rfl ?_ | refine sB hL hn rfl ?_); simp only [go_sem, Nat.reduceBEq, Int.reduceLT, Int.reduceLE, reduceAdd, reduceEqDiff, reduceIte, reduceSub, Nat.reduceLT, reduceMul, reduceLeDiff, reduceCtorEq, hko, hfd, L81, hix, updM, his, w1, ia, ib, ic, ta, tb, tc]) | ((first | refine sC ?_ | refine sH ?_ | refine sI ?_ | refine sJ ?_); try simp only [thenK, blockK, loopK, loopG, if_true, if_false, reduceEqDiff]) | refine sD ?_ | refine sE ?_ | refine sF rfl ?_ | refine sG rfl ?_)
          refine Lp.nextg ⟨k + 1, sz, nx, ow, nm.set q ⟨ID, e.a, x.v, e.c⟩, T ++ [.arr 27 2 [.agg [.int .u64 x.k, .int .u64 x.v]], .arr 81 3 [.agg [.int .u64 e.a, .int .u64 x.v, .int .u64 e.c]]], bs, c1⟩ (hs.push hlt _ _ (nm.set q ⟨ID, e.a, x.v, e.c⟩) (by simp) _ (fun o ho => ?_)) (by simp only; omega) (.of ?_ (by simp [agree, lk]))
          · simp only [List.mem_cons, List.not_mem_nil, or_false] at ho
            rcases ho with rfl | rfl
            · exact ⟨_, _, _, rfl, fun n y hy => by rw [List.mem_singleton.1 hy]; simp [low_agg, low_int]⟩
            · exact ⟨_, _, _, rfl, fun n y hy => by rw [List.mem_singleton.1 hy]; simp [low_agg, low_int]⟩
          · simp only
            rw [← pr_set, ← hP2, ← hM1]
            simp [nnK, nnV]
        · repeat (first | ((first | refine sA hL hn rfl ?_ | refine sB hL hn rfl ?_); simp only [go_sem, Nat.reduceBEq, Int.reduceLT, Int.reduceLE, reduceAdd, reduceEqDiff, reduceIte, reduceSub, Nat.reduceLT, reduceMul, reduceLeDiff, reduceCtorEq, e1, e2, e3, hLW, hKD, hk1, hk3]) | ((first | refine sC ?_ | refine sH ?_ | refine sI ?_ | refine sJ ?_); try simp only [thenK, blockK, loopK, loopG, if_true, if_false, reduceEqDiff]) | refine sD ?_ | refine sE ?_ | refine sF rfl ?_ | refine sG rfl ?_)
          refine sK hP hL hn rfl rfl (number_ok _ _) rfl rfl rfl rfl ?_; simp (maxSteps := 2000000) only [go_sem, Nat.reduceBEq, Int.reduceLT, Int.reduceLE, reduceAdd, reduceEqDiff, reduceIte, reduceSub, Nat.reduceLT, reduceMul, reduceLeDiff, reduceCtorEq, hID]
          repeat (first | ((first | refine sA hL hn rfl ?_ | refine sB hL hn rfl ?_); simp only [go_sem, Nat.reduceBEq, Int.reduceLT, Int.reduceLE, reduceAdd, reduceEqDiff, reduceIte, reduceSub, Nat.reduceLT, reduceMul, reduceLeDiff, reduceCtorEq, hko, hfd, L81, hix, updM, his, w1, ia, ib, ic, ta, tb, tc]) | ((first | refine sC ?_ | refine sH ?_ | refine sI ?_ | refine sJ ?_); try simp only [thenK, blockK, loopK, loopG, if_true, if_false, reduceEqDiff]) | refine sD ?_ | refine sE ?_ | refine sF rfl ?_ | refine sG rfl ?_)
          refine Lp.nextg ⟨k + 1, sz, nx, ow, nm.set q ⟨ID, e.a, e.b, x.v⟩, T ++ [.arr 27 2 [.agg [.int .u64 x.k, .int .u64 x.v]], .arr 81 3 [.agg [.int .u64 e.a, .int .u64 e.b, .int .u64 x.v]]], bs, c1⟩ (hs.push hlt _ _ (nm.set q ⟨ID, e.a, e.b, x.v⟩) (by simp) _ (fun o ho => ?_)) (by simp only; omega) (.of ?_ (by simp [agree, lk]))
          · simp only [List.mem_cons, List.not_mem_nil, or_false] at ho
            rcases ho with rfl | rfl
            · exact ⟨_, _, _, rfl, fun n y hy => by rw [List.mem_singleton.1 hy]; simp [low_agg, low_int]⟩
            · exact ⟨_, _, _, rfl, fun n y hy => by rw [List.mem_singleton.1 hy]; simp [low_agg, low_int]⟩
          · simp only
            rw [← pr_set, ← hP2, ← hM1]
            simp [nnK, nnV]
    rw [← hM1, ← hM2]
    cases hk4 : (KD == 4)
    rotate_left
    · repeat (first | ((first | refine sA hL hn rfl ?_ | refine sB hL hn rfl ?_); simp only [go_sem, Nat.reduceBEq, Int.reduceLT, Int.reduceLE, reduceAdd, reduceEqDiff, reduceIte, reduceSub, Nat.reduceLT, reduceMul, reduceLeDiff, reduceCtorEq, e1, e2, e3, hLW, hKD, hk1, hk3, hk4]) | ((first | refine sC ?_ | refine sH ?_ | refine sI ?_ | refine sJ ?_); try simp only [thenK, blockK, loopK, loopG, if_true, if_false, reduceEqDiff]) | refine sD ?_ | refine sE ?_ | refine sF rfl ?_ | refine sG rfl ?_)
      refine sM hL hm hn di13_17 [σ ++ (.arr 34 7 [.agg [.int .i64 sz, .nils, .nils, .int .i64 nx, .int .i64 0, .nils, .nils]] :: M1 :: M2 :: (T ++ [.arr 27 2 [.agg [.int .u64 x.k, .int .u64 x.v]]])), σ ++ (.arr 34 7 [.agg [.int .i64 (numF HI), .nils, .nils, .int .i64 nx, .int .i64 0, .nils, .nils]] :: M1 :: M2 :: (T ++ [.arr 27 2 [.agg [.int .u64 x.k, .int .u64 x.v]]])), σ ++ (.arr 34 7 [.agg [.int .i64 (numF HI), .nils, .nils, .int .i64 (numF LO), .int .i64 0, .nils, .nils]] :: M1 :: M2 :: (T ++ [.arr 27 2 [.agg [.int .u64 x.k, .int .u64 x.v]]]))] rfl rfl rfl ?_
      unfold di13_17
      repeat (rw [dgo_cons]; simp (maxSteps := 2000000) only [go_sem, Nat.reduceBEq, Int.reduceLT, Int.reduceLE, reduceAdd, reduceEqDiff, reduceIte, reduceSub, Nat.reduceLT, reduceMul, reduceLeDiff, reduceCtorEq, hHI])
      try rw [dgo_nil]
      try simp only [go_sem, Nat.reduceBEq, Int.reduceLT, Int.reduceLE, reduceAdd, reduceEqDiff, reduceIte, reduceSub, Nat.reduceLT, reduceMul, reduceLeDiff, reduceCtorEq, hHI]
      refine DCall.pure hP (fun q _ => number_ok _ _) rfl rfl rfl rfl ?_; repeat (simp (maxSteps := 2000000) only [go_sem, Nat.reduceBEq, Int.reduceLT, Int.reduceLE, reduceAdd, reduceEqDiff, reduceIte, reduceSub, Nat.reduceLT, reduceMul, reduceLeDiff, reduceCtorEq, hLO]; first | rw [dgo_cons] | rw [dgo_nil])
      try simp only [go_sem, Nat.reduceBEq, Int.reduceLT, Int.reduceLE, reduceAdd, reduceEqDiff, reduceIte, reduceSub, Nat.reduceLT, reduceMul, reduceLeDiff, reduceCtorEq, hLO]
      refine DCall.pure hP (fun q _ => number_ok _ _) rfl rfl rfl rfl ?_; repeat (simp (maxSteps := 2000000) only [go_sem, Nat.reduceBEq, Int.reduceLT, Int.reduceLE, reduceAdd, reduceEqDiff, reduceIte, reduceSub, Nat.reduceLT, reduceMul, reduceLeDiff, reduceCtorEq]; first | rw [dgo_cons] | rw [dgo_nil])
      try simp only [go_sem, Nat.reduceBEq, Int.reduceLT, Int.reduceLE, reduceAdd, reduceEqDiff, reduceIte, reduceSub, Nat.reduceLT, reduceMul, reduceLeDiff, reduceCtorEq]
      repeat (first | ((first | refine sA hL hn rfl ?_ | refine sB hL hn rfl ?_); simp only [go_sem, Nat.reduceBEq, Int.reduceLT, Int.reduceLE, reduceAdd, reduceEqDiff, reduceIte, reduceSub, Nat.reduceLT, reduceMul, reduceLeDiff, reduceCtorEq, w1]) | ((first | refine sC ?_ | refine sH ?_ | refine sI ?_ | refine sJ ?_); try simp only [thenK, blockK, loopK, loopG, if_true, if_false, reduceEqDiff]) | refine sD ?_ | refine sE ?_ | refine sF rfl ?_ | refine sG rfl ?_)
      refine Lp.nextg ⟨k + 1, numF HI, numF LO, ow, nm, T ++ [.arr 27 2 [.agg [.int .u64 x.k, .int .u64 x.v]]], bs, c1⟩ (hs.push hlt _ _ nm (by simp) _ (fun o ho => by rw [List.mem_singleton.1 ho]; exact ⟨_, _, _, rfl, fun n y hy => by rw [List.mem_singleton.1 hy]; simp [low_agg, low_int]⟩)) (by simp only; omega) (.of (by simp [hM1, hM2]) (by simp [agree, lk]))
    · repeat (first | ((first | refine sA hL hn rfl ?_ | refine sB hL hn rfl ?_); simp only [go_sem, Nat.reduceBEq, Int.reduceLT, Int.reduceLE, reduceAdd, reduceEqDiff, reduceIte, reduceSub, Nat.reduceLT, reduceMul, reduceLeDiff, reduceCtorEq, e1, e2, e3, hLW, hKD, hk1, hk3, hk4, w1]) | ((first | refine sC ?_ | refine sH ?_ | refine sI ?_ | refine sJ ?_); try simp only [thenK, blockK, loopK, loopG, if_true, if_false, reduceEqDiff]) | refine sD ?_ | refine sE ?_ | refine sF rfl ?_ | refine sG rfl ?_)
      refine Lp.nextg ⟨k + 1, sz, nx, ow, nm, T ++ [.arr 27 2 [.agg [.int .u64 x.k, .int .u64 x.v]]], bs, c1⟩ (hs.push hlt _ _ nm (by simp) _ (fun o ho => by rw [List.mem_singleton.1 ho]; exact ⟨_, _, _, rfl, fun n y hy => by rw [List.mem_singleton.1 hy]; simp [low_agg, low_int]⟩)) (by simp only; omega) (.of (by simp [hM1, hM2]) (by simp [agree, lk]))
  · have e1 : decide ((k : Int) < (l.length : Int)) = false := decide_eq_false (by omega)
    obtain rfl : k = l.length := by omega
    have hnm := hs.nm
    simp only at hnm
    obtain ⟨T', hgh⟩ := Ghost.freezeOw (C := C) hσ hfix [(2, .ptr σ.length 1 0 0), (3, .mp (σ.length + 1)), (4, .mp (σ.length + 2)), (16, .vec c 2 X), (17, .int .i64 l.length), (18, .int .i64 l.length)] (.arr 34 7 [.agg [.int .i64 sz, .nils, .nils, .int .i64 nx, .int .i64 0, .nils, .nils]]) (.oth (.map (List.range nm.length) nm.length) (pr nnK nnV nm)) bs c1
      (fun id hid => ⟨(noId_ptr' _ _ _ _).2 (by omega), (noId_mp' _).2 (by omega), (noId_mp' _).2 (by omega), (noId_vec _ _ _).2 (fun y hy => by rw [hX] at hy; exact (noId_of_low eT low_eT l id).2 trivial y hy), (noId_int _ _).2 trivial, (noId_int _ _).2 trivial, trivial⟩)
      (fun id => by simp [noId_int, noId_bool, noId_str, noId_nils, noId_nilp, noId_nilf, noId_nili, noId_undef, noId_skip, noId_vec, noId_agg, noId_tup, noId_fn, noId_vptr, noId_iface, noId_ptr', noId_sl', noId_mp', noId_it', noId_yld', noId_emp, obNoId_arr, obNoId_oth, obNoId_dead, obsNoId, envNoId]) (fun id => by
        intro N r
        show Ob.oth _ _ = Ob.oth _ _
        congr 1
        have : ∀ q : List Nn, (pr nnK nnV q).map (fz id N r) = pr nnK nnV q := by
          intro q
          induction q with
          | nil => rfl
          | cons e q ih =>
            rw [pr_cons, List.map_cons, List.map_cons, ih]
            simp [nnK, nnV, fz, fzL]
        exact this nm) hdd ow [] T (fun e he => (hs.at_ e he).1) hs.ne (fun o ho => .inl (hs.pure o ho))
    rw [show pr owK owW [] = [] from rfl, List.nil_append, List.nil_append] at hgh
    refine SW.ghost hgh ?_
    obtain ⟨P, hP1⟩ : ∃ P, P = pr owK owW ow := ⟨_, rfl⟩
    obtain ⟨P2, hP2⟩ : ∃ P2, P2 = pr nnK nnV nm := ⟨_, rfl⟩
    have hfd := findD_pr Ow.o owW 0 ow 0
    rw [show pr (fun e : Ow => DV.int .i64 e.o) owW ow = P from hP1.symm] at hfd
    have hko : ∀ a : Int, keyOk L 3 (.int .i64 a) = true := fun _ => rfl
    rw [← hP1, ← hP2]
    obtain ⟨nwo, hnwo⟩ : ∃ nwo : Option (List Ex), (findD L 3 (.int .i64 0) P 0 = some none ∧ nwo = none) ∨ (∃ q e, findD L 3 (.int .i64 0) P 0 = some (some (q, owW e)) ∧ nwo = some e.l) := by
      rcases hfd with hfd | ⟨q, e, he, _, hfd⟩
      · exact ⟨none, .inl ⟨hfd, rfl⟩⟩
      · exact ⟨some e.l, .inr ⟨_, e, hfd, rfl⟩⟩
    clear hfd
    rcases hnwo with ⟨hfd, hnw⟩ | ⟨q0, e0, hfd, hnw⟩
    rotate_left
    unfold owW at hfd
    rotate_left
    all_goals
      repeat (first | ((first | refine sA hL hn rfl ?_ | refine sB hL hn rfl ?_); simp only [go_sem, Nat.reduceBEq, Int.reduceLT, Int.reduceLE, reduceAdd, reduceEqDiff, reduceIte, reduceSub, Nat.reduceLT, reduceMul, reduceLeDiff, reduceCtorEq, e1, hko, hfd, L28, rangeM, L76]) | ((first | refine sC ?_ | refine sH ?_ | refine sI ?_ | refine sJ ?_); try simp only [thenK, blockK, loopK, loopG, if_true, if_false, reduceEqDiff]) | refine sD ?_ | refine sE ?_ | refine sF rfl ?_ | refine sG rfl ?_)
      refine SW.ghost (st' := ⟨[(2, .ptr σ.length 1 0 0), (3, .mp (σ.length + 1)), (86, .it (σ.length + (T'.length + 3)))], σ ++ (.arr 34 7 [.agg [.int .i64 sz, lD nwo, .nils, .int .i64 nx, .int .i64 0, .nils, .nils]] :: Ob.oth (.map bs c1) P :: Ob.oth (.map (List.range nm.length) nm.length) P2 :: (T' ++ [Ob.oth (.iter (some (σ.length + 2)) nm.length [] nm.length) []]))⟩) (by rw [hnw]; exact .of rfl (by simp [agree, lk])) ?_
      clear hfd hnw
      have hlo := lD_one nwo
      simp only [DV.one] at hlo
      have hlc : (lD nwo).cells = [lD nwo] := by cases nwo <;> rfl
      simp only [DV.cells] at hlc
      by_cases hnm0 : nm = []
      · subst hnm0
        refine SW.lpg (fun _ : Nat => ⟨[(2, .ptr σ.length 1 0 0), (3, .mp (σ.length + 1)), (86, .it (σ.length + (T'.length + 3)))], σ ++ (.arr 34 7 [.agg [.int .i64 sz, lD nwo, .nils, .int .i64 nx, .int .i64 0, .nils, .nils]] :: Ob.oth (.map bs c1) P :: Ob.oth (.map (List.range ([] : List Nn).length) ([] : List Nn).length) P2 :: (T' ++ [Ob.oth (.iter (some (σ.length + 2)) ([] : List Nn).length [] ([] : List Nn).length) []]))⟩) (fun _ => 0) (fun _ => True) 0 trivial (.of rfl (by simp [agree, lk])) ?_
        intro _ _
        repeat (first | ((first | refine sA hL hn rfl ?_ | refine sB hL hn rfl ?_); simp only [go_sem, Nat.reduceBEq, Int.reduceLT, Int.reduceLE, reduceAdd, reduceEqDiff, reduceIte, reduceSub, Nat.reduceLT, reduceMul, reduceLeDiff, reduceCtorEq, nextM]) | ((first | refine sC ?_ | refine sH ?_ | refine sI ?_ | refine sJ ?_); try simp only [thenK, blockK, loopK, loopG, if_true, if_false, reduceEqDiff]) | refine sD ?_ | refine sE ?_ | refine sF rfl ?_ | refine sG rfl ?_)
        refine sK hP hL hn rfl rfl (sortSnapN_ok _) rfl rfl rfl rfl ?_; simp (maxSteps := 2000000) only [go_sem, Nat.reduceBEq, Int.reduceLT, Int.reduceLE, reduceAdd, reduceEqDiff, reduceIte, reduceSub, Nat.reduceLT, reduceMul, reduceLeDiff, reduceCtorEq]
        repeat (first | ((first | refine sA hL hn rfl ?_ | refine sB hL hn rfl ?_); simp only [go_sem, Nat.reduceBEq, Int.reduceLT, Int.reduceLE, reduceAdd, reduceEqDiff, reduceIte, reduceSub, Nat.reduceLT, reduceMul, reduceLeDiff, reduceCtorEq, hlo, hlc]) | ((first | refine sC ?_ | refine sH ?_ | refine sI ?_ | refine sJ ?_); try simp only [thenK, blockK, loopK, loopG, if_true, if_false, reduceEqDiff]) | refine sD ?_ | refine sE ?_ | refine sF rfl ?_ | refine sG rfl ?_)
        refine ⟨_, _, ⟨_, ⟨sz, nwo.getD [], [], nx, 0, []⟩, rfl, ⟨Nat.zero_le _, fun s hs => nomatch hs⟩, ?_⟩, _, .agg [.int .i64 sz, lD nwo, .nils, .int .i64 nx, .int .i64 0, .nils, .nils], _, Ghost.refl _ _, ?_, GhostV.refl _ _ _, rfl⟩
        rotate_left
        show resDV L _ [Go.ResultVar.cell 2 34] = _
        simp only [resDV, resL, resDV1, go_sem, Nat.reduceBEq, Int.reduceLT, Int.reduceLE, reduceAdd, reduceEqDiff, reduceIte, reduceSub, Nat.reduceLT, reduceMul, reduceLeDiff, reduceCtorEq]
        refine .agg rfl fun i x y hx hy => ?_
        match i, hx, hy with
        | 0, hx, hy => cases hx; cases hy; exact .low ((low_int _ _).2 trivial)
        | 1, hx, hy => cases hx; cases hy; exact lD_fz _ _
        | 2, hx, hy => cases hx; cases hy; exact .nil
        | 3, hx, hy => cases hx; cases hy; exact .low ((low_int _ _).2 trivial)
        | 4, hx, hy => cases hx; cases hy; exact .low ((low_int _ _).2 trivial)
        | 5, hx, hy => cases hx; cases hy; exact .low (low_nils.2 trivial)
        | 6, hx, hy => cases hx; cases hy; exact .low (low_nils.2 trivial)
        | i + 7, hx, _ => simp at hx
      · have hn0 : 0 < nm.length := List.length_pos_iff.2 hnm0
        refine SW.ghost (Ghost.newNilIn σ.length 2 63 4 (t := 34) (k := 7) (cs := [.int .i64 sz, lD nwo, .nils, .int .i64 nx, .int .i64 0, .nils, .nils]) (by simp [own_get0]) rfl) ?_
        refine SW.lpg (fun x : List Nat × List SnT × List Ob => ⟨[(2, .ptr σ.length 1 0 0), (3, .mp (σ.length + 1)), (86, .it (σ.length + (T'.length + 3)))], σ ++ (.arr 34 7 [.agg [.int .i64 sz, lD nwo, (.sl (σ.length + (T'.length + 4)) x.2.1.length 0 x.2.1.length), .int .i64 nx, .int .i64 0, .nils, .nils]] :: Ob.oth (.map bs c1) P :: Ob.oth (.map (List.range nm.length) nm.length) P2 :: (T' ++ (Ob.oth (.iter (some (σ.length + 2)) nm.length x.1 nm.length) [] :: .arr 63 4 (x.2.1.map eST) :: x.2.2)))⟩) (fun x => unseen x.1 (List.range nm.length)) (fun x => x.2.1.length = x.1.length ∧ unseen x.1 (List.range nm.length) + x.1.length ≤ nm.length ∧ ∀ s ∈ x.2.1, s.name.size ≤ 16) ([], [], []) ⟨rfl, by simp [unseen_nil], fun s hs => nomatch hs⟩ (.of (by simp [own_set0]) (by simp [agree, lk])) ?_
        rintro ⟨seen, sn, G⟩ ⟨h1, h2, h3⟩
        simp only at h1 h2 h3
        refine SW.seq (SW.region ?_)
        refine SWops.next (by rw [hn]; rfl) rfl rfl rfl (mid := σ.length + 2) (since := nm.length) (c0 := nm.length) (clock := nm.length) (seen := seen) (bs := List.range nm.length) (ds := P2) (es := []) (by simp [own_get]) (by simp [own_get]) (fun b hb => by simpa using hb) (Nat.le_refl _) hdd ?_ ?_
        · intro hall
          have hs0 : 0 ∈ seen := hall 0 0 (by rw [List.getElem?_range hn0])
          have hsl : 0 < seen.length := List.length_pos_of_mem hs0
          obtain ⟨ys, hy1, hy2, hsort⟩ := sortSnaps sn (by omega)
          refine SWops.go hL (by rw [hn]; rfl) ?_
          simp (maxSteps := 2000000) only [go_sem, Nat.reduceBEq, Int.reduceLT, Int.reduceLE, reduceAdd, reduceEqDiff, reduceIte, reduceSub, Nat.reduceLT, reduceMul, reduceLeDiff, reduceCtorEq, dgo_nil, dgo_cons]
          repeat (first | ((first | refine sA hL hn rfl ?_ | refine sB hL hn rfl ?_); simp only [go_sem, Nat.reduceBEq, Int.reduceLT, Int.reduceLE, reduceAdd, reduceEqDiff, reduceIte, reduceSub, Nat.reduceLT, reduceMul, reduceLeDiff, reduceCtorEq]) | ((first | refine sC ?_ | refine sH ?_ | refine sI ?_ | refine sJ ?_); try simp only [thenK, blockK, loopK, loopG, if_true, if_false, reduceEqDiff]) | refine sD ?_ | refine sE ?_ | refine sF rfl ?_ | refine sG rfl ?_)
          refine sK hP hL hn rfl rfl (hsort (σ.length + (T'.length + 4)) 63 _ (by omega) (by simp [own_get])) rfl rfl rfl rfl ?_; simp (maxSteps := 2000000) only [go_sem, Nat.reduceBEq, Int.reduceLT, Int.reduceLE, reduceAdd, reduceEqDiff, reduceIte, reduceSub, Nat.reduceLT, reduceMul, reduceLeDiff, reduceCtorEq]
          repeat (first | ((first | refine sA hL hn rfl ?_ | refine sB hL hn rfl ?_); simp only [go_sem, Nat.reduceBEq, Int.reduceLT, Int.reduceLE, reduceAdd, reduceEqDiff, reduceIte, reduceSub, Nat.reduceLT, reduceMul, reduceLeDiff, reduceCtorEq, hlo, hlc]) | ((first | refine sC ?_ | refine sH ?_ | refine sI ?_ | refine sJ ?_); try simp only [thenK, blockK, loopK, loopG, if_true, if_false, reduceEqDiff]) | refine sD ?_ | refine sE ?_ | refine sF rfl ?_ | refine sG rfl ?_)
          rw [← hy1]
          refine ⟨_, _, ⟨_, ⟨sz, nwo.getD [], ys.map snOf, nx, 0, []⟩, rfl, ⟨by simp only [List.length_map]; omega, fun s hs => by obtain ⟨a, ha, rfl⟩ := List.mem_map.1 hs; exact h3 a (hy2 a ha)⟩, ?_⟩, _, .agg [.int .i64 sz, lD nwo, .sl (σ.length + (T'.length + 4)) ys.length 0 ys.length, .int .i64 nx, .int .i64 0, .nils, .nils], _, Ghost.refl _ _, ?_, GhostV.refl _ _ _, rfl⟩
          rotate_left
          show resDV L _ [Go.ResultVar.cell 2 34] = _
          simp only [resDV, resL, resDV1, go_sem, Nat.reduceBEq, Int.reduceLT, Int.reduceLE, reduceAdd, reduceEqDiff, reduceIte, reduceSub, Nat.reduceLT, reduceMul, reduceLeDiff, reduceCtorEq]
          refine .agg rfl fun i x y hx hy => ?_
          match i, hx, hy with
          | 0, hx, hy => cases hx; cases hy; exact .low ((low_int _ _).2 trivial)
          | 1, hx, hy => cases hx; cases hy; exact lD_fz _ _
          | 2, hx, hy => cases hx; cases hy; exact snaps_fz (t := 63) (by simp [own_get])
          | 3, hx, hy => cases hx; cases hy; exact .low ((low_int _ _).2 trivial)
          | 4, hx, hy => cases hx; cases hy; exact .low ((low_int _ _).2 trivial)
          | 5, hx, hy => cases hx; cases hy; exact .low (low_nils.2 trivial)
          | 6, hx, hy => cases hx; cases hy; exact .low (low_nils.2 trivial)
          | i + 7, hx, _ => simp at hx
        · intro i b kk vv hbi hbs0 hkk hvv
          have hil : i < nm.length := by
            have := (List.getElem?_eq_some_iff.1 hbi).1
            simpa using this
          obtain ⟨e, he⟩ : ∃ e, nm[i]? = some e := ⟨_, List.getElem?_eq_getElem hil⟩
          have hke : P2[2 * i]? = some (.int .i64 e.id) := by rw [hP2, (pr_get nnK nnV nm i).1, he]; rfl
          have hve : P2[2 * i + 1]? = some (.agg [.int .u64 e.a, .int .u64 e.b, .int .u64 e.c]) := by rw [hP2, (pr_get nnK nnV nm i).2, he]; rfl
          rw [hke] at hkk
          rw [hve] at hvv
          cases hkk
          cases hvv
          obtain ⟨TX, hTX⟩ : ∃ TX, strOf (((txF e.a e.b 16).2.2.take (mn (numF (bits .u64 .and e.c 255)) 16).toNat).map fun n => UInt8.ofNat n.toNat) = TX := ⟨_, rfl⟩
          have hTXs : TX.size ≤ 16 := by rw [← hTX]; exact text_size _ _
          obtain ⟨SZ, hSZ⟩ : ∃ SZ, numF (e.c.fdiv (2 ^ min (Int.toNat 8) 64)) = SZ := ⟨_, rfl⟩
          obtain ⟨S, hS⟩ : ∃ S, S = sn.map eST := ⟨_, rfl⟩
          have hSl : S.length = sn.length := by rw [hS, List.length_map]
          have aS := all_eST sn
          rw [← hS] at aS
          simp only [DV.cells] at aS
          have hcap : (sn.length + 1) * 56 ≤ 140737488355328 := by omega
          have ia : ((0 : Int) < ((3 : Nat) : Int)) = True := by simp
          have ib : ((1 : Int) < ((3 : Nat) : Int)) = True := by simp
          have ic : ((2 : Int) < ((3 : Nat) : Int)) = True := by simp
          have ta : Int.toNat 0 = 0 := rfl
          have tb : Int.toNat 1 = 1 := rfl
          have tc : Int.toNat 2 = 2 := rfl
          have hbs : ∀ (a : Int) (b : ByteArray) (c : Int) (d : List DV), buildDV L 63 [(0, .int .i64 a), (1, .str b), (2, .int .i64 c), (3, .vec 0 3 d)] = some (.agg [.int .i64 a, .str b, .int .i64 c, .vec 0 3 d]) := fun _ _ _ _ => rfl
          have hbs' : ∀ (a : Int) (b : ByteArray) (c : Int), buildDV L 63 [(0, .int .i64 a), (1, .str b), (2, .int .i64 c), (3, .nils)] = some (.agg [.int .i64 a, .str b, .int .i64 c, .nils]) := fun _ _ _ => rfl
          have hg5 : ∀ (a b c : Ob) (r : List Ob), (a :: b :: c :: r)[T'.length + (G.length + 5)]? = r[T'.length + (G.length + 2)]? := fun a b c r => by rw [show T'.length + (G.length + 5) = T'.length + (G.length + 2) + 1 + 1 + 1 by omega]; rfl
          have hg6 : ∀ (a b c : Ob) (r : List Ob), (a :: b :: c :: r)[T'.length + (G.length + 6)]? = r[T'.length + (G.length + 3)]? := fun a b c r => by rw [show T'.length + (G.length + 6) = T'.length + (G.length + 3) + 1 + 1 + 1 by omega]; rfl
          have hs5 : ∀ (a b c y : Ob) (r : List Ob), (a :: b :: c :: r).set (T'.length + (G.length + 5)) y = a :: b :: c :: r.set (T'.length + (G.length + 2)) y := fun a b c y r => by rw [show T'.length + (G.length + 5) = T'.length + (G.length + 2) + 1 + 1 + 1 by omega]; rfl
          have hit : True := trivial
          have hfd2 := findD_pr Ow.o owW e.id ow 0
          rw [show pr (fun e : Ow => DV.int .i64 e.o) owW ow = P from hP1.symm] at hfd2
          rw [← hS]
          rcases hfd2 with hfd2 | ⟨q, f, _, _, hfd2⟩
          · refine SWops.go hL (by rw [hn]; rfl) ?_
            simp (maxSteps := 2000000) only [go_sem, Nat.reduceBEq, Int.reduceLT, Int.reduceLE, reduceAdd, reduceEqDiff, reduceIte, reduceSub, Nat.reduceLT, reduceMul, reduceLeDiff, reduceCtorEq, dgo_nil, dgo_cons, own_set0, hit]
            repeat (first | ((first | refine sA hL hn rfl ?_ | refine sB hL hn rfl ?_); simp only [go_sem, Nat.reduceBEq, Int.reduceLT, Int.reduceLE, reduceAdd, reduceEqDiff, reduceIte, reduceSub, Nat.reduceLT, reduceMul, reduceLeDiff, reduceCtorEq]) | ((first | refine sC ?_ | refine sH ?_ | refine sI ?_ | refine sJ ?_); try simp only [thenK, blockK, loopK, loopG, if_true, if_false, reduceEqDiff]) | refine sD ?_ | refine sE ?_ | refine sF rfl ?_ | refine sG rfl ?_)
            refine SWops.entry (by rw [hn]; rfl) rfl rfl rfl (mid := σ.length + 2) (since := nm.length) (clock := nm.length) (b := b) (seen := seen) (bs := List.range nm.length) (ds := P2) (es := []) (i := i) (by simp [own_get]) (by simp [own_get]) List.nodup_range hbi hke hve ?_
            refine SWops.go hL (by rw [hn]; rfl) ?_
            simp (maxSteps := 2000000) only [go_sem, Nat.reduceBEq, Int.reduceLT, Int.reduceLE, reduceAdd, reduceEqDiff, reduceIte, reduceSub, Nat.reduceLT, reduceMul, reduceLeDiff, reduceCtorEq, dgo_nil, dgo_cons, ia, ib, ic, ta, tb, tc, hg5, hg6, hs5]
            repeat (first | ((first | refine sA hL hn rfl ?_ | refine sB hL hn rfl ?_); simp only [go_sem, Nat.reduceBEq, Int.reduceLT, Int.reduceLE, reduceAdd, reduceEqDiff, reduceIte, reduceSub, Nat.reduceLT, reduceMul, reduceLeDiff, reduceCtorEq, ia, ib, ic, ta, tb, tc, hg5, hg6, hs5]) | ((first | refine sC ?_ | refine sH ?_ | refine sI ?_ | refine sJ ?_); try simp only [thenK, blockK, loopK, loopG, if_true, if_false, reduceEqDiff]) | refine sD ?_ | refine sE ?_ | refine sF rfl ?_ | refine sG rfl ?_)
            refine sM hL hm hn di13_24 [σ ++ (.arr 34 7 [.agg [.int .i64 sz, lD nwo, (.sl (σ.length + (T'.length + 4)) sn.length 0 sn.length), .int .i64 nx, .int .i64 0, .nils, .nils]] :: Ob.oth (.map bs c1) P :: Ob.oth (.map (List.range nm.length) nm.length) P2 :: (T' ++ (Ob.oth (.iter (some (σ.length + 2)) nm.length (seen ++ [b]) nm.length) [] :: .arr 63 4 S :: (G ++ [.arr 81 3 [.agg [.int .u64 e.a, .int .u64 e.b, .int .u64 e.c]]])))), σ ++ (.arr 34 7 [.agg [.int .i64 sz, lD nwo, (.sl (σ.length + (T'.length + 4)) sn.length 0 sn.length), .int .i64 nx, .int .i64 0, .nils, .nils]] :: Ob.oth (.map bs c1) P :: Ob.oth (.map (List.range nm.length) nm.length) P2 :: (T' ++ (Ob.oth (.iter (some (σ.length + 2)) nm.length (seen ++ [b]) nm.length) [] :: .arr 63 4 S :: (G ++ [.arr 81 3 [.agg [.int .u64 e.a, .int .u64 e.b, .int .u64 e.c]], .arr 63 4 [.agg [.int .i64 e.id, .str TX, .int .i64 SZ, .nils]]])))), σ ++ (.arr 34 7 [.agg [.int .i64 sz, lD nwo, (.sl (σ.length + (T'.length + 4)) sn.length 0 sn.length), .int .i64 nx, .int .i64 0, .nils, .nils]] :: Ob.oth (.map bs c1) P :: Ob.oth (.map (List.range nm.length) nm.length) P2 :: (T' ++ (Ob.oth (.iter (some (σ.length + 2)) nm.length (seen ++ [b]) nm.length) [] :: .arr 63 4 (S ++ [.agg [.int .i64 e.id, .str TX, .int .i64 SZ, .nils]]) :: (G ++ [.arr 81 3 [.agg [.int .u64 e.a, .int .u64 e.b, .int .u64 e.c]], .arr 63 4 [.agg [.int .i64 e.id, .str TX, .int .i64 SZ, .nils]]])))), σ ++ (.arr 34 7 [.agg [.int .i64 sz, lD nwo, (.sl (σ.length + (T'.length + 4)) (sn.length + 1) 0 (sn.length + 1)), .int .i64 nx, .int .i64 0, .nils, .nils]] :: Ob.oth (.map bs c1) P :: Ob.oth (.map (List.range nm.length) nm.length) P2 :: (T' ++ (Ob.oth (.iter (some (σ.length + 2)) nm.length (seen ++ [b]) nm.length) [] :: .arr 63 4 (S ++ [.agg [.int .i64 e.id, .str TX, .int .i64 SZ, .nils]]) :: (G ++ [.arr 81 3 [.agg [.int .u64 e.a, .int .u64 e.b, .int .u64 e.c]], .arr 63 4 [.agg [.int .i64 e.id, .str TX, .int .i64 SZ, .nils]]]))))] rfl rfl rfl ?_
            unfold di13_24
            repeat (rw [dgo_cons]; simp (maxSteps := 2000000) only [go_sem, Nat.reduceBEq, Int.reduceLT, Int.reduceLE, reduceAdd, reduceEqDiff, reduceIte, reduceSub, Nat.reduceLT, reduceMul, reduceLeDiff, reduceCtorEq, ia, ib, ic, ta, tb, tc, hg5, hg6, hs5])
            try rw [dgo_nil]
            try simp only [go_sem, Nat.reduceBEq, Int.reduceLT, Int.reduceLE, reduceAdd, reduceEqDiff, reduceIte, reduceSub, Nat.reduceLT, reduceMul, reduceLeDiff, reduceCtorEq, ia, ib, ic, ta, tb, tc, hg5, hg6, hs5]
            refine DCall.pure hP (fun q _ => number_ok _ _) rfl rfl rfl rfl ?_; repeat (simp (maxSteps := 2000000) only [go_sem, Nat.reduceBEq, Int.reduceLT, Int.reduceLE, reduceAdd, reduceEqDiff, reduceIte, reduceSub, Nat.reduceLT, reduceMul, reduceLeDiff, reduceCtorEq, hg5, hg6, hs5, ia, ib, ic, ta, tb, tc]; first | rw [dgo_cons] | rw [dgo_nil])
            try simp only [go_sem, Nat.reduceBEq, Int.reduceLT, Int.reduceLE, reduceAdd, reduceEqDiff, reduceIte, reduceSub, Nat.reduceLT, reduceMul, reduceLeDiff, reduceCtorEq, hg5, hg6, hs5, ia, ib, ic, ta, tb, tc]
            refine DCall.pure hP (fun q _ => text_ok _ _ _ (numF_nonneg e.c) _) rfl rfl rfl rfl ?_; repeat (simp (maxSteps := 2000000) only [go_sem, Nat.reduceBEq, Int.reduceLT, Int.reduceLE, reduceAdd, reduceEqDiff, reduceIte, reduceSub, Nat.reduceLT, reduceMul, reduceLeDiff, reduceCtorEq, hTX, hg5, hg6, hs5, ia, ib, ic, ta, tb, tc]; first | rw [dgo_cons] | rw [dgo_nil])
            try simp only [go_sem, Nat.reduceBEq, Int.reduceLT, Int.reduceLE, reduceAdd, reduceEqDiff, reduceIte, reduceSub, Nat.reduceLT, reduceMul, reduceLeDiff, reduceCtorEq, hTX, hg5, hg6, hs5, ia, ib, ic, ta, tb, tc]
            refine DCall.pure hP (fun q _ => number_ok _ _) rfl rfl rfl rfl ?_; repeat (simp (maxSteps := 2000000) only [go_sem, Nat.reduceBEq, Int.reduceLT, Int.reduceLE, reduceAdd, reduceEqDiff, reduceIte, reduceSub, Nat.reduceLT, reduceMul, reduceLeDiff, reduceCtorEq, hSZ, hko, hfd2, L28, hbs', hg5, hg6, hs5, hlo, hlc, appDV, aS, hSl, hcap]; first | rw [dgo_cons] | rw [dgo_nil])
            try simp only [go_sem, Nat.reduceBEq, Int.reduceLT, Int.reduceLE, reduceAdd, reduceEqDiff, reduceIte, reduceSub, Nat.reduceLT, reduceMul, reduceLeDiff, reduceCtorEq, hSZ, hko, hfd2, L28, hbs', hg5, hg6, hs5, hlo, hlc, appDV, aS, hSl, hcap]
            repeat (first | ((first | refine sA hL hn rfl ?_ | refine sB hL hn rfl ?_); simp only [go_sem, Nat.reduceBEq, Int.reduceLT, Int.reduceLE, reduceAdd, reduceEqDiff, reduceIte, reduceSub, Nat.reduceLT, reduceMul, reduceLeDiff, reduceCtorEq]) | ((first | refine sC ?_ | refine sH ?_ | refine sI ?_ | refine sJ ?_); try simp only [thenK, blockK, loopK, loopG, if_true, if_false, reduceEqDiff]) | refine sD ?_ | refine sE ?_ | refine sF rfl ?_ | refine sG rfl ?_)
            have q1 : (sn ++ [(⟨e.id, TX, SZ, none⟩ : SnT)]).map eST = S ++ [.agg [.int .i64 e.id, .str TX, .int .i64 SZ, .nils]] := by rw [List.map_append, ← hS]; rfl
            have hlt := unseen_lt seen b hbs0 (List.range nm.length) (List.mem_of_getElem? hbi)
            refine Lp.nextg (seen ++ [b], sn ++ [⟨e.id, TX, SZ, none⟩], G ++ [.arr 81 3 [.agg [.int .u64 e.a, .int .u64 e.b, .int .u64 e.c]], .arr 63 4 [.agg [.int .i64 e.id, .str TX, .int .i64 SZ, .nils]]]) ⟨by simp [h1], by simp; omega, fun s hs => ?_⟩ (by simp only; exact hlt) (.of (by simp [q1]) (by simp [agree, lk]))
            rcases List.mem_append.1 hs with hs | hs
            · exact h3 s hs
            · rw [List.mem_singleton.1 hs]; exact hTXs
          · unfold owW at hfd2
            refine SWops.go hL (by rw [hn]; rfl) ?_
            simp (maxSteps := 2000000) only [go_sem, Nat.reduceBEq, Int.reduceLT, Int.reduceLE, reduceAdd, reduceEqDiff, reduceIte, reduceSub, Nat.reduceLT, reduceMul, reduceLeDiff, reduceCtorEq, dgo_nil, dgo_cons, own_set0, hit]
            repeat (first | ((first | refine sA hL hn rfl ?_ | refine sB hL hn rfl ?_); simp only [go_sem, Nat.reduceBEq, Int.reduceLT, Int.reduceLE, reduceAdd, reduceEqDiff, reduceIte, reduceSub, Nat.reduceLT, reduceMul, reduceLeDiff, reduceCtorEq]) | ((first | refine sC ?_ | refine sH ?_ | refine sI ?_ | refine sJ ?_); try simp only [thenK, blockK, loopK, loopG, if_true, if_false, reduceEqDiff]) | refine sD ?_ | refine sE ?_ | refine sF rfl ?_ | refine sG rfl ?_)
            refine SWops.entry (by rw [hn]; rfl) rfl rfl rfl (mid := σ.length + 2) (since := nm.length) (clock := nm.length) (b := b) (seen := seen) (bs := List.range nm.length) (ds := P2) (es := []) (i := i) (by simp [own_get]) (by simp [own_get]) List.nodup_range hbi hke hve ?_
            refine SWops.go hL (by rw [hn]; rfl) ?_
            simp (maxSteps := 2000000) only [go_sem, Nat.reduceBEq, Int.reduceLT, Int.reduceLE, reduceAdd, reduceEqDiff, reduceIte, reduceSub, Nat.reduceLT, reduceMul, reduceLeDiff, reduceCtorEq, dgo_nil, dgo_cons, ia, ib, ic, ta, tb, tc, hg5, hg6, hs5]
            repeat (first | ((first | refine sA hL hn rfl ?_ | refine sB hL hn rfl ?_); simp only [go_sem, Nat.reduceBEq, Int.reduceLT, Int.reduceLE, reduceAdd, reduceEqDiff, reduceIte, reduceSub, Nat.reduceLT, reduceMul, reduceLeDiff, reduceCtorEq, ia, ib, ic, ta, tb, tc, hg5, hg6, hs5]) | ((first | refine sC ?_ | refine sH ?_ | refine sI ?_ | refine sJ ?_); try simp only [thenK, blockK, loopK, loopG, if_true, if_false, reduceEqDiff]) | refine sD ?_ | refine sE ?_ | refine sF rfl ?_ | refine sG rfl ?_)
            refine sM hL hm hn di13_24 [σ ++ (.arr 34 7 [.agg [.int .i64 sz, lD nwo, (.sl (σ.length + (T'.length + 4)) sn.length 0 sn.length), .int .i64 nx, .int .i64 0, .nils, .nils]] :: Ob.oth (.map bs c1) P :: Ob.oth (.map (List.range nm.length) nm.length) P2 :: (T' ++ (Ob.oth (.iter (some (σ.length + 2)) nm.length (seen ++ [b]) nm.length) [] :: .arr 63 4 S :: (G ++ [.arr 81 3 [.agg [.int .u64 e.a, .int .u64 e.b, .int .u64 e.c]]])))), σ ++ (.arr 34 7 [.agg [.int .i64 sz, lD nwo, (.sl (σ.length + (T'.length + 4)) sn.length 0 sn.length), .int .i64 nx, .int .i64 0, .nils, .nils]] :: Ob.oth (.map bs c1) P :: Ob.oth (.map (List.range nm.length) nm.length) P2 :: (T' ++ (Ob.oth (.iter (some (σ.length + 2)) nm.length (seen ++ [b]) nm.length) [] :: .arr 63 4 S :: (G ++ [.arr 81 3 [.agg [.int .u64 e.a, .int .u64 e.b, .int .u64 e.c]], .arr 63 4 [.agg [.int .i64 e.id, .str TX, .int .i64 SZ, .vec 0 3 (f.l.map eX)]]])))), σ ++ (.arr 34 7 [.agg [.int .i64 sz, lD nwo, (.sl (σ.length + (T'.length + 4)) sn.length 0 sn.length), .int .i64 nx, .int .i64 0, .nils, .nils]] :: Ob.oth (.map bs c1) P :: Ob.oth (.map (List.range nm.length) nm.length) P2 :: (T' ++ (Ob.oth (.iter (some (σ.length + 2)) nm.length (seen ++ [b]) nm.length) [] :: .arr 63 4 (S ++ [.agg [.int .i64 e.id, .str TX, .int .i64 SZ, .vec 0 3 (f.l.map eX)]]) :: (G ++ [.arr 81 3 [.agg [.int .u64 e.a, .int .u64 e.b, .int .u64 e.c]], .arr 63 4 [.agg [.int .i64 e.id, .str TX, .int .i64 SZ, .vec 0 3 (f.l.map eX)]]])))), σ ++ (.arr 34 7 [.agg [.int .i64 sz, lD nwo, (.sl (σ.length + (T'.length + 4)) (sn.length + 1) 0 (sn.length + 1)), .int .i64 nx, .int .i64 0, .nils, .nils]] :: Ob.oth (.map bs c1) P :: Ob.oth (.map (List.range nm.length) nm.length) P2 :: (T' ++ (Ob.oth (.iter (some (σ.length + 2)) nm.length (seen ++ [b]) nm.length) [] :: .arr 63 4 (S ++ [.agg [.int .i64 e.id, .str TX, .int .i64 SZ, .vec 0 3 (f.l.map eX)]]) :: (G ++ [.arr 81 3 [.agg [.int .u64 e.a, .int .u64 e.b, .int .u64 e.c]], .arr 63 4 [.agg [.int .i64 e.id, .str TX, .int .i64 SZ, .vec 0 3 (f.l.map eX)]]]))))] rfl rfl rfl ?_
            unfold di13_24
            repeat (rw [dgo_cons]; simp (maxSteps := 2000000) only [go_sem, Nat.reduceBEq, Int.reduceLT, Int.reduceLE, reduceAdd, reduceEqDiff, reduceIte, reduceSub, Nat.reduceLT, reduceMul, reduceLeDiff, reduceCtorEq, ia, ib, ic, ta, tb, tc, hg5, hg6, hs5])
            try rw [dgo_nil]
            try simp only [go_sem, Nat.reduceBEq, Int.reduceLT, Int.reduceLE, reduceAdd, reduceEqDiff, reduceIte, reduceSub, Nat.reduceLT, reduceMul, reduceLeDiff, reduceCtorEq, ia, ib, ic, ta, tb, tc, hg5, hg6, hs5]
            refine DCall.pure hP (fun q _ => number_ok _ _) rfl rfl rfl rfl ?_; repeat (simp (maxSteps := 2000000) only [go_sem, Nat.reduceBEq, Int.reduceLT, Int.reduceLE, reduceAdd, reduceEqDiff, reduceIte, reduceSub, Nat.reduceLT, reduceMul, reduceLeDiff, reduceCtorEq, hg5, hg6, hs5, ia, ib, ic, ta, tb, tc]; first | rw [dgo_cons] | rw [dgo_nil])
            try simp only [go_sem, Nat.reduceBEq, Int.reduceLT, Int.reduceLE, reduceAdd, reduceEqDiff, reduceIte, reduceSub, Nat.reduceLT, reduceMul, reduceLeDiff, reduceCtorEq, hg5, hg6, hs5, ia, ib, ic, ta, tb, tc]
            refine DCall.pure hP (fun q _ => text_ok _ _ _ (numF_nonneg e.c) _) rfl rfl rfl rfl ?_; repeat (simp (maxSteps := 2000000) only [go_sem, Nat.reduceBEq, Int.reduceLT, Int.reduceLE, reduceAdd, reduceEqDiff, reduceIte, reduceSub, Nat.reduceLT, reduceMul, reduceLeDiff, reduceCtorEq, hTX, hg5, hg6, hs5, ia, ib, ic, ta, tb, tc]; first | rw [dgo_cons] | rw [dgo_nil])
            try simp only [go_sem, Nat.reduceBEq, Int.reduceLT, Int.reduceLE, reduceAdd, reduceEqDiff, reduceIte, reduceSub, Nat.reduceLT, reduceMul, reduceLeDiff, reduceCtorEq, hTX, hg5, hg6, hs5, ia, ib, ic, ta, tb, tc]
            refine DCall.pure hP (fun q _ => number_ok _ _) rfl rfl rfl rfl ?_; repeat (simp (maxSteps := 2000000) only [go_sem, Nat.reduceBEq, Int.reduceLT, Int.reduceLE, reduceAdd, reduceEqDiff, reduceIte, reduceSub, Nat.reduceLT, reduceMul, reduceLeDiff, reduceCtorEq, hSZ, hko, hfd2, L28, hbs, hg5, hg6, hs5, hlo, hlc, appDV, aS, hSl, hcap]; first | rw [dgo_cons] | rw [dgo_nil])
            try simp only [go_sem, Nat.reduceBEq, Int.reduceLT, Int.reduceLE, reduceAdd, reduceEqDiff, reduceIte, reduceSub, Nat.reduceLT, reduceMul, reduceLeDiff, reduceCtorEq, hSZ, hko, hfd2, L28, hbs, hg5, hg6, hs5, hlo, hlc, appDV, aS, hSl, hcap]
            repeat (first | ((first | refine sA hL hn rfl ?_ | refine sB hL hn rfl ?_); simp only [go_sem, Nat.reduceBEq, Int.reduceLT, Int.reduceLE, reduceAdd, reduceEqDiff, reduceIte, reduceSub, Nat.reduceLT, reduceMul, reduceLeDiff, reduceCtorEq]) | ((first | refine sC ?_ | refine sH ?_ | refine sI ?_ | refine sJ ?_); try simp only [thenK, blockK, loopK, loopG, if_true, if_false, reduceEqDiff]) | refine sD ?_ | refine sE ?_ | refine sF rfl ?_ | refine sG rfl ?_)
            have q1 : (sn ++ [(⟨e.id, TX, SZ, (some f.l)⟩ : SnT)]).map eST = S ++ [.agg [.int .i64 e.id, .str TX, .int .i64 SZ, .vec 0 3 (f.l.map eX)]] := by rw [List.map_append, ← hS]; rfl
            have hlt := unseen_lt seen b hbs0 (List.range nm.length) (List.mem_of_getElem? hbi)
            refine Lp.nextg (seen ++ [b], sn ++ [⟨e.id, TX, SZ, (some f.l)⟩], G ++ [.arr 81 3 [.agg [.int .u64 e.a, .int .u64 e.b, .int .u64 e.c]], .arr 63 4 [.agg [.int .i64 e.id, .str TX, .int .i64 SZ, .vec 0 3 (f.l.map eX)]]]) ⟨by simp [h1], by simp; omega, fun s hs => ?_⟩ (by simp only; exact hlt) (.of (by simp [q1]) (by simp [agree, lk]))
            rcases List.mem_append.1 hs with hs | hs
            · exact h3 s hs
            · rw [List.mem_singleton.1 hs]; exact hTXs
end Go.VL
end
