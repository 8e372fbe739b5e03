/- Proved: MetaLoads: whatever items and data come in (together of bulk at most 1048576), the call returns true and they read as they did; no other condition. This text is part 12 of 15. -/
import Derived.Test.YthobgocbfoigfaaGreatW11
section
set_option linter.unusedSimpArgs false
set_option linter.unusedVariables false
set_option maxRecDepth 10000
set_option maxHeartbeats 4000000
namespace Go.VL
open Go Go.Proofs
open Nat (reduceAdd reduceEqDiff reduceSub reduceMul reduceLeDiff)
def di17_7 : List DI := [⟨[2], [], false, [0, 1], some 37, []⟩, ⟨[6], [], false, [0], some 38, []⟩, ⟨[5], [], false, [0], some 39, []⟩, ⟨[39], [2], false, [0], some 40, [2]⟩, ⟨[40], [2, 3], false, [0], some 41, [3]⟩, ⟨[38, 41], rg 1 4, false, [0], some 42, [1, 4, 4]⟩, ⟨[6], [], false, [0], some 43, []⟩, ⟨[43], [6], false, [0], some 44, [6]⟩, ⟨[5], [], false, [0], some 45, []⟩, ⟨[45], [8], false, [0], some 46, [8]⟩, ⟨[46], (rg 1 5 ++ [8, 9]), false, [0], some 47, [9, 5]⟩, ⟨[44, 47], rg 1 10, false, [0], some 48, [7, 10, 10]⟩, ⟨[6], [], false, [0], some 49, []⟩, ⟨[49], [12], false, [0], some 50, [12]⟩, ⟨[5], [], false, [0], some 51, []⟩, ⟨[51], [14], false, [0], some 52, [14]⟩, ⟨[52], [14, 15], false, [0], some 53, [15]⟩, ⟨[53], [14, 15, 16], false, [0], some 54, [16]⟩, ⟨[5], [], false, [0], some 55, []⟩, ⟨[55], [18], false, [0], some 56, [18]⟩, ⟨[56], [18, 19], false, [0], some 57, [19]⟩, ⟨[57], [18, 19, 20], false, [0], some 58, [20]⟩, ⟨[54, 58], rg 14 8, false, [0], some 59, [17, 21]⟩, ⟨[50, 59], rg 1 22, false, [0], some 60, [13, 22, 11]⟩, ⟨[42, 48, 60], rg 1 23, true, [], some 61, [5, 11, 23]⟩, ⟨[37, 61], rg 0 25, true, [], some 62, [0, 24, 23]⟩, ⟨[62], rg 0 26, false, [2], some 2, ([25, 25] ++ rg 0 26)⟩]
def di17_13 : List DI := [⟨[10], [], false, [0], some 75, []⟩, ⟨[75], [0], false, [0], some 76, [0]⟩, ⟨[76], [0, 1], false, [0], some 77, [1]⟩, ⟨[10], [], false, [0], some 78, []⟩, ⟨[78], [3], false, [0], some 79, [3]⟩, ⟨[79], [3, 4], false, [0], some 80, [4]⟩, ⟨[10], [], false, [0], some 81, []⟩, ⟨[81], [6], false, [0], some 82, [6]⟩, ⟨[82], [6, 7], false, [0], some 83, [7]⟩, ⟨[77], [0, 1, 2], false, [0], some 11, [2, 0, 1, 2]⟩, ⟨[80], (rg 0 6 ++ [9]), false, [0], some 12, ([5, 9] ++ rg 0 6 ++ [9])⟩, ⟨[83], rg 0 11, false, [0], some 13, ([8, 10] ++ rg 0 11)⟩]
def di17_14 : List DI := [⟨[2], [], false, [0, 1], some 84, []⟩, ⟨[11], [], false, [0], some 85, []⟩, ⟨[85], [1], false, [0], some 86, [1]⟩, ⟨[12], [], false, [0], some 87, []⟩, ⟨[86, 87], [1, 2, 3], false, [0], some 88, [2, 3]⟩, ⟨[13], [], false, [0], some 89, []⟩, ⟨[89], [5], false, [0], some 90, [5]⟩, ⟨[10], [], false, [0], some 91, []⟩, ⟨[91], [7], false, [0], some 92, [7]⟩, ⟨[92], [7, 8], false, [0], some 93, [8]⟩, ⟨[90, 93], rg 5 5, false, [0], some 94, [6, 9]⟩, ⟨[88, 94], rg 1 10, false, [0], some 95, [4, 10]⟩, ⟨[13], [], false, [0], some 96, []⟩, ⟨[96], [12], false, [0], some 97, [12]⟩, ⟨[11], [], false, [0], some 98, []⟩, ⟨[98], [14], false, [0], some 99, [14]⟩, ⟨[97, 99], rg 12 4, false, [0], some 100, [13, 15]⟩, ⟨[12], [], false, [0], some 101, []⟩, ⟨[100, 101], rg 12 6, false, [0], some 102, [16, 17]⟩, ⟨[10], [], false, [0], some 103, []⟩, ⟨[103], [19], false, [0], some 104, [19]⟩, ⟨[104], [19, 20], false, [0], some 105, [20]⟩, ⟨[102, 105], rg 1 21, false, [0], some 106, [18, 21, 11]⟩, ⟨[95, 106], rg 1 22, true, [], some 107, [11, 22]⟩, ⟨[84, 107], rg 0 24, true, [], some 108, [0, 23, 22]⟩, ⟨[108], rg 0 25, false, [2], some 2, ([24, 24] ++ rg 0 25)⟩]

theorem sortItemsL (xs : List It) (hsz : xs.length ≤ 1000000000) : ∃ ys : List It, ys.length = xs.length ∧ (∀ y ∈ ys, y ∈ xs) ∧
    ∀ (m t : Nat) (σ : List Ob), 0 < xs.length → σ[m]? = some (.arr t 2 (xs.map eT)) → Ok Tryz.prog 41 [.sl m xs.length 0 xs.length, .fn 42 []] σ (.ret (.tup [])) (σ.set m (.arr t 2 (ys.map eT))) := by
  have hO := swo_cmp eT cfS It.k (fun _ _ => rfl) xs
  obtain ⟨ys, h1, h2, h3⟩ := sortF_map eT cfS xs hO
  refine ⟨ys, h1, h2, fun m t σ hn hm => ?_⟩
  have := sortItem_ok (cf := cfS) (ds := xs.map eT) (g := 42) hO (fun x hx y hy => by
    obtain ⟨a, _, rfl⟩ := List.mem_map.1 hx
    obtain ⟨b, _, rfl⟩ := List.mem_map.1 hy
    exact items1_ok _ _ _ _ _) (fun x hx => by
    obtain ⟨a, _, rfl⟩ := List.mem_map.1 hx
    exact ⟨_, rfl, rfl, fun d hd => by simp only [List.mem_cons, List.not_mem_nil, or_false] at hd; rcases hd with rfl | rfl <;> exact ⟨(low_int _ _).2 trivial, rfl⟩⟩) hm (by rw [List.length_map]; exact hn) (by rw [List.length_map]; omega)
  rw [h3, List.length_map] at this
  exact this
theorem low_eT (n : Nat) (x : It) : Low n (eT x) := by simp [eT, eN, low_agg, low_int]
theorem all_eT (rs : List It) : ((rs.map eT).all fun y => y.cells.all DV.one) = true := by
  rw [List.all_eq_true]
  intro y hy
  obtain ⟨x, _, rfl⟩ := List.mem_map.1 hy
  rfl
def shlF (n : Int) (k : Int) : Int := IntKind.u64.wrap (n * 2 ^ min (Int.toNat k) 64)
abbrev wu64 (n : Int) : Int := IntKind.u64.wrap n
def orF64 (a b : Int) : Int := bits .u64 .or a b
def id8 (s : Sn) : Int := IntKind.u64.wrap (IntKind.u64.wrap s.id * 2 ^ min (Int.toNat 8) 64)
def it3v (s : Sn) : Int := bits .u64 .or (IntKind.u64.wrap (IntKind.u64.wrap s.size * 2 ^ min (Int.toNat 8) 64)) (IntKind.u64.wrap (s.name.size : Int))
def it3 (s : Sn) : List It := [⟨itF 3 (id8 s), e8F s.name 0 8⟩, ⟨itF 3 (bits .u64 .or (id8 s) 1), e8F s.name 8 8⟩, ⟨itF 3 (bits .u64 .or (id8 s) 2), it3v s⟩]
def s32 (n : Int) : Int := IntKind.u64.wrap (IntKind.u64.wrap n * 2 ^ min (Int.toNat 32) 64)
def s20 (n : Int) : Int := IntKind.u64.wrap (IntKind.u64.wrap n * 2 ^ min (Int.toNat 20) 64)
def it2 (r : Rf) : List It := [⟨itF 1 (bits .u64 .or (s32 r.o) (IntKind.u64.wrap r.v)), bits .u64 .or (s32 r.p) (IntKind.u64.wrap r.l)⟩, ⟨itF 2 (bits .u64 .or (bits .u64 .or (s32 r.p) (s20 r.o)) (IntKind.u64.wrap r.v)), IntKind.u64.wrap r.l⟩]
def it1 (v : Vo) : It := ⟨itF 4 0, bits .u64 .or (s32 v.size) (IntKind.u64.wrap v.next)⟩
theorem it3_len : ∀ (l : List Sn), (l.flatMap it3).length = 3 * l.length
  | [] => rfl
  | x :: r => by rw [List.flatMap_cons, List.length_append, it3_len r]; simp [it3]; omega
theorem it2_len : ∀ (l : List Rf), (l.flatMap it2).length = 2 * l.length
  | [] => rfl
  | x :: r => by rw [List.flatMap_cons, List.length_append, it2_len r]; simp [it2]; omega
theorem noId_of_low {α : Type} (e : α → DV) (h : ∀ n a, Low n (e a)) (l : List α) (id : Nat) : (∀ x ∈ l.map e, NoId id x) ↔ True := iff_of_true (fun y hy => by
  obtain ⟨x, _, rfl⟩ := List.mem_map.1 hy
  exact h id x id (Nat.le_refl _)) trivial
theorem itemsRaw_ok (v : Vo) (sp : DV) (hs1 : sp.one = true) (hs2 : ∀ n, Low n sp) (hv : v.snaps.length ≤ 8) (hC : refsCheckF (mapsF v) = 0) (hnm : ∀ s ∈ v.snaps, s.name.size ≤ 1000000000) :
    ∃ ys : List It, ys.length ≤ 1000000 ∧ ∃ G : Ob, ∀ σ, Ok Tryz.prog 17 [eV v sp] σ (.ret (.sl (σ.length + 2) ys.length 0 ys.length)) (σ ++ [.arr 34 7 [eV v sp], .dead, .arr 27 2 (ys.map eT), G]) := by
  have hs3 : sp.cells = [sp] := by cases sp <;> first | rfl | cases hs1
  simp only [DV.one] at hs1
  simp only [DV.cells] at hs3
  have hsN : ∀ id, NoId id sp := fun id => hs2 id id (Nat.le_refl _)
  obtain ⟨rs, hrl, hrefs⟩ := refs_ok 0 0 (mapsF v) hC
  obtain ⟨W, hW⟩ : ∃ W, W = v.snaps.flatMap it3 ++ rs.flatMap it2 ++ [it1 v] := ⟨_, rfl⟩
  have hWl : W.length ≤ 18457 := by rw [hW]; simp only [List.length_append, it3_len, it2_len, List.length_cons, List.length_nil]; omega
  have hW0 : 0 < W.length := by rw [hW]; simp only [List.length_append, List.length_cons]; omega
  obtain ⟨ys, hy1, _, hsort⟩ := sortItemsL W (by omega)
  refine ⟨ys, by omega, .arr 27 2 [eT (it1 v)], fun σ => ?_⟩
  unfold eV
  obtain ⟨N, hN⟩ : ∃ N, N = v.now.map eX := ⟨_, rfl⟩
  obtain ⟨Z, hZ⟩ : ∃ Z, Z = v.snaps.map (eZ 0) := ⟨_, rfl⟩
  obtain ⟨D, hD⟩ : ∃ D, D = v.data.map (eD 0) := ⟨_, rfl⟩
  obtain ⟨RS, hRS⟩ : ∃ RS, RS = rs.map eR := ⟨_, rfl⟩
  have hZl : Z.length = v.snaps.length := by rw [hZ, List.length_map]
  have hRSl : RS.length = rs.length := by rw [hRS, List.length_map]
  have hNm := lowIff eX low_eXn v.now
  have hZm := lowIff (eZ 0) (fun n => low_eZ n 0) v.snaps
  have hDm := lowIff (eD 0) (fun n => low_eD n 0) v.data
  have hRm := lowIff eR (fun n x => by simp [eR, eI, low_agg, low_int]) rs
  have hNn := noId_of_low eX low_eXn v.now
  have hZn := noId_of_low (eZ 0) (fun n => low_eZ n 0) v.snaps
  have hDn := noId_of_low (eD 0) (fun n => low_eD n 0) v.data
  rw [← hN] at hNm hNn
  rw [← hZ] at hZm hZn
  rw [← hD] at hDm hDn
  rw [← hRS] at hRm hrefs
  rw [← hN, ← hZ, ← hD]
  refine Ok.of_body layOk Tryz.func17 rfl (by decide) (by simp [Tryz.ntmps17]) fun C hP hn hσ hfix hdd => ?_
  rw [show Tryz.f17.ntmps = 125 from rfl] at hn
  have hL : LayOk C.P L := hP ▸ layOk
  have hm : C.P.follows .mixedOrders = true := hP ▸ mixed
  have hb : ∀ (a : Int) (b : List DV), buildDV L 87 [(0, .int .i64 a), (1, .vec 0 3 b)] = some (.agg [.int .i64 a, .vec 0 3 b]) := fun _ _ => rfl
  repeat (first | ((first | refine sA hL hn rfl ?_ | refine sB hL hn rfl ?_); simp only [go_sem, Nat.reduceBEq, Int.reduceLT, Int.reduceLE, reduceAdd, reduceEqDiff, reduceIte, reduceSub, Nat.reduceLT, reduceMul, reduceLeDiff, reduceCtorEq, hs1, hs3, hb]) | ((first | refine sC ?_ | refine sH ?_ | refine sI ?_ | refine sJ ?_); try simp only [thenK, blockK, loopK, loopG, if_true, if_false, reduceEqDiff]) | refine sD ?_ | refine sE ?_ | refine sF rfl ?_ | refine sG rfl ?_)
  refine SW.lpg (fun x : Nat × List (Int × List Ex) × List It => ⟨[(1, .ptr σ.length 1 0 0), (2, .sl (σ.length + 2) x.2.2.length 0 x.2.2.length), (3, .sl (σ.length + 1) x.2.1.length 0 x.2.1.length), (19, .vec 0 4 Z), (20, .int .i64 v.snaps.length), (21, .int .i64 x.1)],
    σ ++ [.arr 34 7 [.agg [.int .i64 v.size, .vec 0 3 N, .vec 0 4 Z, .int .i64 v.next, .int .i64 v.fs, sp, .vec 0 1 D]], .arr 87 2 (x.2.1.map (eM 0)), .arr 27 2 (x.2.2.map eT)]⟩) (fun x => v.snaps.length - x.1)
    (fun x => x.1 ≤ v.snaps.length ∧ x.2.1 = (0, v.now) :: (v.snaps.take x.1).map (fun s => (s.id, s.list)) ∧ x.2.2 = (v.snaps.take x.1).flatMap it3) (0, [(0, v.now)], []) ⟨by simp, by simp, by simp⟩ ?_ ?_
  · exact Ghost.trans (Ghost.newNil 2 27 2 (by simp [lk])) (.of (by simp [eM, hN]) (by simp [agree, lk, up, hZl]))
  rintro ⟨k, ms, out⟩ ⟨hk, hms, hout⟩
  simp only at hk hms hout
  have hol : out.length = 3 * k := by rw [hout, it3_len]; simp; omega
  have hml : ms.length = k + 1 := by rw [hms]; simp; omega
  obtain ⟨O, hO⟩ : ∃ O, O = out.map eT := ⟨_, rfl⟩
  have hOl : O.length = out.length := by rw [hO, List.length_map]
  have aO := all_eT out
  rw [← hO] at aO
  simp only [DV.cells] at aO
  obtain ⟨M, hM⟩ : ∃ M, M = ms.map (eM 0) := ⟨_, rfl⟩
  have hMl : M.length = ms.length := by rw [hM, List.length_map]
  have aM := all_eM 0 ms
  rw [← hM] at aM
  simp only [DV.cells] at aM
  by_cases hlt : k < v.snaps.length
  · have e1 : decide ((k : Int) < (v.snaps.length : Int)) = true := decide_eq_true (by omega)
    have e2 : (0 ≤ (k : Int) ∧ (k : Int) < (Z.length : Int)) := by omega
    obtain ⟨x, hx⟩ : ∃ x, x = v.snaps[k] := ⟨_, rfl⟩
    have hxn := hnm x (by rw [hx]; exact List.getElem_mem _)
    obtain ⟨xl, hxl⟩ : ∃ xl, xl = x.list.map eX := ⟨_, rfl⟩
    have hxm := lowIff eX low_eXn x.list
    rw [← hxl] at hxm
    have e3 : Z[k]?.getD .undef = .agg [.int .i64 x.id, .str x.name, .int .i64 x.size, .vec 0 3 xl] := by rw [hZ, hxl, hx]; simp [hlt, eZ]
    have w1 : IntKind.i64.wrap ((k : Int) + 1) = ((k + 1 : Nat) : Int) := wi (by omega) (by omega)
    have hnx : (0, v.now) :: (v.snaps.take (k + 1)).map (fun s => (s.id, s.list)) = ms ++ [(x.id, x.list)] := by rw [List.take_succ_eq_append_getElem hlt, List.map_append, hms, hx]; rfl
    have hnx2 : (v.snaps.take (k + 1)).flatMap it3 = out ++ it3 x := by rw [List.take_succ_eq_append_getElem hlt, List.flatMap_append, hout, hx]; simp
    have hcap : (ms.length + 1) * 32 ≤ 140737488355328 := by omega
    have hcap2 : (out.length + 3) * 16 ≤ 140737488355328 := by omega
    have q1 : (ms ++ [(x.id, x.list)]).map (eM 0) = M ++ [.agg [.int .i64 x.id, .vec 0 3 xl]] := by rw [List.map_append, ← hM, hxl]; rfl
    have q2 : (ms ++ [(x.id, x.list)]).length = ms.length + 1 := by simp
    obtain ⟨i8, hi8⟩ : ∃ i8, i8 = id8 x := ⟨_, rfl⟩
    have hi8' : IntKind.u64.wrap (IntKind.u64.wrap x.id * 2 ^ min (Int.toNat 8) 64) = i8 := hi8.symm
    obtain ⟨t3, ht3⟩ : ∃ t3, t3 = it3v x := ⟨_, rfl⟩
    have ht3' : bits .u64 .or (IntKind.u64.wrap (IntKind.u64.wrap x.size * 2 ^ min (Int.toNat 8) 64)) (IntKind.u64.wrap (x.name.size : Int)) = t3 := ht3.symm
    have q3 : (out ++ it3 x).map eT = O ++ [.agg [.int .u64 (itF 3 i8), .int .u64 (e8F x.name 0 8)], .agg [.int .u64 (itF 3 (bits .u64 .or i8 1)), .int .u64 (e8F x.name 8 8)], .agg [.int .u64 (itF 3 (bits .u64 .or i8 2)), .int .u64 t3]] := by rw [List.map_append, ← hO, hi8, ht3]; rfl
    have q4 : (out ++ it3 x).length = out.length + 3 := by simp [it3]
    rw [← hO, ← hM]
    repeat (first | ((first | refine sA hL hn rfl ?_ | refine sB hL hn rfl ?_); simp only [go_sem, Nat.reduceBEq, Int.reduceLT, Int.reduceLE, reduceAdd, reduceEqDiff, reduceIte, reduceSub, Nat.reduceLT, reduceMul, reduceLeDiff, reduceCtorEq, e1, e2, e3, hb, appDV, aM, hMl, hcap, hi8']) | ((first | refine sC ?_ | refine sH ?_ | refine sI ?_ | refine sJ ?_); try simp only [thenK, blockK, loopK, loopG, if_true, if_false, reduceEqDiff]) | refine sD ?_ | refine sE ?_ | refine sF rfl ?_ | refine sG rfl ?_)
    refine sM hL hm hn di17_7 [σ ++ [.arr 34 7 [.agg [.int .i64 v.size, .vec 0 3 N, .vec 0 4 Z, .int .i64 v.next, .int .i64 v.fs, sp, .vec 0 1 D]], .arr 87 2 (M ++ [.agg [.int .i64 x.id, .vec 0 3 xl]]), .arr 27 2 O, .arr 63 4 [.agg [.int .i64 x.id, .str x.name, .int .i64 x.size, .vec 0 3 xl]], .arr 87 2 [.agg [.int .i64 x.id, .vec 0 3 xl]]], σ ++ [.arr 34 7 [.agg [.int .i64 v.size, .vec 0 3 N, .vec 0 4 Z, .int .i64 v.next, .int .i64 v.fs, sp, .vec 0 1 D]], .arr 87 2 (M ++ [.agg [.int .i64 x.id, .vec 0 3 xl]]), .arr 27 2 O, .arr 63 4 [.agg [.int .i64 x.id, .str x.name, .int .i64 x.size, .vec 0 3 xl]], .arr 87 2 [.agg [.int .i64 x.id, .vec 0 3 xl]], .arr 27 2 [.agg [.int .u64 (itF 3 i8), .int .u64 (e8F x.name 0 8)], .agg [.int .u64 (itF 3 (bits .u64 .or i8 1)), .int .u64 (e8F x.name 8 8)], .agg [.int .u64 (itF 3 (bits .u64 .or i8 2)), .int .u64 t3]]], σ ++ [.arr 34 7 [.agg [.int .i64 v.size, .vec 0 3 N, .vec 0 4 Z, .int .i64 v.next, .int .i64 v.fs, sp, .vec 0 1 D]], .arr 87 2 (M ++ [.agg [.int .i64 x.id, .vec 0 3 xl]]), .arr 27 2 (O ++ [.agg [.int .u64 (itF 3 i8), .int .u64 (e8F x.name 0 8)], .agg [.int .u64 (itF 3 (bits .u64 .or i8 1)), .int .u64 (e8F x.name 8 8)], .agg [.int .u64 (itF 3 (bits .u64 .or i8 2)), .int .u64 t3]]), .arr 63 4 [.agg [.int .i64 x.id, .str x.name, .int .i64 x.size, .vec 0 3 xl]], .arr 87 2 [.agg [.int .i64 x.id, .vec 0 3 xl]], .arr 27 2 [.agg [.int .u64 (itF 3 i8), .int .u64 (e8F x.name 0 8)], .agg [.int .u64 (itF 3 (bits .u64 .or i8 1)), .int .u64 (e8F x.name 8 8)], .agg [.int .u64 (itF 3 (bits .u64 .or i8 2)), .int .u64 t3]]]] rfl rfl rfl ?_
    unfold di17_7
    repeat (rw [dgo_cons]; simp (maxSteps := 2000000) only [go_sem, Nat.reduceBEq, Int.reduceLT, Int.reduceLE, reduceAdd, reduceEqDiff, reduceIte, reduceSub, Nat.reduceLT, reduceMul, reduceLeDiff, reduceCtorEq])
    try rw [dgo_nil]
    try simp only [go_sem, Nat.reduceBEq, Int.reduceLT, Int.reduceLE, reduceAdd, reduceEqDiff, reduceIte, reduceSub, Nat.reduceLT, reduceMul, reduceLeDiff, reduceCtorEq]
    refine DCall.pure hP (fun q _ => eight_ok x.name hxn 0 (by omega) _) rfl rfl rfl rfl ?_; repeat (simp (maxSteps := 2000000) only [go_sem, Nat.reduceBEq, Int.reduceLT, Int.reduceLE, reduceAdd, reduceEqDiff, reduceIte, reduceSub, Nat.reduceLT, reduceMul, reduceLeDiff, reduceCtorEq]; first | rw [dgo_cons] | rw [dgo_nil])
    try simp only [go_sem, Nat.reduceBEq, Int.reduceLT, Int.reduceLE, reduceAdd, reduceEqDiff, reduceIte, reduceSub, Nat.reduceLT, reduceMul, reduceLeDiff, reduceCtorEq]
    refine DCall.pure hP (fun q _ => item_ok 3 i8 _ _) rfl rfl rfl rfl ?_; repeat (simp (maxSteps := 2000000) only [go_sem, Nat.reduceBEq, Int.reduceLT, Int.reduceLE, reduceAdd, reduceEqDiff, reduceIte, reduceSub, Nat.reduceLT, reduceMul, reduceLeDiff, reduceCtorEq]; first | rw [dgo_cons] | rw [dgo_nil])
    try simp only [go_sem, Nat.reduceBEq, Int.reduceLT, Int.reduceLE, reduceAdd, reduceEqDiff, reduceIte, reduceSub, Nat.reduceLT, reduceMul, reduceLeDiff, reduceCtorEq]
    refine DCall.pure hP (fun q _ => eight_ok x.name hxn 8 (by omega) _) rfl rfl rfl rfl ?_; repeat (simp (maxSteps := 2000000) only [go_sem, Nat.reduceBEq, Int.reduceLT, Int.reduceLE, reduceAdd, reduceEqDiff, reduceIte, reduceSub, Nat.reduceLT, reduceMul, reduceLeDiff, reduceCtorEq]; first | rw [dgo_cons] | rw [dgo_nil])
    try simp only [go_sem, Nat.reduceBEq, Int.reduceLT, Int.reduceLE, reduceAdd, reduceEqDiff, reduceIte, reduceSub, Nat.reduceLT, reduceMul, reduceLeDiff, reduceCtorEq]
    refine DCall.pure hP (fun q _ => item_ok 3 _ _ _) rfl rfl rfl rfl ?_; repeat (simp (maxSteps := 2000000) only [go_sem, Nat.reduceBEq, Int.reduceLT, Int.reduceLE, reduceAdd, reduceEqDiff, reduceIte, reduceSub, Nat.reduceLT, reduceMul, reduceLeDiff, reduceCtorEq, ht3']; first | rw [dgo_cons] | rw [dgo_nil])
    try simp only [go_sem, Nat.reduceBEq, Int.reduceLT, Int.reduceLE, reduceAdd, reduceEqDiff, reduceIte, reduceSub, Nat.reduceLT, reduceMul, reduceLeDiff, reduceCtorEq, ht3']
    refine DCall.pure hP (fun q _ => item_ok 3 _ _ _) rfl rfl rfl rfl ?_; repeat (simp (maxSteps := 2000000) only [go_sem, Nat.reduceBEq, Int.reduceLT, Int.reduceLE, reduceAdd, reduceEqDiff, reduceIte, reduceSub, Nat.reduceLT, reduceMul, reduceLeDiff, reduceCtorEq, appDV, aO, hOl, hcap2]; first | rw [dgo_cons] | rw [dgo_nil])
    try simp only [go_sem, Nat.reduceBEq, Int.reduceLT, Int.reduceLE, reduceAdd, reduceEqDiff, reduceIte, reduceSub, Nat.reduceLT, reduceMul, reduceLeDiff, reduceCtorEq, appDV, aO, hOl, hcap2]
    repeat (first | ((first | refine sA hL hn rfl ?_ | refine sB hL hn rfl ?_); simp only [go_sem, Nat.reduceBEq, Int.reduceLT, Int.reduceLE, reduceAdd, reduceEqDiff, reduceIte, reduceSub, Nat.reduceLT, reduceMul, reduceLeDiff, reduceCtorEq, w1]) | ((first | refine sC ?_ | refine sH ?_ | refine sI ?_ | refine sJ ?_); try simp only [thenK, blockK, loopK, loopG, if_true, if_false, reduceEqDiff]) | refine sD ?_ | refine sE ?_ | refine sF rfl ?_ | refine sG rfl ?_)
    refine Lp.nextg (k + 1, ms ++ [(x.id, x.list)], out ++ it3 x) ⟨by simp only; omega, hnx.symm, hnx2.symm⟩ (by simp only; omega) ?_
    have q5 := low_ob (eM 0) (fun n => low_eM n 0) (σ.length + 3) 87 2 (ms ++ [(x.id, x.list)])
    have q6 := low_ob eT low_eT (σ.length + 3) 27 2 (out ++ it3 x)
    rw [q1] at q5
    rw [q3] at q6
    simp only [q1, q2, q3, q4]
    refine Ghost.keep 3 _ hσ hfix (by simp [agree, lk, hZl, hOl, hMl]) ?_ ⟨?_, q5, q6, trivial⟩ (by simp [lk, low_int, low_bool, low_str, low_nils, low_nilp, low_nilf, low_nili, low_undef, low_skip, low_vec, low_agg, low_tup, low_fn, low_vptr, low_iface, low_ptr, low_sl, low_mp, low_it, low_yld, low_emp, lowEnv, lowObs, lowOb, tmpObs, isArr, hxm])
    · simp [lk, low_int, low_bool, low_str, low_nils, low_nilp, low_nilf, low_nili, low_undef, low_skip, low_vec, low_agg, low_tup, low_fn, low_vptr, low_iface, low_ptr, low_sl, low_mp, low_it, low_yld, low_emp, lowEnv, lowObs, lowOb, tmpObs, isArr, hZm]
    · simp [lk, low_int, low_bool, low_str, low_nils, low_nilp, low_nilf, low_nili, low_undef, low_skip, low_vec, low_agg, low_tup, low_fn, low_vptr, low_iface, low_ptr, low_sl, low_mp, low_it, low_yld, low_emp, lowEnv, lowObs, lowOb, tmpObs, isArr, hNm, hZm, hDm, hs2]
  · have e1 : decide ((k : Int) < (v.snaps.length : Int)) = false := decide_eq_false (by omega)
    obtain rfl : k = v.snaps.length := by omega
    rw [List.take_length] at hms hout
    rw [show mapsF v = ms from hms.symm, ← hM] at hrefs
    rw [← hout] at hW
    rw [← hO, ← hM]
    have hMn := noId_of_low (eM 0) (fun n => low_eM n 0) ms
    rw [← hM] at hMn
    have hOn := noId_of_low eT low_eT out
    rw [← hO] at hOn
    rw [← hMl]
    refine SW.ghost (Ghost.giveAt 0 3 1 [(1, .ptr σ.length 1 0 0), (2, .sl (σ.length + 2) out.length 0 out.length), (20, .int .i64 v.snaps.length), (21, .int .i64 v.snaps.length)] hσ hfix rfl (by simp [agree, lk]) (by simp [noId_int, noId_bool, noId_str, noId_nils, noId_nilp, noId_nilf, noId_nili, noId_undef, noId_skip, noId_vec, noId_agg, noId_tup, noId_fn, noId_vptr, noId_iface, noId_ptr', noId_sl', noId_mp', noId_it', noId_yld', noId_emp, obNoId_arr, obNoId_oth, obNoId_dead, obsNoId, envNoId]) (by simp [noId_int, noId_bool, noId_str, noId_nils, noId_nilp, noId_nilf, noId_nili, noId_undef, noId_skip, noId_vec, noId_agg, noId_tup, noId_fn, noId_vptr, noId_iface, noId_ptr', noId_sl', noId_mp', noId_it', noId_yld', noId_emp, obNoId_arr, obNoId_oth, obNoId_dead, obsNoId, envNoId, hNn, hZn, hDn, hMn, hOn, hsN]) (fun x hx => (hMn _).2 trivial x hx)) ?_
    repeat (first | ((first | refine sA hL hn rfl ?_ | refine sB hL hn rfl ?_); simp only [go_sem, Nat.reduceBEq, Int.reduceLT, Int.reduceLE, reduceAdd, reduceEqDiff, reduceIte, reduceSub, Nat.reduceLT, reduceMul, reduceLeDiff, reduceCtorEq, e1]) | ((first | refine sC ?_ | refine sH ?_ | refine sI ?_ | refine sJ ?_); try simp only [thenK, blockK, loopK, loopG, if_true, if_false, reduceEqDiff]) | refine sD ?_ | refine sE ?_ | refine sF rfl ?_ | refine sG rfl ?_)
    refine sK hP hL hn rfl rfl (hrefs _) rfl rfl rfl rfl ?_; simp (maxSteps := 2000000) only [go_sem, Nat.reduceBEq, Int.reduceLT, Int.reduceLE, reduceAdd, reduceEqDiff, reduceIte, reduceSub, Nat.reduceLT, reduceMul, reduceLeDiff, reduceCtorEq]
    repeat (first | ((first | refine sA hL hn rfl ?_ | refine sB hL hn rfl ?_); simp only [go_sem, Nat.reduceBEq, Int.reduceLT, Int.reduceLE, reduceAdd, reduceEqDiff, reduceIte, reduceSub, Nat.reduceLT, reduceMul, reduceLeDiff, reduceCtorEq]) | ((first | refine sC ?_ | refine sH ?_ | refine sI ?_ | refine sJ ?_); try simp only [thenK, blockK, loopK, loopG, if_true, if_false, reduceEqDiff]) | refine sD ?_ | refine sE ?_ | refine sF rfl ?_ | refine sG rfl ?_)
    refine SW.lpg (fun x : Nat × List It => ⟨[(1, .ptr σ.length 1 0 0), (2, .sl (σ.length + 2) x.2.length 0 x.2.length), (69, .vec 0 4 RS), (70, .int .i64 rs.length), (71, .int .i64 x.1)],
      σ ++ [.arr 34 7 [.agg [.int .i64 v.size, .vec 0 3 N, .vec 0 4 Z, .int .i64 v.next, .int .i64 v.fs, sp, .vec 0 1 D]], .dead, .arr 27 2 (x.2.map eT)]⟩) (fun x => rs.length - x.1)
      (fun x => x.1 ≤ rs.length ∧ x.2 = out ++ (rs.take x.1).flatMap it2) (0, out) ⟨by simp, by simp⟩ (.of (by simp [← hO]) (by simp [agree, lk, hRSl])) ?_
    rintro ⟨k, out2⟩ ⟨hk, hout2⟩
    simp only at hk hout2
    have hol2 : out2.length = out.length + 2 * k := by rw [hout2, List.length_append, it2_len]; simp; omega
    obtain ⟨Q, hQ⟩ : ∃ Q, Q = out2.map eT := ⟨_, rfl⟩
    have hQl : Q.length = out2.length := by rw [hQ, List.length_map]
    have aQ := all_eT out2
    rw [← hQ] at aQ
    simp only [DV.cells] at aQ
    rw [← hQ]
    by_cases hlt2 : k < rs.length
    · have e1 : decide ((k : Int) < (rs.length : Int)) = true := decide_eq_true (by omega)
      have e2 : (0 ≤ (k : Int) ∧ (k : Int) < (RS.length : Int)) := by omega
      obtain ⟨x, hx⟩ : ∃ x, x = rs[k] := ⟨_, rfl⟩
      have e3 : RS[k]?.getD .undef = .agg [.int .i64 x.p, .int .i64 x.l, .int .i64 x.o, .int .i64 x.v] := by rw [hRS, hx]; simp [hlt2, eR, eI]
      have w1 : IntKind.i64.wrap ((k : Int) + 1) = ((k + 1 : Nat) : Int) := wi (by omega) (by omega)
      have hnx : out ++ (rs.take (k + 1)).flatMap it2 = out2 ++ it2 x := by rw [List.take_succ_eq_append_getElem hlt2, List.flatMap_append, hout2, hx]; simp
      have hcap : (out2.length + 2) * 16 ≤ 140737488355328 := by omega
      obtain ⟨O32, hO32⟩ : ∃ a, a = s32 x.o := ⟨_, rfl⟩
      have g1 : IntKind.u64.wrap (IntKind.u64.wrap x.o * 2 ^ min (Int.toNat 32) 64) = O32 := hO32.symm
      obtain ⟨O20, hO20⟩ : ∃ a, a = s20 x.o := ⟨_, rfl⟩
      have g2 : IntKind.u64.wrap (IntKind.u64.wrap x.o * 2 ^ min (Int.toNat 20) 64) = O20 := hO20.symm
      obtain ⟨P32, hP32⟩ : ∃ a, a = s32 x.p := ⟨_, rfl⟩
      have g3 : IntKind.u64.wrap (IntKind.u64.wrap x.p * 2 ^ min (Int.toNat 32) 64) = P32 := hP32.symm
      obtain ⟨V, hV⟩ : ∃ a, a = IntKind.u64.wrap x.v := ⟨_, rfl⟩
      obtain ⟨LL, hLL⟩ : ∃ a, a = IntKind.u64.wrap x.l := ⟨_, rfl⟩
      have q3 : (out2 ++ it2 x).map eT = Q ++ [.agg [.int .u64 (itF 1 (bits .u64 .or O32 V)), .int .u64 (bits .u64 .or P32 LL)], .agg [.int .u64 (itF 2 (bits .u64 .or (bits .u64 .or P32 O20) V)), .int .u64 LL]] := by rw [List.map_append, ← hQ, hO32, hO20, hP32, hV, hLL]; rfl
      have q4 : (out2 ++ it2 x).length = out2.length + 2 := by simp [it2]
      repeat (first | ((first | refine sA hL hn rfl ?_ | refine sB hL hn rfl ?_); simp only [go_sem, Nat.reduceBEq, Int.reduceLT, Int.reduceLE, reduceAdd, reduceEqDiff, reduceIte, reduceSub, Nat.reduceLT, reduceMul, reduceLeDiff, reduceCtorEq, e1, e2, e3]) | ((first | refine sC ?_ | refine sH ?_ | refine sI ?_ | refine sJ ?_); try simp only [thenK, blockK, loopK, loopG, if_true, if_false, reduceEqDiff]) | refine sD ?_ | refine sE ?_ | refine sF rfl ?_ | refine sG rfl ?_)
      refine sM hL hm hn di17_13 [σ ++ [.arr 34 7 [.agg [.int .i64 v.size, .vec 0 3 N, .vec 0 4 Z, .int .i64 v.next, .int .i64 v.fs, sp, .vec 0 1 D]], .dead, .arr 27 2 Q, .arr 94 4 [.agg [.int .i64 x.p, .int .i64 x.l, .int .i64 x.o, .int .i64 x.v]]]] rfl rfl rfl ?_
      unfold di17_13
      repeat (rw [dgo_cons]; simp (maxSteps := 2000000) only [go_sem, Nat.reduceBEq, Int.reduceLT, Int.reduceLE, reduceAdd, reduceEqDiff, reduceIte, reduceSub, Nat.reduceLT, reduceMul, reduceLeDiff, reduceCtorEq])
      try rw [dgo_nil]
      try simp only [go_sem, Nat.reduceBEq, Int.reduceLT, Int.reduceLE, reduceAdd, reduceEqDiff, reduceIte, reduceSub, Nat.reduceLT, reduceMul, reduceLeDiff, reduceCtorEq]
      refine sM hL hm hn di17_14 [σ ++ [.arr 34 7 [.agg [.int .i64 v.size, .vec 0 3 N, .vec 0 4 Z, .int .i64 v.next, .int .i64 v.fs, sp, .vec 0 1 D]], .dead, .arr 27 2 Q, .arr 94 4 [.agg [.int .i64 x.p, .int .i64 x.l, .int .i64 x.o, .int .i64 x.v]]], σ ++ [.arr 34 7 [.agg [.int .i64 v.size, .vec 0 3 N, .vec 0 4 Z, .int .i64 v.next, .int .i64 v.fs, sp, .vec 0 1 D]], .dead, .arr 27 2 Q, .arr 94 4 [.agg [.int .i64 x.p, .int .i64 x.l, .int .i64 x.o, .int .i64 x.v]], .arr 27 2 [.agg [.int .u64 (itF 1 (bits .u64 .or O32 V)), .int .u64 (bits .u64 .or P32 LL)], .agg [.int .u64 (itF 2 (bits .u64 .or (bits .u64 .or P32 O20) V)), .int .u64 LL]]], σ ++ [.arr 34 7 [.agg [.int .i64 v.size, .vec 0 3 N, .vec 0 4 Z, .int .i64 v.next, .int .i64 v.fs, sp, .vec 0 1 D]], .dead, .arr 27 2 (Q ++ [.agg [.int .u64 (itF 1 (bits .u64 .or O32 V)), .int .u64 (bits .u64 .or P32 LL)], .agg [.int .u64 (itF 2 (bits .u64 .or (bits .u64 .or P32 O20) V)), .int .u64 LL]]), .arr 94 4 [.agg [.int .i64 x.p, .int .i64 x.l, .int .i64 x.o, .int .i64 x.v]], .arr 27 2 [.agg [.int .u64 (itF 1 (bits .u64 .or O32 V)), .int .u64 (bits .u64 .or P32 LL)], .agg [.int .u64 (itF 2 (bits .u64 .or (bits .u64 .or P32 O20) V)), .int .u64 LL]]]] rfl rfl rfl ?_
      unfold di17_14
      repeat (rw [dgo_cons]; simp (maxSteps := 2000000) only [go_sem, Nat.reduceBEq, Int.reduceLT, Int.reduceLE, reduceAdd, reduceEqDiff, reduceIte, reduceSub, Nat.reduceLT, reduceMul, reduceLeDiff, reduceCtorEq, g1, g2, g3, ← hV, ← hLL])
      try rw [dgo_nil]
      try simp only [go_sem, Nat.reduceBEq, Int.reduceLT, Int.reduceLE, reduceAdd, reduceEqDiff, reduceIte, reduceSub, Nat.reduceLT, reduceMul, reduceLeDiff, reduceCtorEq, g1, g2, g3, ← hV, ← hLL]
      refine DCall.pure hP (fun q _ => item_ok 1 _ _ _) rfl rfl rfl rfl ?_; repeat (simp (maxSteps := 2000000) only [go_sem, Nat.reduceBEq, Int.reduceLT, Int.reduceLE, reduceAdd, reduceEqDiff, reduceIte, reduceSub, Nat.reduceLT, reduceMul, reduceLeDiff, reduceCtorEq, g1, g2, g3, ← hV, ← hLL]; first | rw [dgo_cons] | rw [dgo_nil])
      try simp only [go_sem, Nat.reduceBEq, Int.reduceLT, Int.reduceLE, reduceAdd, reduceEqDiff, reduceIte, reduceSub, Nat.reduceLT, reduceMul, reduceLeDiff, reduceCtorEq, g1, g2, g3, ← hV, ← hLL]
      refine DCall.pure hP (fun q _ => item_ok 2 _ _ _) rfl rfl rfl rfl ?_; repeat (simp (maxSteps := 2000000) only [go_sem, Nat.reduceBEq, Int.reduceLT, Int.reduceLE, reduceAdd, reduceEqDiff, reduceIte, reduceSub, Nat.reduceLT, reduceMul, reduceLeDiff, reduceCtorEq, g1, g2, g3, ← hV, ← hLL, appDV, aQ, hQl, hcap]; first | rw [dgo_cons] | rw [dgo_nil])
      try simp only [go_sem, Nat.reduceBEq, Int.reduceLT, Int.reduceLE, reduceAdd, reduceEqDiff, reduceIte, reduceSub, Nat.reduceLT, reduceMul, reduceLeDiff, reduceCtorEq, g1, g2, g3, ← hV, ← hLL, appDV, aQ, hQl, hcap]
      repeat (first | ((first | refine sA hL hn rfl ?_ | refine sB hL hn rfl ?_); simp only [go_sem, Nat.reduceBEq, Int.reduceLT, Int.reduceLE, reduceAdd, reduceEqDiff, reduceIte, reduceSub, Nat.reduceLT, reduceMul, reduceLeDiff, reduceCtorEq, w1]) | ((first | refine sC ?_ | refine sH ?_ | refine sI ?_ | refine sJ ?_); try simp only [thenK, blockK, loopK, loopG, if_true, if_false, reduceEqDiff]) | refine sD ?_ | refine sE ?_ | refine sF rfl ?_ | refine sG rfl ?_)
      refine Lp.nextg (k + 1, out2 ++ it2 x) ⟨by simp only; omega, hnx.symm⟩ (by simp only; omega) ?_
      have q6 := low_ob eT low_eT (σ.length + 3) 27 2 (out2 ++ it2 x)
      rw [q3] at q6
      simp only [q3, q4]
      refine Ghost.keep 3 _ hσ hfix (by simp [agree, lk, hRSl, hQl]) ?_ ⟨?_, trivial, q6, trivial⟩ (by simp [lk, low_int, low_bool, low_str, low_nils, low_nilp, low_nilf, low_nili, low_undef, low_skip, low_vec, low_agg, low_tup, low_fn, low_vptr, low_iface, low_ptr, low_sl, low_mp, low_it, low_yld, low_emp, lowEnv, lowObs, lowOb, tmpObs, isArr])
      · simp [lk, low_int, low_bool, low_str, low_nils, low_nilp, low_nilf, low_nili, low_undef, low_skip, low_vec, low_agg, low_tup, low_fn, low_vptr, low_iface, low_ptr, low_sl, low_mp, low_it, low_yld, low_emp, lowEnv, lowObs, lowOb, tmpObs, isArr, hRm]
      · simp [lk, low_int, low_bool, low_str, low_nils, low_nilp, low_nilf, low_nili, low_undef, low_skip, low_vec, low_agg, low_tup, low_fn, low_vptr, low_iface, low_ptr, low_sl, low_mp, low_it, low_yld, low_emp, lowEnv, lowObs, lowOb, tmpObs, isArr, hNm, hZm, hDm, hs2]
    · have e1 : decide ((k : Int) < (rs.length : Int)) = false := decide_eq_false (by omega)
      obtain rfl : k = rs.length := by omega
      rw [List.take_length] at hout2
      rw [← hout2] at hW
      obtain ⟨S32, hS32⟩ : ∃ a, a = s32 v.size := ⟨_, rfl⟩
      have g4 : IntKind.u64.wrap (IntKind.u64.wrap v.size * 2 ^ min (Int.toNat 32) 64) = S32 := hS32.symm
      have hW2 : W.length = out2.length + 1 := by rw [hW]; simp
      have hWm : W.map eT = Q ++ [.agg [.int .u64 (itF 4 0), .int .u64 (bits .u64 .or S32 (IntKind.u64.wrap v.next))]] := by rw [hW, List.map_append, ← hQ, hS32]; rfl
      have hlast : eT (it1 v) = .agg [.int .u64 (itF 4 0), .int .u64 (bits .u64 .or S32 (IntKind.u64.wrap v.next))] := by rw [hS32]; rfl
      have hcap : (out2.length + 1) * 16 ≤ 140737488355328 := by omega
      rw [hWm, hW2] at hsort
      rw [hW2] at hW0
      rw [hy1, hW2, hlast]
      repeat (first | ((first | refine sA hL hn rfl ?_ | refine sB hL hn rfl ?_); simp only [go_sem, Nat.reduceBEq, Int.reduceLT, Int.reduceLE, reduceAdd, reduceEqDiff, reduceIte, reduceSub, Nat.reduceLT, reduceMul, reduceLeDiff, reduceCtorEq, e1, g4]) | ((first | refine sC ?_ | refine sH ?_ | refine sI ?_ | refine sJ ?_); try simp only [thenK, blockK, loopK, loopG, if_true, if_false, reduceEqDiff]) | refine sD ?_ | refine sE ?_ | refine sF rfl ?_ | refine sG rfl ?_)
      refine sK hP hL hn rfl rfl (item_ok 4 0 _ _) rfl rfl rfl rfl ?_; simp (maxSteps := 2000000) only [go_sem, Nat.reduceBEq, Int.reduceLT, Int.reduceLE, reduceAdd, reduceEqDiff, reduceIte, reduceSub, Nat.reduceLT, reduceMul, reduceLeDiff, reduceCtorEq, appDV, aQ, hQl, hcap]
      repeat (first | ((first | refine sA hL hn rfl ?_ | refine sB hL hn rfl ?_); simp only [go_sem, Nat.reduceBEq, Int.reduceLT, Int.reduceLE, reduceAdd, reduceEqDiff, reduceIte, reduceSub, Nat.reduceLT, reduceMul, reduceLeDiff, reduceCtorEq, appDV, aQ, hQl, hcap]) | ((first | refine sC ?_ | refine sH ?_ | refine sI ?_ | refine sJ ?_); try simp only [thenK, blockK, loopK, loopG, if_true, if_false, reduceEqDiff]) | refine sD ?_ | refine sE ?_ | refine sF rfl ?_ | refine sG rfl ?_)
      refine sK hP hL hn rfl rfl (hsort (σ.length + 2) 27 _ hW0 (by simp [own_get])) rfl rfl rfl rfl ?_; simp (maxSteps := 2000000) only [go_sem, Nat.reduceBEq, Int.reduceLT, Int.reduceLE, reduceAdd, reduceEqDiff, reduceIte, reduceSub, Nat.reduceLT, reduceMul, reduceLeDiff, reduceCtorEq]
      repeat (first | ((first | refine sA hL hn rfl ?_ | refine sB hL hn rfl ?_); simp only [go_sem, Nat.reduceBEq, Int.reduceLT, Int.reduceLE, reduceAdd, reduceEqDiff, reduceIte, reduceSub, Nat.reduceLT, reduceMul, reduceLeDiff, reduceCtorEq]) | ((first | refine sC ?_ | refine sH ?_ | refine sI ?_ | refine sJ ?_); try simp only [thenK, blockK, loopK, loopG, if_true, if_false, reduceEqDiff]) | refine sD ?_ | refine sE ?_ | refine sF rfl ?_ | refine sG rfl ?_)
      exact ⟨_, _, _, Ghost.refl _ _, rfl, GhostV.refl _ _ _, rfl⟩
theorem items_ok (v : Vo) (sp : DV) (hs1 : sp.one = true) (hs2 : ∀ n, Low n sp) (hv : v.snaps.length ≤ 8) (hC : refsCheckF (mapsF v) = 0) (hnm : ∀ s ∈ v.snaps, s.name.size ≤ 1000000000) :
    ∃ ys : List It, ∀ σ, Ok Tryz.prog 17 [eV v sp] σ (.ret (.vec 0 2 (ys.map eT))) σ := by
  obtain ⟨ys, _, G, h⟩ := itemsRaw_ok v sp hs1 hs2 hv hC hnm
  exact ⟨ys, fun σ => Ok.thaw (c := 0) (h []) (Fz.list eT (low_eT 0) (t := 27) (k := 2) rfl) (by simp; exact low_eV 0 v sp hs2) σ⟩
end Go.VL
end
section
set_option linter.unusedSimpArgs false
set_option linter.unusedVariables false
set_option maxRecDepth 10000
set_option maxHeartbeats 4000000
namespace Go.VL
open Go Go.Proofs
open Nat (reduceAdd reduceEqDiff reduceSub reduceMul reduceLeDiff)
def di12_4 : List DI := [⟨[3], [], false, [0], some 9, []⟩, ⟨[9], [0], false, [0], some 10, [0]⟩, ⟨[10], [0, 1], false, [0], some 11, [1]⟩, ⟨[0, 11], [0, 1, 2], false, [0], some 12, [2]⟩, ⟨[3, 11], [0, 1, 2], false, [0], some 13, [2]⟩, ⟨[11, 13], [0, 1, 2, 4], false, [0], some 14, [4, 2]⟩, ⟨[11, 12, 14], rg 0 6, false, [0], some 15, [3, 5, 2]⟩, ⟨[11, 15], rg 0 7, false, [0], some 16, [6, 2]⟩, ⟨[11, 16], rg 0 8, false, [0], some 17, [7, 2]⟩, ⟨[0, 11], [0, 1, 2], false, [0], some 18, [2]⟩, ⟨[3, 11], [0, 1, 2], false, [0], some 19, [2]⟩, ⟨[11, 18, 19], [0, 1, 2, 9, 10], false, [0], some 20, [9, 10, 2]⟩, ⟨[11, 20], [0, 1, 2, 9, 10, 11], false, [0], some 21, [11, 2]⟩, ⟨[11, 21], ([0, 1, 2] ++ rg 9 4), false, [0], some 22, [12, 2]⟩, ⟨[11, 17, 22], rg 0 14, false, [0], some 23, [8, 13, 2]⟩, ⟨[11, 23], rg 0 15, false, [0], some 24, [2, 14]⟩]
def di8_6 : List DI := [⟨[0], [], false, [0], some 17, []⟩, ⟨[5], [], false, [0], some 18, []⟩, ⟨[17, 18], [0, 1], false, [0], some 19, [0, 1]⟩, ⟨[19], [0, 1, 2], false, [0], some 20, [2]⟩, ⟨[1], [], false, [0], some 21, []⟩, ⟨[5], [], false, [0], some 22, []⟩, ⟨[21, 22], [4, 5], false, [0], some 23, [4, 5]⟩, ⟨[23], [4, 5, 6], false, [0], some 24, [6]⟩, ⟨[20, 24], rg 0 8, false, [0], some 25, [3, 7]⟩]
def di9_6 : List DI := [⟨[0], [], false, [0], some 17, []⟩, ⟨[5], [], false, [0], some 18, []⟩, ⟨[17, 18], [0, 1], false, [0], some 19, [0, 1]⟩, ⟨[19], [0, 1, 2], false, [0], some 20, [2]⟩, ⟨[20], rg 0 4, false, [0], some 21, [3]⟩, ⟨[1], [], false, [0], some 22, []⟩, ⟨[5], [], false, [0], some 23, []⟩, ⟨[22, 23], [5, 6], false, [0], some 24, [5, 6]⟩, ⟨[24], [5, 6, 7], false, [0], some 25, [7]⟩, ⟨[25], rg 5 4, false, [0], some 26, [8]⟩, ⟨[21, 26], rg 0 10, false, [0], some 27, [4, 9]⟩]

def keyAt (l : List It) (i : Nat) : Int := ((l[i]?).map It.k).getD 0
def upTo (l : List It) (k : Nat) : Bool := decide (∀ i, i < k → 0 < i → keyAt l (i - 1) < keyAt l i)
theorem upTo_step (l : List It) (k : Nat) (hk : 0 < k) : upTo l (k + 1) = (upTo l k && decide (keyAt l (k - 1) < keyAt l k)) := by
  unfold upTo
  rw [Bool.eq_iff_iff]
  simp only [decide_eq_true_eq, Bool.and_eq_true]
  constructor
  · intro h
    exact ⟨fun i hi h0 => h i (by omega) h0, h k (by omega) hk⟩
  · rintro ⟨h1, h2⟩ i hi h0
    rcases Nat.lt_or_ge i k with h | h
    · exact h1 i h h0
    · obtain rfl : i = k := by omega
      exact h2
theorem upTo_one (l : List It) : upTo l 1 = true := decide_eq_true fun i hi h0 => by omega
theorem upTo_zero (l : List It) : upTo l 0 = true := decide_eq_true fun i hi h0 => by omega
theorem upTo_mono (l : List It) {k n : Nat} (h : k ≤ n) (hf : upTo l k = false) : upTo l n = false := by
  unfold upTo at *
  rw [decide_eq_false_iff_not] at *
  exact fun q => hf fun i hi h0 => q i (by omega) h0
theorem rising_ok (c : Nat) (l : List It) (σ : List Ob) : Ok Tryz.prog 12 [.vec c 2 (l.map eT)] σ (.ret (.bool (upTo l l.length))) σ := by
  obtain ⟨X, hX⟩ : ∃ X, X = l.map eT := ⟨_, rfl⟩
  have hXl : X.length = l.length := by rw [hX, List.length_map]
  rw [← hX]
  refine Ok.of_body layOk Tryz.func12 rfl (by decide) (by simp [Tryz.ntmps12]) fun C hP hn hσ hfix hdd => ?_
  rw [show Tryz.f12.ntmps = 26 from rfl] at hn
  have hL : LayOk C.P L := hP ▸ layOk
  have hm : C.P.follows .mixedOrders = true := hP ▸ mixed
  refine SW.vlen 0 rfl fun hlen => ?_
  rw [hXl] at hlen
  repeat (first | ((first | refine sA hL hn rfl ?_ | refine sB hL hn rfl ?_); simp only [go_sem, Nat.reduceBEq, Int.reduceLT, Int.reduceLE, reduceAdd, reduceEqDiff, reduceIte, reduceSub, Nat.reduceLT, reduceMul, reduceLeDiff, reduceCtorEq]) | ((first | refine sC ?_ | refine sH ?_ | refine sI ?_ | refine sJ ?_); try simp only [thenK, blockK, loopK, loopG, if_true, if_false, reduceEqDiff]) | refine sD ?_ | refine sE ?_ | refine sF rfl ?_ | refine sG rfl ?_)
  refine SW.lpg (fun k : Nat => ⟨[(0, .vec c 2 X), (5, .int .i64 l.length), (6, .int .i64 k)], σ⟩) (fun k => l.length - k) (fun k => k ≤ l.length ∧ upTo l k = true) 0 ⟨by omega, upTo_zero l⟩ (.of rfl (by simp [agree, lk, hXl])) ?_
  intro k ⟨hk, hu⟩
  by_cases hlt : k < l.length
  · have e1 : decide ((k : Int) < (l.length : Int)) = true := decide_eq_true (by omega)
    have e2 : (0 ≤ (k : Int) ∧ (k : Int) < (X.length : Int)) := by omega
    obtain ⟨x, hx⟩ : ∃ x, x = l[k] := ⟨_, rfl⟩
    have e3 : X[k]?.getD .undef = .agg [.int .u64 x.k, .int .u64 x.v] := by rw [hX, hx]; simp [hlt, eT, eN]
    have kx : keyAt l k = x.k := by rw [hx]; simp [keyAt, hlt]
    have w1 : IntKind.i64.wrap ((k : Int) + 1) = ((k + 1 : Nat) : Int) := wi (by omega) (by omega)
    repeat (first | ((first | refine sA hL hn rfl ?_ | refine sB hL hn rfl ?_); simp only [go_sem, Nat.reduceBEq, Int.reduceLT, Int.reduceLE, reduceAdd, reduceEqDiff, reduceIte, reduceSub, Nat.reduceLT, reduceMul, reduceLeDiff, reduceCtorEq, e1]) | ((first | refine sC ?_ | refine sH ?_ | refine sI ?_ | refine sJ ?_); try simp only [thenK, blockK, loopK, loopG, if_true, if_false, reduceEqDiff]) | refine sD ?_ | refine sE ?_ | refine sF rfl ?_ | refine sG rfl ?_)
    refine sM hL hm hn di12_4 [σ] rfl rfl rfl ?_
    unfold di12_4
    by_cases h0 : k = 0
    · have d1 : decide ((k : Int) > 0) = false := decide_eq_false (by omega)
      repeat (rw [dgo_cons]; simp (maxSteps := 2000000) only [go_sem, Nat.reduceBEq, Int.reduceLT, Int.reduceLE, reduceAdd, reduceEqDiff, reduceIte, reduceSub, Nat.reduceLT, reduceMul, reduceLeDiff, reduceCtorEq, d1])
      try rw [dgo_nil]
      try simp only [go_sem, Nat.reduceBEq, Int.reduceLT, Int.reduceLE, reduceAdd, reduceEqDiff, reduceIte, reduceSub, Nat.reduceLT, reduceMul, reduceLeDiff, reduceCtorEq, d1]
      repeat (first | ((first | refine sA hL hn rfl ?_ | refine sB hL hn rfl ?_); simp only [go_sem, Nat.reduceBEq, Int.reduceLT, Int.reduceLE, reduceAdd, reduceEqDiff, reduceIte, reduceSub, Nat.reduceLT, reduceMul, reduceLeDiff, reduceCtorEq, w1]) | ((first | refine sC ?_ | refine sH ?_ | refine sI ?_ | refine sJ ?_); try simp only [thenK, blockK, loopK, loopG, if_true, if_false, reduceEqDiff]) | refine sD ?_ | refine sE ?_ | refine sF rfl ?_ | refine sG rfl ?_)
      exact Lp.nextg (k + 1) ⟨by omega, by rw [h0]; exact upTo_one l⟩ (by omega) (.of rfl (by simp [agree, lk]))
    have d1 : decide ((k : Int) > 0) = true := decide_eq_true (by omega)
    obtain ⟨j, hj⟩ : ∃ j, j = k - 1 := ⟨_, rfl⟩
    have w2 : IntKind.i64.wrap ((k : Int) - 1) = (j : Int) := wi (by omega) (by omega)
    have e2' : (0 ≤ (j : Int) ∧ (j : Int) < (X.length : Int)) := by omega
    obtain ⟨y, hy⟩ : ∃ y, y = l[j]'(by omega) := ⟨_, rfl⟩
    have e3' : X[j]?.getD .undef = .agg [.int .u64 y.k, .int .u64 y.v] := by rw [hX, hy]; simp [show j < l.length by omega, eT, eN]
    have ky : keyAt l (k - 1) = y.k := by rw [← hj, hy]; simp [keyAt, show j < l.length by omega]
    have hst := upTo_step l k (by omega)
    rw [hu, kx, ky, Bool.true_and] at hst
    cases d2 : decide (y.k ≥ x.k)
    · have hn' : decide (y.k < x.k) = true := decide_eq_true (by have := of_decide_eq_false d2; omega)
      rw [hn'] at hst
      repeat (rw [dgo_cons]; simp (maxSteps := 2000000) only [go_sem, Nat.reduceBEq, Int.reduceLT, Int.reduceLE, reduceAdd, reduceEqDiff, reduceIte, reduceSub, Nat.reduceLT, reduceMul, reduceLeDiff, reduceCtorEq, d1, w2, e2, e2', e3, e3', d2])
      try rw [dgo_nil]
      try simp only [go_sem, Nat.reduceBEq, Int.reduceLT, Int.reduceLE, reduceAdd, reduceEqDiff, reduceIte, reduceSub, Nat.reduceLT, reduceMul, reduceLeDiff, reduceCtorEq, d1, w2, e2, e2', e3, e3', d2]
      repeat (first | ((first | refine sA hL hn rfl ?_ | refine sB hL hn rfl ?_); simp only [go_sem, Nat.reduceBEq, Int.reduceLT, Int.reduceLE, reduceAdd, reduceEqDiff, reduceIte, reduceSub, Nat.reduceLT, reduceMul, reduceLeDiff, reduceCtorEq, w1]) | ((first | refine sC ?_ | refine sH ?_ | refine sI ?_ | refine sJ ?_); try simp only [thenK, blockK, loopK, loopG, if_true, if_false, reduceEqDiff]) | refine sD ?_ | refine sE ?_ | refine sF rfl ?_ | refine sG rfl ?_)
      exact Lp.nextg (k + 1) ⟨by omega, hst⟩ (by omega) (.of rfl (by simp [agree, lk]))
    · have hn' : decide (y.k < x.k) = false := decide_eq_false (by have := of_decide_eq_true d2; omega)
      rw [hn'] at hst
      rw [upTo_mono l (by omega) hst]
      repeat (rw [dgo_cons]; simp (maxSteps := 2000000) only [go_sem, Nat.reduceBEq, Int.reduceLT, Int.reduceLE, reduceAdd, reduceEqDiff, reduceIte, reduceSub, Nat.reduceLT, reduceMul, reduceLeDiff, reduceCtorEq, d1, w2, e2, e2', e3, e3', d2])
      try rw [dgo_nil]
      try simp only [go_sem, Nat.reduceBEq, Int.reduceLT, Int.reduceLE, reduceAdd, reduceEqDiff, reduceIte, reduceSub, Nat.reduceLT, reduceMul, reduceLeDiff, reduceCtorEq, d1, w2, e2, e2', e3, e3', d2]
      repeat (first | ((first | refine sA hL hn rfl ?_ | refine sB hL hn rfl ?_); simp only [go_sem, Nat.reduceBEq, Int.reduceLT, Int.reduceLE, reduceAdd, reduceEqDiff, reduceIte, reduceSub, Nat.reduceLT, reduceMul, reduceLeDiff, reduceCtorEq]) | ((first | refine sC ?_ | refine sH ?_ | refine sI ?_ | refine sJ ?_); try simp only [thenK, blockK, loopK, loopG, if_true, if_false, reduceEqDiff]) | refine sD ?_ | refine sE ?_ | refine sF rfl ?_ | refine sG rfl ?_)
      exact ⟨_, _, _, Ghost.refl _ _, rfl, GhostV.refl _ _ _, rfl⟩
  · have e1 : decide ((k : Int) < (l.length : Int)) = false := decide_eq_false (by omega)
    obtain rfl : k = l.length := by omega
    rw [hu]
    repeat (first | ((first | refine sA hL hn rfl ?_ | refine sB hL hn rfl ?_); simp only [go_sem, Nat.reduceBEq, Int.reduceLT, Int.reduceLE, reduceAdd, reduceEqDiff, reduceIte, reduceSub, Nat.reduceLT, reduceMul, reduceLeDiff, reduceCtorEq, e1]) | ((first | refine sC ?_ | refine sH ?_ | refine sI ?_ | refine sJ ?_); try simp only [thenK, blockK, loopK, loopG, if_true, if_false, reduceEqDiff]) | refine sD ?_ | refine sE ?_ | refine sF rfl ?_ | refine sG rfl ?_)
    exact ⟨_, _, _, Ghost.refl _ _, rfl, GhostV.refl _ _ _, rfl⟩
theorem sameItems_ok (c d : Nat) (xs : List It) (σ : List Ob) : Ok Tryz.prog 8 [.vec c 2 (xs.map eT), .vec d 2 (xs.map eT)] σ (.ret (.bool true)) σ := by
  obtain ⟨X, hX⟩ : ∃ X, X = xs.map eT := ⟨_, rfl⟩
  have hXl : X.length = xs.length := by rw [hX, List.length_map]
  rw [← hX]
  refine Ok.of_body layOk Tryz.func8 rfl (by decide) (by simp [Tryz.ntmps8]) fun C hP hn hσ hfix hdd => ?_
  rw [show Tryz.f8.ntmps = 26 from rfl] at hn
  have hL : LayOk C.P L := hP ▸ layOk
  have hm : C.P.follows .mixedOrders = true := hP ▸ mixed
  refine SW.vlen 0 rfl fun hlen => ?_
  rw [hXl] at hlen
  have d0 : ((X.length : Int) != (X.length : Int)) = false := by simp
  repeat (first | ((first | refine sA hL hn rfl ?_ | refine sB hL hn rfl ?_); simp only [go_sem, Nat.reduceBEq, Int.reduceLT, Int.reduceLE, reduceAdd, reduceEqDiff, reduceIte, reduceSub, Nat.reduceLT, reduceMul, reduceLeDiff, reduceCtorEq, d0]) | ((first | refine sC ?_ | refine sH ?_ | refine sI ?_ | refine sJ ?_); try simp only [thenK, blockK, loopK, loopG, if_true, if_false, reduceEqDiff]) | refine sD ?_ | refine sE ?_ | refine sF rfl ?_ | refine sG rfl ?_)
  refine SW.lpg (fun k : Nat => ⟨[(0, .vec c 2 X), (1, .vec d 2 X), (5, .int .i64 k)], σ⟩) (fun k => xs.length - k) (fun k => k ≤ xs.length) 0 (by omega) (.of rfl (by simp [agree, lk])) ?_
  intro k hk
  by_cases hlt : k < xs.length
  · have e1 : decide ((k : Int) < (X.length : Int)) = true := decide_eq_true (by omega)
    have e2 : (0 ≤ (k : Int) ∧ (k : Int) < (X.length : Int)) := by omega
    obtain ⟨x, hx⟩ : ∃ x, x = xs[k] := ⟨_, rfl⟩
    have e3 : X[k]?.getD .undef = .agg [.int .u64 x.k, .int .u64 x.v] := by rw [hX, hx]; simp [hlt, eT, eN]
    have w1 : IntKind.i64.wrap ((k : Int) + 1) = ((k + 1 : Nat) : Int) := wi (by omega) (by omega)
    repeat (first | ((first | refine sA hL hn rfl ?_ | refine sB hL hn rfl ?_); simp only [go_sem, Nat.reduceBEq, Int.reduceLT, Int.reduceLE, reduceAdd, reduceEqDiff, reduceIte, reduceSub, Nat.reduceLT, reduceMul, reduceLeDiff, reduceCtorEq, e1]) | ((first | refine sC ?_ | refine sH ?_ | refine sI ?_ | refine sJ ?_); try simp only [thenK, blockK, loopK, loopG, if_true, if_false, reduceEqDiff]) | refine sD ?_ | refine sE ?_ | refine sF rfl ?_ | refine sG rfl ?_)
    refine sM hL hm hn di8_6 [σ] rfl rfl rfl ?_
    unfold di8_6
    repeat (rw [dgo_cons]; simp (maxSteps := 2000000) only [go_sem, Nat.reduceBEq, Int.reduceLT, Int.reduceLE, reduceAdd, reduceEqDiff, reduceIte, reduceSub, Nat.reduceLT, reduceMul, reduceLeDiff, reduceCtorEq, e2, e3])
    try rw [dgo_nil]
    try simp only [go_sem, Nat.reduceBEq, Int.reduceLT, Int.reduceLE, reduceAdd, reduceEqDiff, reduceIte, reduceSub, Nat.reduceLT, reduceMul, reduceLeDiff, reduceCtorEq, e2, e3]
    repeat (first | ((first | refine sA hL hn rfl ?_ | refine sB hL hn rfl ?_); simp only [go_sem, Nat.reduceBEq, Int.reduceLT, Int.reduceLE, reduceAdd, reduceEqDiff, reduceIte, reduceSub, Nat.reduceLT, reduceMul, reduceLeDiff, reduceCtorEq, w1]) | ((first | refine sC ?_ | refine sH ?_ | refine sI ?_ | refine sJ ?_); try simp only [thenK, blockK, loopK, loopG, if_true, if_false, reduceEqDiff]) | refine sD ?_ | refine sE ?_ | refine sF rfl ?_ | refine sG rfl ?_)
    exact Lp.nextg (k + 1) (by omega) (by omega) (.of rfl (by simp [agree, lk]))
  · have e1 : decide ((k : Int) < (X.length : Int)) = false := decide_eq_false (by omega)
    repeat (first | ((first | refine sA hL hn rfl ?_ | refine sB hL hn rfl ?_); simp only [go_sem, Nat.reduceBEq, Int.reduceLT, Int.reduceLE, reduceAdd, reduceEqDiff, reduceIte, reduceSub, Nat.reduceLT, reduceMul, reduceLeDiff, reduceCtorEq, e1]) | ((first | refine sC ?_ | refine sH ?_ | refine sI ?_ | refine sJ ?_); try simp only [thenK, blockK, loopK, loopG, if_true, if_false, reduceEqDiff]) | refine sD ?_ | refine sE ?_ | refine sF rfl ?_ | refine sG rfl ?_)
    exact ⟨_, _, _, Ghost.refl _ _, rfl, GhostV.refl _ _ _, rfl⟩
theorem octs_eB : ∀ l : List UInt8, octs (l.map eB) = some l
  | [] => rfl
  | x :: r => by
    have : UInt8.ofNat ((x.toNat : Int).toNat) = x := by simp
    simp only [List.map_cons, eB, octs, octs_eB r, Option.map_some, this]
theorem sameList_ok (c d b b' : Nat) (xs : List (List UInt8)) (σ : List Ob) : Ok Tryz.prog 9 [.vec c 1 (xs.map (eD b)), .vec d 1 (xs.map (eD b'))] σ (.ret (.bool true)) σ := by
  obtain ⟨X, hX⟩ : ∃ X, X = xs.map (eD b) := ⟨_, rfl⟩
  have hXl : X.length = xs.length := by rw [hX, List.length_map]
  obtain ⟨Y, hY⟩ : ∃ Y, Y = xs.map (eD b') := ⟨_, rfl⟩
  have hYl : Y.length = xs.length := by rw [hY, List.length_map]
  rw [← hX, ← hY]
  refine Ok.of_body layOk Tryz.func9 rfl (by decide) (by simp [Tryz.ntmps9]) fun C hP hn hσ hfix hdd => ?_
  rw [show Tryz.f9.ntmps = 28 from rfl] at hn
  have hL : LayOk C.P L := hP ▸ layOk
  have hm : C.P.follows .mixedOrders = true := hP ▸ mixed
  refine SW.vlen 0 rfl fun hlen => ?_
  rw [hXl] at hlen
  have d0 : ((X.length : Int) != (Y.length : Int)) = false := by rw [hXl, hYl]; simp
  repeat (first | ((first | refine sA hL hn rfl ?_ | refine sB hL hn rfl ?_); simp only [go_sem, Nat.reduceBEq, Int.reduceLT, Int.reduceLE, reduceAdd, reduceEqDiff, reduceIte, reduceSub, Nat.reduceLT, reduceMul, reduceLeDiff, reduceCtorEq, d0]) | ((first | refine sC ?_ | refine sH ?_ | refine sI ?_ | refine sJ ?_); try simp only [thenK, blockK, loopK, loopG, if_true, if_false, reduceEqDiff]) | refine sD ?_ | refine sE ?_ | refine sF rfl ?_ | refine sG rfl ?_)
  refine SW.lpg (fun k : Nat => ⟨[(0, .vec c 1 X), (1, .vec d 1 Y), (5, .int .i64 k)], σ⟩) (fun k => xs.length - k) (fun k => k ≤ xs.length) 0 (by omega) (.of rfl (by simp [agree, lk])) ?_
  intro k hk
  by_cases hlt : k < xs.length
  · have e1 : decide ((k : Int) < (X.length : Int)) = true := decide_eq_true (by omega)
    have e2 : (0 ≤ (k : Int) ∧ (k : Int) < (X.length : Int)) := by omega
    have e2' : (0 ≤ (k : Int) ∧ (k : Int) < (Y.length : Int)) := by omega
    obtain ⟨x, hx⟩ : ∃ x, x = xs[k] := ⟨_, rfl⟩
    obtain ⟨xl, hxl⟩ : ∃ xl, xl = x.map eB := ⟨_, rfl⟩
    have hoct : octs xl = some x := by rw [hxl]; exact octs_eB x
    have hisO : isOct L 5 = true := rfl
    have e3 : X[k]?.getD .undef = .vec b 1 xl := by rw [hX, hxl, hx]; simp [hlt, eD]
    have e3' : Y[k]?.getD .undef = .vec b' 1 xl := by rw [hY, hxl, hx]; simp [hlt, eD]
    have w1 : IntKind.i64.wrap ((k : Int) + 1) = ((k + 1 : Nat) : Int) := wi (by omega) (by omega)
    repeat (first | ((first | refine sA hL hn rfl ?_ | refine sB hL hn rfl ?_); simp only [go_sem, Nat.reduceBEq, Int.reduceLT, Int.reduceLE, reduceAdd, reduceEqDiff, reduceIte, reduceSub, Nat.reduceLT, reduceMul, reduceLeDiff, reduceCtorEq, e1]) | ((first | refine sC ?_ | refine sH ?_ | refine sI ?_ | refine sJ ?_); try simp only [thenK, blockK, loopK, loopG, if_true, if_false, reduceEqDiff]) | refine sD ?_ | refine sE ?_ | refine sF rfl ?_ | refine sG rfl ?_)
    refine sM hL hm hn di9_6 [σ] rfl rfl rfl ?_
    unfold di9_6
    repeat (rw [dgo_cons]; simp (maxSteps := 2000000) only [go_sem, Nat.reduceBEq, Int.reduceLT, Int.reduceLE, reduceAdd, reduceEqDiff, reduceIte, reduceSub, Nat.reduceLT, reduceMul, reduceLeDiff, reduceCtorEq, e2, e2', e3, e3', srcDV, hoct, hisO, binStr])
    try rw [dgo_nil]
    try simp only [go_sem, Nat.reduceBEq, Int.reduceLT, Int.reduceLE, reduceAdd, reduceEqDiff, reduceIte, reduceSub, Nat.reduceLT, reduceMul, reduceLeDiff, reduceCtorEq, e2, e2', e3, e3', srcDV, hoct, hisO, binStr]
    repeat (first | ((first | refine sA hL hn rfl ?_ | refine sB hL hn rfl ?_); simp only [go_sem, Nat.reduceBEq, Int.reduceLT, Int.reduceLE, reduceAdd, reduceEqDiff, reduceIte, reduceSub, Nat.reduceLT, reduceMul, reduceLeDiff, reduceCtorEq, w1]) | ((first | refine sC ?_ | refine sH ?_ | refine sI ?_ | refine sJ ?_); try simp only [thenK, blockK, loopK, loopG, if_true, if_false, reduceEqDiff]) | refine sD ?_ | refine sE ?_ | refine sF rfl ?_ | refine sG rfl ?_)
    exact Lp.nextg (k + 1) (by omega) (by omega) (.of rfl (by simp [agree, lk]))
  · have e1 : decide ((k : Int) < (X.length : Int)) = false := decide_eq_false (by omega)
    repeat (first | ((first | refine sA hL hn rfl ?_ | refine sB hL hn rfl ?_); simp only [go_sem, Nat.reduceBEq, Int.reduceLT, Int.reduceLE, reduceAdd, reduceEqDiff, reduceIte, reduceSub, Nat.reduceLT, reduceMul, reduceLeDiff, reduceCtorEq, e1]) | ((first | refine sC ?_ | refine sH ?_ | refine sI ?_ | refine sJ ?_); try simp only [thenK, blockK, loopK, loopG, if_true, if_false, reduceEqDiff]) | refine sD ?_ | refine sE ?_ | refine sF rfl ?_ | refine sG rfl ?_)
    exact ⟨_, _, _, Ghost.refl _ _, rfl, GhostV.refl _ _ _, rfl⟩
theorem itemsTop_ok (v : Vo) (sp : DV) (hs1 : sp.one = true) (hs2 : ∀ n, Low n sp) (ys : List It) (hchk : ∀ σ, Ok Tryz.prog 10 [eV v sp] σ (.ret (.int .i64 0)) σ) (hit : ∀ σ, Ok Tryz.prog 17 [eV v sp] σ (.ret (.vec 0 2 (ys.map eT))) σ) (σ : List Ob) :
    Ok Tryz.prog 7 [eV v sp] σ (.ret (.tup [.vec 0 2 (ys.map eT), .int .i64 0])) σ := by
  refine Ok.thaw (c := 0) (O := [.arr 34 7 [eV v sp]]) (d := .tup [.vec 0 2 (ys.map eT), .int .i64 0]) ?_ (.low ?_) (by simp; exact low_eV 0 v sp hs2) σ
  rotate_left
  · simp [low_tup, low_int, low_vec]
    intro a _
    exact low_eT 0 a
  have hs3 : sp.cells = [sp] := by cases sp <;> first | rfl | cases hs1
  simp only [DV.one] at hs1
  simp only [DV.cells] at hs3
  unfold eV at hchk hit ⊢
  obtain ⟨N, hN⟩ : ∃ N, N = v.now.map eX := ⟨_, rfl⟩
  obtain ⟨Z, hZ⟩ : ∃ Z, Z = v.snaps.map (eZ 0) := ⟨_, rfl⟩
  obtain ⟨D, hD⟩ : ∃ D, D = v.data.map (eD 0) := ⟨_, rfl⟩
  obtain ⟨Y, hY⟩ : ∃ Y, Y = ys.map eT := ⟨_, rfl⟩
  rw [← hN, ← hZ, ← hD, ← hY] at hit ⊢
  rw [← hN, ← hZ, ← hD] at hchk
  have hz : ((0 : Int) != 0) = false := rfl
  obtain ⟨σ, hσ0⟩ : ∃ σ : List Ob, σ = [] := ⟨_, rfl⟩
  rw [show ([DV.agg [.int .i64 v.size, .vec 0 3 N, .vec 0 4 Z, .int .i64 v.next, .int .i64 v.fs, sp, .vec 0 1 D]] : List DV) = [DV.agg [.int .i64 v.size, .vec 0 3 N, .vec 0 4 Z, .int .i64 v.next, .int .i64 v.fs, sp, .vec 0 1 D]] from rfl]
  suffices h : Ok Tryz.prog 7 [DV.agg [.int .i64 v.size, .vec 0 3 N, .vec 0 4 Z, .int .i64 v.next, .int .i64 v.fs, sp, .vec 0 1 D]] σ (.ret (.tup [.vec 0 2 Y, .int .i64 0])) (σ ++ [.arr 34 7 [DV.agg [.int .i64 v.size, .vec 0 3 N, .vec 0 4 Z, .int .i64 v.next, .int .i64 v.fs, sp, .vec 0 1 D]]]) by
    rw [hσ0] at h
    exact h
  refine Ok.of_body layOk Tryz.func7 rfl (by decide) (by simp [Tryz.ntmps7]) fun C hP hn hσ hfix hdd => ?_
  rw [show Tryz.f7.ntmps = 12 from rfl] at hn
  have hL : LayOk C.P L := hP ▸ layOk
  have hm : C.P.follows .mixedOrders = true := hP ▸ mixed
  repeat (first | ((first | refine sA hL hn rfl ?_ | refine sB hL hn rfl ?_); simp only [go_sem, Nat.reduceBEq, Int.reduceLT, Int.reduceLE, reduceAdd, reduceEqDiff, reduceIte, reduceSub, Nat.reduceLT, reduceMul, reduceLeDiff, reduceCtorEq, hs1, hs3]) | ((first | refine sC ?_ | refine sH ?_ | refine sI ?_ | refine sJ ?_); try simp only [thenK, blockK, loopK, loopG, if_true, if_false, reduceEqDiff]) | refine sD ?_ | refine sE ?_ | refine sF rfl ?_ | refine sG rfl ?_)
  refine sK hP hL hn rfl rfl (hchk _) rfl rfl rfl rfl ?_; simp (maxSteps := 2000000) only [go_sem, Nat.reduceBEq, Int.reduceLT, Int.reduceLE, reduceAdd, reduceEqDiff, reduceIte, reduceSub, Nat.reduceLT, reduceMul, reduceLeDiff, reduceCtorEq]
  repeat (first | ((first | refine sA hL hn rfl ?_ | refine sB hL hn rfl ?_); simp only [go_sem, Nat.reduceBEq, Int.reduceLT, Int.reduceLE, reduceAdd, reduceEqDiff, reduceIte, reduceSub, Nat.reduceLT, reduceMul, reduceLeDiff, reduceCtorEq, hz]) | ((first | refine sC ?_ | refine sH ?_ | refine sI ?_ | refine sJ ?_); try simp only [thenK, blockK, loopK, loopG, if_true, if_false, reduceEqDiff]) | refine sD ?_ | refine sE ?_ | refine sF rfl ?_ | refine sG rfl ?_)
  refine sK hP hL hn rfl rfl (hit _) rfl rfl rfl rfl ?_; simp (maxSteps := 2000000) only [go_sem, Nat.reduceBEq, Int.reduceLT, Int.reduceLE, reduceAdd, reduceEqDiff, reduceIte, reduceSub, Nat.reduceLT, reduceMul, reduceLeDiff, reduceCtorEq]
  repeat (first | ((first | refine sA hL hn rfl ?_ | refine sB hL hn rfl ?_); simp only [go_sem, Nat.reduceBEq, Int.reduceLT, Int.reduceLE, reduceAdd, reduceEqDiff, reduceIte, reduceSub, Nat.reduceLT, reduceMul, reduceLeDiff, reduceCtorEq]) | ((first | refine sC ?_ | refine sH ?_ | refine sI ?_ | refine sJ ?_); try simp only [thenK, blockK, loopK, loopG, if_true, if_false, reduceEqDiff]) | refine sD ?_ | refine sE ?_ | refine sF rfl ?_ | refine sG rfl ?_)
  exact ⟨_, _, _, Ghost.refl _ _, rfl, GhostV.refl _ _ _, rfl⟩
end Go.VL
end
section
set_option linter.unusedSimpArgs false
set_option linter.unusedVariables false
set_option maxRecDepth 10000
set_option maxHeartbeats 4000000
namespace Go.VL
open Go Go.Proofs
open Nat (reduceAdd reduceEqDiff reduceSub reduceMul reduceLeDiff)

section
variable {α : Type} (k v : α → DV)
def pr (es : List α) : List DV := es.flatMap fun e => [k e, v e]
theorem pr_cons (e : α) (r : List α) : pr k v (e :: r) = k e :: v e :: pr k v r := rfl
theorem pr_append (a b : List α) : pr k v (a ++ b) = pr k v a ++ pr k v b := by unfold pr; rw [List.flatMap_append]
theorem pr_length : ∀ es : List α, (pr k v es).length = 2 * es.length
  | [] => rfl
  | e :: r => by rw [pr_cons, List.length_cons, List.length_cons, pr_length r, List.length_cons]; omega
theorem pr_get : ∀ (es : List α) (q : Nat), (pr k v es)[2 * q]? = es[q]?.map k ∧ (pr k v es)[2 * q + 1]? = es[q]?.map v
  | [], q => by simp [pr]
  | e :: r, 0 => by simp [pr_cons]
  | e :: r, q + 1 => by
    have := pr_get r q
    rw [show 2 * (q + 1) = 2 * q + 2 by omega, pr_cons]
    simpa using this
theorem pr_set (e' : α) : ∀ (es : List α) (q : Nat), ((pr k v es).set (2 * q) (k e')).set (2 * q + 1) (v e') = pr k v (es.set q e')
  | [], q => by simp [pr]
  | e :: r, 0 => by simp [pr_cons]
  | e :: r, q + 1 => by
    have := pr_set e' r q
    rw [show 2 * (q + 1) = 2 * q + 2 by omega, pr_cons]
    simp only [List.set_cons_succ, pr_cons, ← this]
theorem pr_congr {k' v' : α → DV} {es : List α} (h : ∀ e ∈ es, k e = k' e ∧ v e = v' e) : pr k v es = pr k' v' es := by
  unfold pr
  induction es with
  | nil => rfl
  | cons e r ih =>
    simp only [List.flatMap_cons]
    rw [(h e (by simp)).1, (h e (by simp)).2, ih fun x hx => h x (List.mem_cons_of_mem _ hx)]
end
theorem findD_pr {α : Type} (key : α → Int) (v : α → DV) (o : Int) : ∀ (es : List α) (i : Nat),
    (findD L 3 (.int .i64 o) (pr (fun e => .int .i64 (key e)) v es) i = some none) ∨ (∃ q e, es[q]? = some e ∧ key e = o ∧ findD L 3 (.int .i64 o) (pr (fun e => .int .i64 (key e)) v es) i = some (some (i + q, v e)))
  | [], i => .inl rfl
  | e :: r, i => by
    have hq : keyEq L 3 (.int .i64 o) (.int .i64 (key e)) = some (o == key e) := rfl
    rw [pr_cons]
    simp only [findD, hq]
    cases h : (o == key e)
    · rcases findD_pr key v o r (i + 1) with h1 | ⟨q, x, h1, h2, h3⟩
      · exact .inl h1
      · refine .inr ⟨q + 1, x, by simpa using h1, h2, ?_⟩
        simp only [h3]
        congr 3
        omega
    · exact .inr ⟨0, e, rfl, (by simpa using h : o = key e).symm, rfl⟩
/-- An owner: its number, where its list lies, its list. -/
structure Ow where
  o : Int
  j : Nat
  l : List Ex
def owK (e : Ow) : DV := .int .i64 e.o
def owV (n : Nat) (e : Ow) : DV := .sl (n + (e.j + 3)) e.l.length 0 e.l.length
def owW (e : Ow) : DV := .vec 0 3 (e.l.map eX)
/-- A name's three numbers. -/
structure Nn where
  id : Int
  a : Int
  b : Int
  c : Int
def nnK (e : Nn) : DV := .int .i64 e.id
def nnV (e : Nn) : DV := .agg [.int .u64 e.a, .int .u64 e.b, .int .u64 e.c]
def pureOb (o : Ob) : Prop := ∃ t k xs, o = .arr t k xs ∧ ∀ n, ∀ x ∈ xs, Low n x
theorem pureOb_noId {o : Ob} (h : pureOb o) (id : Nat) : ObNoId id o := by
  obtain ⟨t, k, xs, rfl, h⟩ := h
  exact obNoId_arr.2 fun x hx => h id x hx id (Nat.le_refl _)
/-- What told keeps. -/
structure TS where
  k : Nat
  sz : Int
  nx : Int
  ow : List Ow
  nm : List Nn
  T : List Ob
  bs : List Nat
  c1 : Nat
structure TsOk (n : Nat) (s : TS) : Prop where
  k : s.k ≤ n
  nm : s.nm.length ≤ s.k
  at_ : ∀ e ∈ s.ow, s.T[e.j]? = some (.arr 80 3 (e.l.map eX)) ∧ e.l.length ≤ s.k
  ne : s.ow.Pairwise fun a b => a.j ≠ b.j
  pure : ∀ o ∈ s.T, pureOb o
theorem TsOk.push {n : Nat} {s : TS} (h : TsOk n s) (hk : s.k < n) (sz nx : Int) (nm : List Nn) (hnm : nm.length ≤ s.nm.length + 1) (X : List Ob) (hX : ∀ o ∈ X, pureOb o) : TsOk n ⟨s.k + 1, sz, nx, s.ow, nm, s.T ++ X, s.bs, s.c1⟩ := by
  refine ⟨hk, ?_, fun e he => ?_, h.ne, fun o ho => ?_⟩
  · have := h.nm
    simp only
    omega
  · obtain ⟨h1, h2⟩ := h.at_ e he
    refine ⟨?_, by simp only; omega⟩
    simp only
    rw [List.getElem?_append_left (List.getElem?_eq_some_iff.1 h1).1]
    exact h1
  · rcases List.mem_append.1 ho with ho | ho
    · exact h.pure o ho
    · exact hX o ho
theorem TsOk.fresh {n : Nat} {s : TS} (h : TsOk n s) (hk : s.k < n) (o : Int) (x : Ex) (A : List Ob) (hA : ∀ o ∈ A, pureOb o) (bs : List Nat) (c1 : Nat) :
    TsOk n ⟨s.k + 1, s.sz, s.nx, s.ow ++ [⟨o, s.T.length + A.length, [x]⟩], s.nm, s.T ++ (A ++ [.arr 80 3 [eX x]]), bs, c1⟩ := by
  refine ⟨hk, by have := h.nm; simp only; omega, fun e he => ?_, ?_, fun o ho => ?_⟩
  · rcases List.mem_append.1 he with he | he
    · obtain ⟨h1, h2⟩ := h.at_ e he
      refine ⟨?_, by simp only; omega⟩
      simp only
      rw [List.getElem?_append_left (List.getElem?_eq_some_iff.1 h1).1]
      exact h1
    · obtain rfl := List.mem_singleton.1 he
      refine ⟨?_, by simp⟩
      simp only
      rw [List.getElem?_append_right (by omega), List.getElem?_append_right (by omega), show s.T.length + A.length - s.T.length - A.length = 0 by omega]
      rfl
  · refine List.pairwise_append.2 ⟨h.ne, List.pairwise_singleton _ _, fun a ha b hb => ?_⟩
    obtain rfl := List.mem_singleton.1 hb
    have := (List.getElem?_eq_some_iff.1 (h.at_ a ha).1).1
    simp only
    omega
  · rcases List.mem_append.1 ho with ho | ho
    · exact h.pure o ho
    · rcases List.mem_append.1 ho with ho | ho
      · exact hA o ho
      · obtain rfl := List.mem_singleton.1 ho
        exact ⟨_, _, _, rfl, fun n x hx => by rw [List.mem_singleton.1 hx]; exact low_eXn n _⟩
theorem TsOk.more {n : Nat} {s : TS} (h : TsOk n s) (hk : s.k < n) {q : Nat} {e : Ow} (he : s.ow[q]? = some e) (x : Ex) (A : List Ob) (hA : ∀ o ∈ A, pureOb o) :
    TsOk n ⟨s.k + 1, s.sz, s.nx, s.ow.set q ⟨e.o, e.j, e.l ++ [x]⟩, s.nm, s.T.set e.j (.arr 80 3 ((e.l ++ [x]).map eX)) ++ A, s.bs, s.c1⟩ := by
  have hem := List.mem_of_getElem? he
  obtain ⟨a1, a2⟩ := h.at_ e hem
  have hj := (List.getElem?_eq_some_iff.1 a1).1
  have hql := (List.getElem?_eq_some_iff.1 he).1
  have hne : ∀ i f, s.ow[i]? = some f → i ≠ q → f.j ≠ e.j := by
    intro i f hf hi
    have hil := (List.getElem?_eq_some_iff.1 hf).1
    have e1 := (List.getElem?_eq_some_iff.1 hf).2
    have e2 := (List.getElem?_eq_some_iff.1 he).2
    rcases Nat.lt_or_gt_of_ne hi with h' | h'
    · have := List.pairwise_iff_getElem.1 h.ne i q hil hql h'
      rw [e1, e2] at this
      exact this
    · have := List.pairwise_iff_getElem.1 h.ne q i hql hil h'
      rw [e1, e2] at this
      exact fun q => this q.symm
  refine ⟨hk, by have := h.nm; simp only; omega, fun f hf => ?_, ?_, fun o ho => ?_⟩
  · obtain ⟨i, hi⟩ := List.getElem?_of_mem hf
    simp only at hi
    rw [List.getElem?_set] at hi
    simp only
    by_cases hq : q = i
    · rw [if_pos hq, if_pos hql] at hi
      cases hi
      refine ⟨?_, by simp; omega⟩
      rw [List.getElem?_append_left (by simpa using hj), List.getElem?_set, if_pos rfl, if_pos hj]
    · rw [if_neg hq] at hi
      obtain ⟨b1, b2⟩ := h.at_ f (List.mem_of_getElem? hi)
      have hfj := (List.getElem?_eq_some_iff.1 b1).1
      refine ⟨?_, by omega⟩
      rw [List.getElem?_append_left (by simpa using hfj), List.getElem?_set, if_neg (fun e' => hne i f hi (fun e2 => hq e2.symm) e'.symm)]
      exact b1
  · rw [List.pairwise_iff_getElem]
    intro i j' hi hj' hij
    simp only [List.length_set] at hi hj'
    simp only
    rw [List.getElem_set, List.getElem_set]
    have base := List.pairwise_iff_getElem.1 h.ne i j' hi hj' hij
    split
    · rename_i e1
      split
      · omega
      · exact fun e2 => hne j' _ (List.getElem?_eq_getElem hj') (by omega) e2.symm
    · split
      · exact fun e2 => hne i _ (List.getElem?_eq_getElem hi) (by omega) e2
      · exact base
  · rcases List.mem_append.1 ho with ho | ho
    · rcases List.mem_or_eq_of_mem_set ho with ho | rfl
      · exact h.pure o ho
      · exact ⟨_, _, _, rfl, fun n x hx => by
          obtain ⟨a, _, rfl⟩ := List.mem_map.1 hx
          exact low_eXn n a⟩
    · exact hA o ho
end Go.VL
end
section
set_option linter.unusedSimpArgs false
set_option linter.unusedVariables false
set_option maxRecDepth 10000
set_option maxHeartbeats 4000000
namespace Go.VL
open Go Go.Proofs
open Nat (reduceAdd reduceEqDiff reduceSub reduceMul reduceLeDiff)

def pd (o : Ob) : Prop := pureOb o ∨ o = .dead
theorem pd_noId {o : Ob} (h : pd o) (id : Nat) : ObNoId id o := by
  rcases h with h | rfl
  · exact pureOb_noId h id
  · exact fun _ _ => rfl
theorem Ghost.freezeOw {C : Ctx} {σ : List Ob} (hσ : C.σ0 = σ) (hf : Fixed σ) (env : List (Nat × DV)) (cell m2 : Ob) (bs : List Nat) (c1 : Nat) (he : ∀ id, σ.length + 3 ≤ id → envNoId id env) (hc : ∀ id, ObNoId id cell) (h2 : ∀ id, ObNoId id m2) (hdd : C.dd = []) :
    ∀ (todo done : List Ow) (T : List Ob), (∀ e ∈ todo, T[e.j]? = some (.arr 80 3 (e.l.map eX))) → (todo.Pairwise fun a b => a.j ≠ b.j) → (∀ o ∈ T, pd o) →
      ∃ T' : List Ob, Ghost C ⟨env, σ ++ (cell :: .oth (.map bs c1) (pr owK owW done ++ pr owK (owV σ.length) todo) :: m2 :: T)⟩ ⟨env, σ ++ (cell :: .oth (.map bs c1) (pr owK owW (done ++ todo)) :: m2 :: T')⟩
  | [], done, T, _, _, _ => ⟨T, by
    rw [List.append_nil, show pr owK (owV σ.length) [] = [] from rfl, List.append_nil]
    exact Ghost.refl _ _⟩
  | e :: r, done, T, hat, hne, hT => by
    have h1 := hat e (by simp)
    have hj := (List.getElem?_eq_some_iff.1 h1).1
    obtain ⟨hne1, hne2⟩ := List.pairwise_cons.1 hne
    obtain ⟨T', hT'⟩ := Ghost.freezeOw hσ hf env cell m2 bs c1 he hc h2 hdd r (done ++ [e]) (T.set e.j .dead) (fun f hf' => by
      rw [List.getElem?_set, if_neg (hne1 f hf')]
      exact hat f (List.mem_cons_of_mem _ hf')) hne2 (fun o ho => by
      rcases List.mem_or_eq_of_mem_set ho with ho | rfl
      · exact hT o ho
      · exact .inr rfl)
    refine ⟨T', Ghost.trans ?_ (by rwa [List.append_assoc] at hT')⟩
    have hg : (σ ++ (cell :: Ob.oth (.map bs c1) (pr owK owW done ++ pr owK (owV σ.length) (e :: r)) :: m2 :: T))[σ.length + (e.j + 3)]? = some (.arr 80 3 (e.l.map eX)) := by
      rw [List.getElem?_append_right (by omega), show σ.length + (e.j + 3) - σ.length = e.j + 1 + 1 + 1 by omega, List.getElem?_cons_succ, List.getElem?_cons_succ, List.getElem?_cons_succ]
      exact h1
    refine Ghost.trans (Ghost.kill (id := σ.length + (e.j + 3)) (t := 80) (k := 3) (xs := e.l.map eX) 0 hg (by rw [hσ]; omega) (fun x hx => by
      obtain ⟨a, _, rfl⟩ := List.mem_map.1 hx
      exact low_eXn _ a _ (Nat.le_refl _)) (by rw [hdd]; trivial)) ?_
    have e1 : fzE (σ.length + (e.j + 3)) (e.l.map eX).length (asVec 0 3 (e.l.map eX)) env = env := envNoId_fz (he _ (by omega)) _ _
    have fzi : ∀ (n : Int), fz (σ.length + (e.j + 3)) (e.l.map eX).length (asVec 0 3 (e.l.map eX)) (.int .i64 n) = .int .i64 n := fun n => by simp [fz]
    have hd : (pr owK owW done).map (fz (σ.length + (e.j + 3)) (e.l.map eX).length (asVec 0 3 (e.l.map eX))) = pr owK owW done := by
      clear hT' hg hat
      induction done with
      | nil => rfl
      | cons f q ih =>
        have a1 : fz (σ.length + (e.j + 3)) (e.l.map eX).length (asVec 0 3 (e.l.map eX)) (owK f) = owK f := fzi f.o
        have a2 : fz (σ.length + (e.j + 3)) (e.l.map eX).length (asVec 0 3 (e.l.map eX)) (owW f) = owW f := low_vecX _ _ f.l _ (Nat.le_refl _) _ _
        rw [pr_cons, List.map_cons, List.map_cons, ih, a1, a2]
    have hr : (pr owK (owV σ.length) r).map (fz (σ.length + (e.j + 3)) (e.l.map eX).length (asVec 0 3 (e.l.map eX))) = pr owK (owV σ.length) r := by
      clear hT' hg hat hne hne2
      induction r with
      | nil => rfl
      | cons f q ih =>
        have a1 : fz (σ.length + (e.j + 3)) (e.l.map eX).length (asVec 0 3 (e.l.map eX)) (owK f) = owK f := fzi f.o
        have a2 : fz (σ.length + (e.j + 3)) (e.l.map eX).length (asVec 0 3 (e.l.map eX)) (owV σ.length f) = owV σ.length f := by
          have := hne1 f (by simp)
          have hq : ¬ (σ.length + (f.j + 3) = σ.length + (e.j + 3)) := by omega
          unfold owV fz
          rw [if_neg hq]
        rw [pr_cons, List.map_cons, List.map_cons, ih (fun x hx => hne1 x (List.mem_cons_of_mem _ hx)), a1, a2]
    have hv : fz (σ.length + (e.j + 3)) (e.l.map eX).length (asVec 0 3 (e.l.map eX)) (owV σ.length e) = owW e := by
      simp [owV, owW, fz, asVec]
      exact List.take_of_length_le (by simp)
    have hTm : T.map (fzOb (σ.length + (e.j + 3)) (e.l.map eX).length (asVec 0 3 (e.l.map eX))) = T := by
      have : ∀ (q : List Ob), (∀ o ∈ q, pd o) → q.map (fzOb (σ.length + (e.j + 3)) (e.l.map eX).length (asVec 0 3 (e.l.map eX))) = q := by
        intro q hq
        induction q with
        | nil => rfl
        | cons o q ih =>
          rw [List.map_cons, ih fun x hx => hq x (List.mem_cons_of_mem _ hx), pd_noId (hq o (by simp)) _ _ _]
      exact this T hT
    rw [e1]
    have e2 : ((σ ++ (cell :: Ob.oth (.map bs c1) (pr owK owW done ++ pr owK (owV σ.length) (e :: r)) :: m2 :: T)).map (fzOb (σ.length + (e.j + 3)) (e.l.map eX).length (asVec 0 3 (e.l.map eX)))).set (σ.length + (e.j + 3)) .dead = σ ++ (cell :: Ob.oth (.map bs c1) (pr owK owW (done ++ [e]) ++ pr owK (owV σ.length) r) :: m2 :: T.set e.j .dead) := by
      rw [List.map_append, hf _ (by omega), List.map_cons, List.map_cons, List.map_cons, hTm, hc _ _ _, h2 _ _ _, List.set_append_right _ _ (by omega), show σ.length + (e.j + 3) - σ.length = e.j + 1 + 1 + 1 by omega]
      simp only [List.set_cons_succ, fzOb, List.map_append, pr_cons, List.map_cons, hd, hr, hv]
      congr 4
      rw [show fz (σ.length + (e.j + 3)) (e.l.map eX).length (asVec 0 3 (e.l.map eX)) (owK e) = owK e from fzi e.o, pr_append]
      simp [pr]
    rw [e2]
    exact Ghost.refl _ _
/-- A snapshot as told. -/
structure SnT where
  id : Int
  name : ByteArray
  size : Int
  l : Option (List Ex)
def lD : Option (List Ex) → DV
  | none => .nils
  | some l => .vec 0 3 (l.map eX)
def eST (s : SnT) : DV := .agg [.int .i64 s.id, .str s.name, .int .i64 s.size, lD s.l]
def snOf (s : SnT) : Sn := ⟨s.id, s.name, s.size, s.l.getD []⟩
theorem lD_low (n : Nat) (o : Option (List Ex)) : Low n (lD o) := by
  cases o with
  | none => exact low_nils.2 trivial
  | some l => exact low_vecX _ _ _
theorem lD_one (o : Option (List Ex)) : (lD o).one = true := by cases o <;> rfl
theorem low_eST (n : Nat) (s : SnT) : Low n (eST s) := by
  unfold eST
  rw [low_agg]
  intro z hz
  simp only [List.mem_cons, List.not_mem_nil, or_false] at hz
  rcases hz with rfl | rfl | rfl | rfl
  · exact (low_int _ _).2 trivial
  · exact (low_str _).2 trivial
  · exact (low_int _ _).2 trivial
  · exact lD_low _ _
theorem lD_fz (O : List Ob) (o : Option (List Ex)) : Fz O 0 (lD o) (.vec 0 3 ((o.getD []).map eX)) := by
  cases o with
  | none => exact .nil
  | some l => exact .low (low_vecX _ _ _)
theorem all_eST (rs : List SnT) : ((rs.map eST).all fun y => y.cells.all DV.one) = true := by
  rw [List.all_eq_true]
  intro y hy
  obtain ⟨x, _, rfl⟩ := List.mem_map.1 hy
  unfold eST
  cases x.l <;> rfl
theorem snaps_fz {O : List Ob} {id t : Nat} {sn : List SnT} (ho : O[id]? = some (.arr t 4 (sn.map eST))) : Fz O 0 (.sl id sn.length 0 sn.length) (.vec 0 4 ((sn.map snOf).map (eZ 0))) := by
  have := Fz.sl (O := O) (c := 0) (off := 0) (l := sn.length) (ys := (sn.map snOf).map (eZ 0)) ho (by simp) (fun j x y hj hx hy => by
    rw [Nat.zero_add, List.getElem?_map] at hx
    rw [List.getElem?_map, List.getElem?_map] at hy
    rw [List.getElem?_eq_getElem hj] at hx hy
    cases hx; cases hy
    rfl) (fun j i x y d D hj hx hy hd hD => by
    rw [Nat.zero_add, List.getElem?_map] at hx
    rw [List.getElem?_map, List.getElem?_map] at hy
    rw [List.getElem?_eq_getElem hj] at hx hy
    cases hx; cases hy
    match i, hd, hD with
    | 0, hd, hD => cases hd; cases hD; exact .low ((low_int _ _).2 trivial)
    | 1, hd, hD => cases hd; cases hD; exact .low ((low_str _).2 trivial)
    | 2, hd, hD => cases hd; cases hD; exact .low ((low_int _ _).2 trivial)
    | 3, hd, hD => cases hd; cases hD; exact lD_fz O _
    | i + 4, hd, _ => simp [eST, DV.cells] at hd)
  rwa [List.length_map] at this
theorem told1_at (x y : SnT) : Ok Tryz.prog 36 [eST x, eST y] [] (.ret (eI (cmpF x.id y.id))) [] := by
  have agg : ∀ (w : World) (F : Nat → Nat → Prop) (μ : Nat → Option Nat) (s : SnT) (v : Value), Rep w F μ [] (eST s) v → Rep w F μ [] (.agg [eI s.id, .undef, .undef, .undef]) v := by
    intro w F μ s v hv
    unfold eST at hv
    cases hv with
    | @agg _ vs hl hh =>
      refine .agg (by simpa using hl) fun i d v hd hv => ?_
      match i, hd with
      | 0, hd => cases hd; exact hh 0 _ v rfl hv
      | 1, hd => cases hd; exact .undef
      | 2, hd => cases hd; exact .undef
      | 3, hd => cases hd; exact .undef
      | i + 4, hd => simp at hd
  refine (told1_ok x.id y.id []).less rfl fun w F μ i d d' v hd hd' hv => ?_
  match i, hd, hd' with
  | 0, hd, hd' => cases hd; cases hd'; exact agg w F μ x v hv
  | 1, hd, hd' => cases hd; cases hd'; exact agg w F μ y v hv
  | i + 2, hd, _ => simp at hd
theorem sortSnaps (xs : List SnT) (hsz : xs.length ≤ 1000000000) : ∃ ys : List SnT, ys.length = xs.length ∧ (∀ y ∈ ys, y ∈ xs) ∧
    ∀ (m t : Nat) (σ : List Ob), 0 < xs.length → σ[m]? = some (.arr t 4 (xs.map eST)) → Ok Tryz.prog 35 [.sl m xs.length 0 xs.length, .fn 36 []] σ (.ret (.tup [])) (σ.set m (.arr t 4 (ys.map eST))) := by
  have hO := swo_cmp eST cfS SnT.id (fun _ _ => rfl) xs
  obtain ⟨ys, h1, h2, h3⟩ := sortF_map eST cfS xs hO
  refine ⟨ys, h1, h2, fun m t σ hn hm => ?_⟩
  have := sortSnap_ok (cf := cfS) (ds := xs.map eST) (g := 36) hO (fun x hx y hy => by
    obtain ⟨a, _, rfl⟩ := List.mem_map.1 hx
    obtain ⟨b, _, rfl⟩ := List.mem_map.1 hy
    exact told1_at a b) (fun x hx => by
    obtain ⟨a, _, rfl⟩ := List.mem_map.1 hx
    refine ⟨_, rfl, rfl, fun d hd => ?_⟩
    simp only [List.mem_cons, List.not_mem_nil, or_false] at hd
    rcases hd with rfl | rfl | rfl | rfl
    · exact ⟨(low_int _ _).2 trivial, rfl⟩
    · exact ⟨(low_str _).2 trivial, rfl⟩
    · exact ⟨(low_int _ _).2 trivial, rfl⟩
    · exact ⟨lD_low 0 _, lD_one _⟩) hm (by rw [List.length_map]; exact hn) (by rw [List.length_map]; omega)
  rw [h3, List.length_map] at this
  exact this
theorem sortSnapN_run : runs LX FN 100000 35 [.nils, .fn 36 []] (.tup []) = true := by kernel_rfl
theorem sortSnapN_ok (σ : List Ob) : Ok Tryz.prog 35 [.nils, .fn 36 []] σ (.ret (.tup [])) σ :=
  runs_ok layOkX mixed tabOk sortSnapN_run (by simp [low_nils, low_fn]) σ
theorem bits_and_nonneg (a b : Int) : 0 ≤ bits .u64 .and a b := by
  unfold bits
  simp only
  rw [IntKind.wrap_u64]
  omega
theorem numF_nonneg (c : Int) : 0 ≤ numF (bits .u64 .and c 255) := by
  have h := bits_and_nonneg c 255
  unfold numF
  have : 0 ≤ mn (bits .u64 .and c 255) 2147483647 ∧ mn (bits .u64 .and c 255) 2147483647 ≤ 2147483647 := by
    unfold mn
    split <;> omega
  rw [IntWalk.i64_in _ (by omega)]
  exact this.1
theorem text_size (l : List Int) (n : Int) : (strOf ((l.take (mn n 16).toNat).map fun n => UInt8.ofNat n.toNat)).size ≤ 16 := by
  show ((l.take (mn n 16).toNat).map fun n => UInt8.ofNat n.toNat).toArray.size ≤ 16
  rw [List.size_toArray, List.length_map, List.length_take]
  have : (mn n 16).toNat ≤ 16 := by unfold mn; split <;> omega
  omega
theorem unseen_nil (n : Nat) : unseen [] (List.range n) = n := by
  have : ∀ l : List Nat, unseen [] l = l.length := by
    intro l
    induction l with
    | nil => rfl
    | cons a r ih => simp only [unseen, ih, List.length_cons]; simp; omega
  rw [this, List.length_range]
end Go.VL
end
