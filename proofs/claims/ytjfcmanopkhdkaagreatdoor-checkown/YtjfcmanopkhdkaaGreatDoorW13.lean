/- Proved: the card of CheckOwn: whatever octets come in, the call returns true and they read as they did; no condition beside those the row itself lists. This text is part 13 of 17. -/
import Derived.Test.YtjfcmanopkhdkaaGreatDoorW12
section
set_option linter.unusedSimpArgs false
set_option linter.unusedVariables false
set_option maxRecDepth 100000
namespace Go.VL
open Go Go.Proofs

noncomputable def scanD : DV := .agg [.int .i64 0, .int .i64 1, .int .i64 0, .int .i64 0, .int .i64 0, .int .i64 0]
noncomputable def noneD : DV := .agg [.int .i64 21, .int .i64 0, .int .i64 0, .int .i64 0, .int .i64 0, .int .i64 0]
noncomputable def rawD : DV := .agg [.nils, .nils, .int .i64 65536]
theorem scan_run : runs LX FN 100000 14 [.agg hostD] scanD = true := by kernel_rfl
theorem none_run : runs LX FN 100000 14 [rawD] noneD = true := by kernel_rfl
theorem low_zsec (n : Nat) : Low 0 (zsec n) := by
  unfold zsec
  rw [low_vec]
  intro x hx
  rw [(List.mem_replicate.1 hx).2]
  exact (low_int _ _).2 trivial
theorem low_oct (l : List Nat) : Low 0 (oct l) := by
  unfold oct
  rw [low_vec]
  intro x hx
  obtain ⟨n, _, rfl⟩ := List.mem_map.1 hx
  exact (low_int _ _).2 trivial
theorem low_host : ∀ x ∈ hostD, Low 0 x := by
  intro x hx
  simp only [hostD, List.mem_cons, List.not_mem_nil, or_false] at hx
  rcases hx with rfl | rfl | rfl
  · rw [low_vec]
    intro y hy
    simp only [List.cons_append, List.nil_append, List.mem_cons, List.mem_replicate] at hy
    rcases hy with rfl | rfl | rfl | rfl | ⟨_, rfl⟩
    · exact low_oct _
    · exact low_zsec _
    · exact low_oct _
    · exact low_oct _
    · exact low_zsec _
  · exact low_nils.2 trivial
  · exact (low_int _ _).2 trivial
theorem scan_ok (σ : List Ob) : Ok Tryz.prog 14 [.agg hostD] σ (.ret scanD) σ :=
  runs_ok layOkX mixed tabOk scan_run (by intro x hx; rw [List.mem_singleton.1 hx, low_agg]; exact low_host) σ
theorem none_ok (σ : List Ob) : Ok Tryz.prog 14 [rawD] σ (.ret noneD) σ :=
  runs_ok layOkX mixed tabOk none_run (by simp [rawD, low_agg, low_nils, low_int]) σ
/-- The table where what was run is known. -/
noncomputable def FN1 : Nat → FT := fun g => bx (Nat.beq g 14) (.nat (knownX [([.agg hostD], scanD), ([rawD], noneD)])) (bx (Nat.beq g 13) (.nat (knownX [([.int .i64 200, .int .i64 8, .int .i64 20, .int .i64 60], createD)])) (FN g))
theorem tabOk1 : TabOk Tryz.prog FN1 := by
  refine tabOk_over (tabOk_over tabOk ?_) ?_
  · exact fun args m out m' h hm => knownX_ok _ (by simp only [List.mem_singleton, forall_eq]; exact create_ok) h hm
  · exact fun args m out m' h hm => knownX_ok _ (by simp only [List.mem_cons, List.not_mem_nil, or_false, forall_eq_or_imp, forall_eq]; exact ⟨scan_ok, none_ok⟩) h hm
theorem alive_run : runs LX FN1 1000 5 [] (.bool true) = true := by kernel_rfl
theorem alive_ok (σ : List Ob) : Ok Tryz.prog 5 [] σ (.ret (.bool true)) σ :=
  runs_ok layOkX mixed tabOk1 alive_run (by simp) σ
end Go.VL
end
