/- Proved: the card of CheckOwn: whatever octets come in, the call returns true and they read as they did; no condition beside those the row itself lists. This text is part 12 of 17. -/
import Derived.Test.YtjfcmanopkhdkaaGreatDoorW11
section
set_option linter.unusedSimpArgs false
set_option linter.unusedVariables false
set_option maxRecDepth 100000
namespace Go.VL
open Go Go.Proofs

def i64 (n : Int) : DV := .int .i64 n
noncomputable def hostD : List DV := [.vec 0 1 ([oct [102, 115, 116, 49, 0, 0, 0, 0, 0, 0, 0, 0, 8, 0, 0, 0, 20, 0, 0, 0, 60, 0, 0, 0, 0, 0, 0, 0, 0, 0, 0, 0, 0, 0, 0, 0, 0, 0, 0, 0, 0, 0, 0, 0, 0, 0, 0, 0, 0, 0, 0, 0, 0, 0, 0, 0, 0, 0, 0, 0, 76, 124, 181, 237], zsec 64,
  oct [102, 115, 106, 49, 1, 0, 0, 0, 0, 0, 0, 0, 1, 0, 0, 0, 0, 0, 0, 0, 1, 0, 1, 0, 1, 1, 1, 0, 0, 0, 0, 0, 0, 0, 0, 0, 4, 1, 0, 0, 0, 8, 0, 0, 0, 0, 0, 0, 0, 0, 0, 0, 0, 0, 0, 0, 0, 0, 0, 0, 0, 0, 0, 0],
  oct [0, 0, 0, 0, 0, 0, 0, 0, 0, 0, 0, 0, 0, 0, 0, 0, 0, 0, 0, 0, 0, 42, 232, 75, 27, 4, 199, 193, 226, 0, 0, 0, 0, 0, 0, 0, 0, 0, 0, 0, 0, 0, 0, 0, 0, 0, 0, 0, 0, 0, 0, 0, 0, 0, 0, 0, 0, 0, 0, 0, 0, 0, 0, 0]] ++ List.replicate 78 (zsec 64)), .nils, .int .i64 200]
noncomputable def createD : DV := .tup [.agg ([.int .i64 8, .nils, .nils, .int .i64 1, .int .i64 0, .nils, .nils] ++ (hostD ++ [.int .i64 0, .int .i64 8, .int .i64 20, .int .i64 60, .int .i64 0, .int .i64 0, .int .i64 0,
  .vec 0 1 [oct [1, 1, 0, 0, 0, 0, 0, 0, 0, 0, 0, 4, 1, 0, 0, 0, 8, 0, 0, 0, 0, 0, 0, 0, 0, 0, 0, 0, 0, 0, 0, 0, 0, 0, 0, 0, 0, 0, 0, 0, 0, 0, 0, 0, 0, 0, 0, 0, 0, 0, 0, 0, 0, 0, 0, 0, 0, 0, 0, 0, 42, 232, 75, 27]], .int .i64 1, .int .i64 0, .int .i64 1, .int .i64 2])), .int .i64 0]
theorem create_run : runs LX FN 100000 13 [.int .i64 200, .int .i64 8, .int .i64 20, .int .i64 60] createD = true := by kernel_rfl
theorem create_ok (σ : List Ob) : Ok Tryz.prog 13 [.int .i64 200, .int .i64 8, .int .i64 20, .int .i64 60] σ (.ret createD) σ :=
  runs_ok layOkX mixed tabOk create_run (by simp [low_int]) σ
end Go.VL
end
