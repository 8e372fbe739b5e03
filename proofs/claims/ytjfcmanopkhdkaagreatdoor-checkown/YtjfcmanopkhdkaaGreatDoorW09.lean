/- Proved: the card of CheckOwn: whatever octets come in, the call returns true and they read as they did; no condition beside those the row itself lists. This text is part 9 of 17. -/
import Derived.Test.YtjfcmanopkhdkaaGreatDoorW08
import Derived.Test.YtjfcmanopkhdkaaGreatDoorProg
import Derived.KernelRfl
section
namespace Go.VL
open Go Go.Proofs

abbrev ti2 : TI := ⟨false, 1, 8, .int .i64, .int .i64 0⟩
theorem info2 : (Tryz.prog.info? 2).map (fun i => (i.size, i.bytes, i.zero)) = some (1, 8, some (.int .i64 0)) := by kernel_rfl
theorem tok2 : TOk Tryz.prog 2 ti2 := .of_info info2 ⟨rfl, rfl, rfl⟩ rfl ⟨_, Tryz.underlying2, rfl⟩
abbrev ti3 : TI := ⟨false, 1, 8, .int .i64, .int .i64 0⟩
theorem info3 : (Tryz.prog.info? 3).map (fun i => (i.size, i.bytes, i.zero)) = some (1, 8, some (.int .i64 0)) := by kernel_rfl
theorem tok3 : TOk Tryz.prog 3 ti3 := .of_info info3 ⟨rfl, rfl, rfl⟩ rfl ⟨_, Tryz.underlying3, rfl⟩
abbrev ti4 : TI := ⟨false, 1, 1, .bool, .bool false⟩
theorem info4 : (Tryz.prog.info? 4).map (fun i => (i.size, i.bytes, i.zero)) = some (1, 1, some (.bool false)) := by kernel_rfl
theorem tok4 : TOk Tryz.prog 4 ti4 := .of_info info4 ⟨rfl, rfl, rfl⟩ rfl ⟨_, Tryz.underlying4, rfl⟩
abbrev ti5 : TI := ⟨false, 1, 1, .int .u8, .int .u8 0⟩
theorem info5 : (Tryz.prog.info? 5).map (fun i => (i.size, i.bytes, i.zero)) = some (1, 1, some (.int .u8 0)) := by kernel_rfl
theorem tok5 : TOk Tryz.prog 5 ti5 := .of_info info5 ⟨rfl, rfl, rfl⟩ rfl ⟨_, Tryz.underlying5, rfl⟩
abbrev ti9 : TI := ⟨false, 1, 16, .str, .str ⟨#[]⟩⟩
theorem info9 : (Tryz.prog.info? 9).map (fun i => (i.size, i.bytes, i.zero)) = some (1, 16, some (.string ⟨#[]⟩)) := by kernel_rfl
theorem tok9 : TOk Tryz.prog 9 ti9 := .of_info info9 ⟨rfl, rfl, rfl⟩ rfl ⟨_, Tryz.underlying9, rfl⟩
abbrev ti12 : TI := ⟨false, 1, 8, .int .u64, .int .u64 0⟩
theorem info12 : (Tryz.prog.info? 12).map (fun i => (i.size, i.bytes, i.zero)) = some (1, 8, some (.int .u64 0)) := by kernel_rfl
theorem tok12 : TOk Tryz.prog 12 ti12 := .of_info info12 ⟨rfl, rfl, rfl⟩ rfl ⟨_, Tryz.underlying12, rfl⟩
abbrev ti13 : TI := ⟨false, 2, 24, .struct [(0, 9), (1, 12)], .agg [.str ⟨#[]⟩, .int .u64 0]⟩
theorem info13 : (Tryz.prog.info? 13).map (fun i => (i.size, i.bytes, i.zero)) = some (2, 24, some (.agg #[.string ⟨#[]⟩, .int .u64 0])) := by kernel_rfl
theorem tok13 : TOk Tryz.prog 13 ti13 := .of_info info13 ⟨rfl, rfl, rfl⟩ rfl ⟨_, Tryz.underlying13, _, rfl, rfl⟩
abbrev ti19 : TI := ⟨false, 1, 8, .struct [(0, 17)], .agg [.nilp]⟩
theorem info19 : (Tryz.prog.info? 19).map (fun i => (i.size, i.bytes, i.zero)) = some (1, 8, some (.agg #[.pointer none])) := by kernel_rfl
theorem tok19 : TOk Tryz.prog 19 ti19 := .of_info info19 ⟨rfl, rfl, rfl⟩ rfl ⟨_, Tryz.underlying19, _, rfl, rfl⟩
abbrev ti21 : TI := ⟨false, 1, 4, .int .i32, .int .i32 0⟩
theorem info21 : (Tryz.prog.info? 21).map (fun i => (i.size, i.bytes, i.zero)) = some (1, 4, some (.int .i32 0)) := by kernel_rfl
theorem tok21 : TOk Tryz.prog 21 ti21 := .of_info info21 ⟨rfl, rfl, rfl⟩ rfl ⟨_, Tryz.underlying21, rfl⟩
abbrev ti22 : TI := ⟨false, 1, 24, .slice 5, .nils⟩
theorem info22 : (Tryz.prog.info? 22).map (fun i => (i.size, i.bytes, i.zero)) = some (1, 24, some (.slice none 0 0)) := by kernel_rfl
theorem tok22 : TOk Tryz.prog 22 ti22 := .of_info info22 ⟨rfl, rfl, rfl⟩ rfl ⟨_, Tryz.underlying22, rfl⟩
abbrev ti24 : TI := ⟨false, 1, 24, .slice 22, .nils⟩
theorem info24 : (Tryz.prog.info? 24).map (fun i => (i.size, i.bytes, i.zero)) = some (1, 24, some (.slice none 0 0)) := by kernel_rfl
theorem tok24 : TOk Tryz.prog 24 ti24 := .of_info info24 ⟨rfl, rfl, rfl⟩ rfl ⟨_, Tryz.underlying24, rfl⟩
abbrev ti25 : TI := ⟨false, 1, 24, .slice 64, .nils⟩
theorem info25 : (Tryz.prog.info? 25).map (fun i => (i.size, i.bytes, i.zero)) = some (1, 24, some (.slice none 0 0)) := by kernel_rfl
theorem tok25 : TOk Tryz.prog 25 ti25 := .of_info info25 ⟨rfl, rfl, rfl⟩ rfl ⟨_, Tryz.underlying25, rfl⟩
abbrev ti26 : TI := ⟨false, 3, 56, .struct [(0, 24), (1, 25), (2, 3)], .agg [.nils, .nils, .int .i64 0]⟩
theorem info26 : (Tryz.prog.info? 26).map (fun i => (i.size, i.bytes, i.zero)) = some (3, 56, some (.agg #[.slice none 0 0, .slice none 0 0, .int .i64 0])) := by kernel_rfl
theorem tok26 : TOk Tryz.prog 26 ti26 := .of_info info26 ⟨rfl, rfl, rfl⟩ rfl ⟨_, Tryz.underlying26, _, rfl, rfl⟩
abbrev ti27 : TI := ⟨false, 3, 56, .struct [(0, 24), (1, 25), (2, 3)], .agg [.nils, .nils, .int .i64 0]⟩
theorem info27 : (Tryz.prog.info? 27).map (fun i => (i.size, i.bytes, i.zero)) = some (3, 56, some (.agg #[.slice none 0 0, .slice none 0 0, .int .i64 0])) := by kernel_rfl
theorem tok27 : TOk Tryz.prog 27 ti27 := .of_info info27 ⟨rfl, rfl, rfl⟩ rfl ⟨_, Tryz.underlying27, _, rfl, rfl⟩
abbrev ti28 : TI := ⟨false, 1, 8, .int .i64, .int .i64 0⟩
theorem info28 : (Tryz.prog.info? 28).map (fun i => (i.size, i.bytes, i.zero)) = some (1, 8, some (.int .i64 0)) := by kernel_rfl
theorem tok28 : TOk Tryz.prog 28 ti28 := .of_info info28 ⟨rfl, rfl, rfl⟩ rfl ⟨_, Tryz.underlying28, rfl⟩
abbrev ti39 : TI := ⟨false, 1, 24, .slice 203, .nils⟩
theorem info39 : (Tryz.prog.info? 39).map (fun i => (i.size, i.bytes, i.zero)) = some (1, 24, some (.slice none 0 0)) := by kernel_rfl
theorem tok39 : TOk Tryz.prog 39 ti39 := .of_info info39 ⟨rfl, rfl, rfl⟩ rfl ⟨_, Tryz.underlying39, rfl⟩
abbrev ti40 : TI := ⟨false, 1, 24, .slice 197, .nils⟩
theorem info40 : (Tryz.prog.info? 40).map (fun i => (i.size, i.bytes, i.zero)) = some (1, 24, some (.slice none 0 0)) := by kernel_rfl
theorem tok40 : TOk Tryz.prog 40 ti40 := .of_info info40 ⟨rfl, rfl, rfl⟩ rfl ⟨_, Tryz.underlying40, rfl⟩
abbrev ti41 : TI := ⟨false, 1, 24, .slice 93, .nils⟩
theorem info41 : (Tryz.prog.info? 41).map (fun i => (i.size, i.bytes, i.zero)) = some (1, 24, some (.slice none 0 0)) := by kernel_rfl
theorem tok41 : TOk Tryz.prog 41 ti41 := .of_info info41 ⟨rfl, rfl, rfl⟩ rfl ⟨_, Tryz.underlying41, rfl⟩
abbrev ti42 : TI := ⟨false, 2, 32, .struct [(0, 3), (1, 41)], .agg [.int .i64 0, .nils]⟩
theorem info42 : (Tryz.prog.info? 42).map (fun i => (i.size, i.bytes, i.zero)) = some (2, 32, some (.agg #[.int .i64 0, .slice none 0 0])) := by kernel_rfl
theorem tok42 : TOk Tryz.prog 42 ti42 := .of_info info42 ⟨rfl, rfl, rfl⟩ rfl ⟨_, Tryz.underlying42, _, rfl, rfl⟩
abbrev ti43 : TI := ⟨false, 2, 32, .struct [(0, 3), (1, 41)], .agg [.int .i64 0, .nils]⟩
theorem info43 : (Tryz.prog.info? 43).map (fun i => (i.size, i.bytes, i.zero)) = some (2, 32, some (.agg #[.int .i64 0, .slice none 0 0])) := by kernel_rfl
theorem tok43 : TOk Tryz.prog 43 ti43 := .of_info info43 ⟨rfl, rfl, rfl⟩ rfl ⟨_, Tryz.underlying43, _, rfl, rfl⟩
abbrev ti44 : TI := ⟨false, 7, 120, .struct [(0, 3), (1, 39), (2, 40), (3, 3), (4, 43), (6, 24)], .agg [.int .i64 0, .nils, .nils, .int .i64 0, .int .i64 0, .nils, .nils]⟩
theorem info44 : (Tryz.prog.info? 44).map (fun i => (i.size, i.bytes, i.zero)) = some (7, 120, some (.agg #[.int .i64 0, .slice none 0 0, .slice none 0 0, .int .i64 0, .int .i64 0, .slice none 0 0, .slice none 0 0])) := by kernel_rfl
theorem tok44 : TOk Tryz.prog 44 ti44 := .of_info info44 ⟨rfl, rfl, rfl⟩ rfl ⟨_, Tryz.underlying44, _, rfl, rfl⟩
abbrev ti45 : TI := ⟨false, 7, 120, .struct [(0, 3), (1, 39), (2, 40), (3, 3), (4, 43), (6, 24)], .agg [.int .i64 0, .nils, .nils, .int .i64 0, .int .i64 0, .nils, .nils]⟩
theorem info45 : (Tryz.prog.info? 45).map (fun i => (i.size, i.bytes, i.zero)) = some (7, 120, some (.agg #[.int .i64 0, .slice none 0 0, .slice none 0 0, .int .i64 0, .int .i64 0, .slice none 0 0, .slice none 0 0])) := by kernel_rfl
theorem tok45 : TOk Tryz.prog 45 ti45 := .of_info info45 ⟨rfl, rfl, rfl⟩ rfl ⟨_, Tryz.underlying45, _, rfl, rfl⟩
abbrev ti46 : TI := ⟨false, 7, 56, .struct [(0, 3), (1, 3), (2, 3), (3, 3), (4, 3), (5, 3), (6, 3)], .agg [.int .i64 0, .int .i64 0, .int .i64 0, .int .i64 0, .int .i64 0, .int .i64 0, .int .i64 0]⟩
theorem info46 : (Tryz.prog.info? 46).map (fun i => (i.size, i.bytes, i.zero)) = some (7, 56, some (.agg #[.int .i64 0, .int .i64 0, .int .i64 0, .int .i64 0, .int .i64 0, .int .i64 0, .int .i64 0])) := by kernel_rfl
theorem tok46 : TOk Tryz.prog 46 ti46 := .of_info info46 ⟨rfl, rfl, rfl⟩ rfl ⟨_, Tryz.underlying46, _, rfl, rfl⟩
abbrev ti47 : TI := ⟨true, 7, 56, .struct [(0, 3), (1, 3), (2, 3), (3, 3), (4, 3), (5, 3), (6, 3)], .agg [.int .i64 0, .int .i64 0, .int .i64 0, .int .i64 0, .int .i64 0, .int .i64 0, .int .i64 0]⟩
theorem info47 : (Tryz.prog.info? 47).map (fun i => (i.size, i.bytes, i.zero)) = some (7, 56, some (.agg #[.int .i64 0, .int .i64 0, .int .i64 0, .int .i64 0, .int .i64 0, .int .i64 0, .int .i64 0])) := by kernel_rfl
theorem tok47 : TOk Tryz.prog 47 ti47 := .of_info info47 ⟨rfl, rfl, rfl⟩ rfl ⟨_, Tryz.underlying47, _, rfl, rfl⟩ fun _ => eqs_of (by kernel_rfl) (by kernel_rfl) (by kernel_rfl)
abbrev ti48 : TI := ⟨false, 15, 168, .struct [(0, 27), (3, 47), (10, 24), (11, 3), (12, 3), (13, 3), (14, 3)], .agg [.nils, .nils, .int .i64 0, .int .i64 0, .int .i64 0, .int .i64 0, .int .i64 0, .int .i64 0, .int .i64 0, .int .i64 0, .nils, .int .i64 0, .int .i64 0, .int .i64 0, .int .i64 0]⟩
theorem info48 : (Tryz.prog.info? 48).map (fun i => (i.size, i.bytes, i.zero)) = some (15, 168, some (.agg #[.slice none 0 0, .slice none 0 0, .int .i64 0, .int .i64 0, .int .i64 0, .int .i64 0, .int .i64 0, .int .i64 0, .int .i64 0, .int .i64 0, .slice none 0 0, .int .i64 0, .int .i64 0, .int .i64 0, .int .i64 0])) := by kernel_rfl
theorem tok48 : TOk Tryz.prog 48 ti48 := .of_info info48 ⟨rfl, rfl, rfl⟩ rfl ⟨_, Tryz.underlying48, _, rfl, rfl⟩
abbrev ti49 : TI := ⟨false, 15, 168, .struct [(0, 27), (3, 47), (10, 24), (11, 3), (12, 3), (13, 3), (14, 3)], .agg [.nils, .nils, .int .i64 0, .int .i64 0, .int .i64 0, .int .i64 0, .int .i64 0, .int .i64 0, .int .i64 0, .int .i64 0, .nils, .int .i64 0, .int .i64 0, .int .i64 0, .int .i64 0]⟩
theorem info49 : (Tryz.prog.info? 49).map (fun i => (i.size, i.bytes, i.zero)) = some (15, 168, some (.agg #[.slice none 0 0, .slice none 0 0, .int .i64 0, .int .i64 0, .int .i64 0, .int .i64 0, .int .i64 0, .int .i64 0, .int .i64 0, .int .i64 0, .slice none 0 0, .int .i64 0, .int .i64 0, .int .i64 0, .int .i64 0])) := by kernel_rfl
theorem tok49 : TOk Tryz.prog 49 ti49 := .of_info info49 ⟨rfl, rfl, rfl⟩ rfl ⟨_, Tryz.underlying49, _, rfl, rfl⟩
abbrev ti50 : TI := ⟨false, 22, 288, .struct [(0, 45), (7, 49)], .agg [.int .i64 0, .nils, .nils, .int .i64 0, .int .i64 0, .nils, .nils, .nils, .nils, .int .i64 0, .int .i64 0, .int .i64 0, .int .i64 0, .int .i64 0, .int .i64 0, .int .i64 0, .int .i64 0, .nils, .int .i64 0, .int .i64 0, .int .i64 0, .int .i64 0]⟩
theorem info50 : (Tryz.prog.info? 50).map (fun i => (i.size, i.bytes, i.zero)) = some (22, 288, some (.agg #[.int .i64 0, .slice none 0 0, .slice none 0 0, .int .i64 0, .int .i64 0, .slice none 0 0, .slice none 0 0, .slice none 0 0, .slice none 0 0, .int .i64 0, .int .i64 0, .int .i64 0, .int .i64 0, .int .i64 0, .int .i64 0, .int .i64 0, .int .i64 0, .slice none 0 0, .int .i64 0, .int .i64 0, .int .i64 0, .int .i64 0])) := by kernel_rfl
theorem tok50 : TOk Tryz.prog 50 ti50 := .of_info info50 ⟨rfl, rfl, rfl⟩ rfl ⟨_, Tryz.underlying50, _, rfl, rfl⟩
abbrev ti51 : TI := ⟨false, 22, 288, .struct [(0, 45), (7, 49)], .agg [.int .i64 0, .nils, .nils, .int .i64 0, .int .i64 0, .nils, .nils, .nils, .nils, .int .i64 0, .int .i64 0, .int .i64 0, .int .i64 0, .int .i64 0, .int .i64 0, .int .i64 0, .int .i64 0, .nils, .int .i64 0, .int .i64 0, .int .i64 0, .int .i64 0]⟩
theorem info51 : (Tryz.prog.info? 51).map (fun i => (i.size, i.bytes, i.zero)) = some (22, 288, some (.agg #[.int .i64 0, .slice none 0 0, .slice none 0 0, .int .i64 0, .int .i64 0, .slice none 0 0, .slice none 0 0, .slice none 0 0, .slice none 0 0, .int .i64 0, .int .i64 0, .int .i64 0, .int .i64 0, .int .i64 0, .int .i64 0, .int .i64 0, .int .i64 0, .slice none 0 0, .int .i64 0, .int .i64 0, .int .i64 0, .int .i64 0])) := by kernel_rfl
theorem tok51 : TOk Tryz.prog 51 ti51 := .of_info info51 ⟨rfl, rfl, rfl⟩ rfl ⟨_, Tryz.underlying51, _, rfl, rfl⟩
abbrev ti54 : TI := ⟨false, 6, 48, .struct [(0, 28), (1, 3), (2, 3), (3, 3), (4, 3), (5, 3)], .agg [.int .i64 0, .int .i64 0, .int .i64 0, .int .i64 0, .int .i64 0, .int .i64 0]⟩
theorem info54 : (Tryz.prog.info? 54).map (fun i => (i.size, i.bytes, i.zero)) = some (6, 48, some (.agg #[.int .i64 0, .int .i64 0, .int .i64 0, .int .i64 0, .int .i64 0, .int .i64 0])) := by kernel_rfl
theorem tok54 : TOk Tryz.prog 54 ti54 := .of_info info54 ⟨rfl, rfl, rfl⟩ rfl ⟨_, Tryz.underlying54, _, rfl, rfl⟩
abbrev ti55 : TI := ⟨true, 6, 48, .struct [(0, 28), (1, 3), (2, 3), (3, 3), (4, 3), (5, 3)], .agg [.int .i64 0, .int .i64 0, .int .i64 0, .int .i64 0, .int .i64 0, .int .i64 0]⟩
theorem info55 : (Tryz.prog.info? 55).map (fun i => (i.size, i.bytes, i.zero)) = some (6, 48, some (.agg #[.int .i64 0, .int .i64 0, .int .i64 0, .int .i64 0, .int .i64 0, .int .i64 0])) := by kernel_rfl
theorem tok55 : TOk Tryz.prog 55 ti55 := .of_info info55 ⟨rfl, rfl, rfl⟩ rfl ⟨_, Tryz.underlying55, _, rfl, rfl⟩ fun _ => eqs_of (by kernel_rfl) (by kernel_rfl) (by kernel_rfl)
abbrev ti63 : TI := ⟨false, 3, 40, .struct [(0, 3), (1, 3), (2, 22)], .agg [.int .i64 0, .int .i64 0, .nils]⟩
theorem info63 : (Tryz.prog.info? 63).map (fun i => (i.size, i.bytes, i.zero)) = some (3, 40, some (.agg #[.int .i64 0, .int .i64 0, .slice none 0 0])) := by kernel_rfl
theorem tok63 : TOk Tryz.prog 63 ti63 := .of_info info63 ⟨rfl, rfl, rfl⟩ rfl ⟨_, Tryz.underlying63, _, rfl, rfl⟩
abbrev ti64 : TI := ⟨false, 3, 40, .struct [(0, 3), (1, 3), (2, 22)], .agg [.int .i64 0, .int .i64 0, .nils]⟩
theorem info64 : (Tryz.prog.info? 64).map (fun i => (i.size, i.bytes, i.zero)) = some (3, 40, some (.agg #[.int .i64 0, .int .i64 0, .slice none 0 0])) := by kernel_rfl
theorem tok64 : TOk Tryz.prog 64 ti64 := .of_info info64 ⟨rfl, rfl, rfl⟩ rfl ⟨_, Tryz.underlying64, _, rfl, rfl⟩
abbrev ti75 : TI := ⟨false, 1, 24, .struct [(0, 24)], .agg [.nils]⟩
theorem info75 : (Tryz.prog.info? 75).map (fun i => (i.size, i.bytes, i.zero)) = some (1, 24, some (.agg #[.slice none 0 0])) := by kernel_rfl
theorem tok75 : TOk Tryz.prog 75 ti75 := .of_info info75 ⟨rfl, rfl, rfl⟩ rfl ⟨_, Tryz.underlying75, _, rfl, rfl⟩
abbrev ti76 : TI := ⟨false, 1, 24, .struct [(0, 24)], .agg [.nils]⟩
theorem info76 : (Tryz.prog.info? 76).map (fun i => (i.size, i.bytes, i.zero)) = some (1, 24, some (.agg #[.slice none 0 0])) := by kernel_rfl
theorem tok76 : TOk Tryz.prog 76 ti76 := .of_info info76 ⟨rfl, rfl, rfl⟩ rfl ⟨_, Tryz.underlying76, _, rfl, rfl⟩
abbrev ti77 : TI := ⟨false, 1, 24, .slice 3, .nils⟩
theorem info77 : (Tryz.prog.info? 77).map (fun i => (i.size, i.bytes, i.zero)) = some (1, 24, some (.slice none 0 0)) := by kernel_rfl
theorem tok77 : TOk Tryz.prog 77 ti77 := .of_info info77 ⟨rfl, rfl, rfl⟩ rfl ⟨_, Tryz.underlying77, rfl⟩
abbrev ti80 : TI := ⟨false, 1, 24, .slice 85, .nils⟩
theorem info80 : (Tryz.prog.info? 80).map (fun i => (i.size, i.bytes, i.zero)) = some (1, 24, some (.slice none 0 0)) := by kernel_rfl
theorem tok80 : TOk Tryz.prog 80 ti80 := .of_info info80 ⟨rfl, rfl, rfl⟩ rfl ⟨_, Tryz.underlying80, rfl⟩
abbrev ti83 : TI := ⟨false, 1, 8, .int .u64, .int .u64 0⟩
theorem info83 : (Tryz.prog.info? 83).map (fun i => (i.size, i.bytes, i.zero)) = some (1, 8, some (.int .u64 0)) := by kernel_rfl
theorem tok83 : TOk Tryz.prog 83 ti83 := .of_info info83 ⟨rfl, rfl, rfl⟩ rfl ⟨_, Tryz.underlying83, rfl⟩
abbrev ti84 : TI := ⟨false, 2, 16, .struct [(0, 83), (1, 83)], .agg [.int .u64 0, .int .u64 0]⟩
theorem info84 : (Tryz.prog.info? 84).map (fun i => (i.size, i.bytes, i.zero)) = some (2, 16, some (.agg #[.int .u64 0, .int .u64 0])) := by kernel_rfl
theorem tok84 : TOk Tryz.prog 84 ti84 := .of_info info84 ⟨rfl, rfl, rfl⟩ rfl ⟨_, Tryz.underlying84, _, rfl, rfl⟩
abbrev ti85 : TI := ⟨true, 2, 16, .struct [(0, 83), (1, 83)], .agg [.int .u64 0, .int .u64 0]⟩
theorem info85 : (Tryz.prog.info? 85).map (fun i => (i.size, i.bytes, i.zero)) = some (2, 16, some (.agg #[.int .u64 0, .int .u64 0])) := by kernel_rfl
theorem tok85 : TOk Tryz.prog 85 ti85 := .of_info info85 ⟨rfl, rfl, rfl⟩ rfl ⟨_, Tryz.underlying85, _, rfl, rfl⟩ fun _ => eqs_of (by kernel_rfl) (by kernel_rfl) (by kernel_rfl)
abbrev ti86 : TI := ⟨false, 1, 8, .int .u64, .int .u64 0⟩
theorem info86 : (Tryz.prog.info? 86).map (fun i => (i.size, i.bytes, i.zero)) = some (1, 8, some (.int .u64 0)) := by kernel_rfl
theorem tok86 : TOk Tryz.prog 86 ti86 := .of_info info86 ⟨rfl, rfl, rfl⟩ rfl ⟨_, Tryz.underlying86, rfl⟩
abbrev ti87 : TI := ⟨false, 1, 24, .slice 206, .nils⟩
theorem info87 : (Tryz.prog.info? 87).map (fun i => (i.size, i.bytes, i.zero)) = some (1, 24, some (.slice none 0 0)) := by kernel_rfl
theorem tok87 : TOk Tryz.prog 87 ti87 := .of_info info87 ⟨rfl, rfl, rfl⟩ rfl ⟨_, Tryz.underlying87, rfl⟩
abbrev ti92 : TI := ⟨false, 2, 16, .struct [(0, 3), (1, 3)], .agg [.int .i64 0, .int .i64 0]⟩
theorem info92 : (Tryz.prog.info? 92).map (fun i => (i.size, i.bytes, i.zero)) = some (2, 16, some (.agg #[.int .i64 0, .int .i64 0])) := by kernel_rfl
theorem tok92 : TOk Tryz.prog 92 ti92 := .of_info info92 ⟨rfl, rfl, rfl⟩ rfl ⟨_, Tryz.underlying92, _, rfl, rfl⟩
abbrev ti93 : TI := ⟨true, 2, 16, .struct [(0, 3), (1, 3)], .agg [.int .i64 0, .int .i64 0]⟩
theorem info93 : (Tryz.prog.info? 93).map (fun i => (i.size, i.bytes, i.zero)) = some (2, 16, some (.agg #[.int .i64 0, .int .i64 0])) := by kernel_rfl
theorem tok93 : TOk Tryz.prog 93 ti93 := .of_info info93 ⟨rfl, rfl, rfl⟩ rfl ⟨_, Tryz.underlying93, _, rfl, rfl⟩ fun _ => eqs_of (by kernel_rfl) (by kernel_rfl) (by kernel_rfl)
abbrev ti105 : TI := ⟨false, 1, 8, .pointer 107, .nilp⟩
theorem info105 : (Tryz.prog.info? 105).map (fun i => (i.size, i.bytes, i.zero)) = some (1, 8, some (.pointer none)) := by kernel_rfl
theorem tok105 : TOk Tryz.prog 105 ti105 := .of_info info105 ⟨rfl, rfl, rfl⟩ rfl ⟨_, Tryz.underlying105, rfl⟩
abbrev ti106 : TI := ⟨false, 16, 192, .struct [(0, 49), (15, 25)], .agg [.nils, .nils, .int .i64 0, .int .i64 0, .int .i64 0, .int .i64 0, .int .i64 0, .int .i64 0, .int .i64 0, .int .i64 0, .nils, .int .i64 0, .int .i64 0, .int .i64 0, .int .i64 0, .nils]⟩
theorem info106 : (Tryz.prog.info? 106).map (fun i => (i.size, i.bytes, i.zero)) = some (16, 192, some (.agg #[.slice none 0 0, .slice none 0 0, .int .i64 0, .int .i64 0, .int .i64 0, .int .i64 0, .int .i64 0, .int .i64 0, .int .i64 0, .int .i64 0, .slice none 0 0, .int .i64 0, .int .i64 0, .int .i64 0, .int .i64 0, .slice none 0 0])) := by kernel_rfl
theorem tok106 : TOk Tryz.prog 106 ti106 := .of_info info106 ⟨rfl, rfl, rfl⟩ rfl ⟨_, Tryz.underlying106, _, rfl, rfl⟩
abbrev ti107 : TI := ⟨false, 16, 192, .struct [(0, 49), (15, 25)], .agg [.nils, .nils, .int .i64 0, .int .i64 0, .int .i64 0, .int .i64 0, .int .i64 0, .int .i64 0, .int .i64 0, .int .i64 0, .nils, .int .i64 0, .int .i64 0, .int .i64 0, .int .i64 0, .nils]⟩
theorem info107 : (Tryz.prog.info? 107).map (fun i => (i.size, i.bytes, i.zero)) = some (16, 192, some (.agg #[.slice none 0 0, .slice none 0 0, .int .i64 0, .int .i64 0, .int .i64 0, .int .i64 0, .int .i64 0, .int .i64 0, .int .i64 0, .int .i64 0, .slice none 0 0, .int .i64 0, .int .i64 0, .int .i64 0, .int .i64 0, .slice none 0 0])) := by kernel_rfl
theorem tok107 : TOk Tryz.prog 107 ti107 := .of_info info107 ⟨rfl, rfl, rfl⟩ rfl ⟨_, Tryz.underlying107, _, rfl, rfl⟩
abbrev ti121 : TI := ⟨false, 1, 8, .pointer 126, .nilp⟩
theorem info121 : (Tryz.prog.info? 121).map (fun i => (i.size, i.bytes, i.zero)) = some (1, 8, some (.pointer none)) := by kernel_rfl
theorem tok121 : TOk Tryz.prog 121 ti121 := .of_info info121 ⟨rfl, rfl, rfl⟩ rfl ⟨_, Tryz.underlying121, rfl⟩
abbrev ti124 : TI := ⟨false, 1, 8, .map 3 4, .undef⟩
theorem info124 : (Tryz.prog.info? 124).map (fun i => (i.size, i.bytes, i.zero)) = some (1, 8, some (.map none)) := by kernel_rfl
theorem tok124 : TOk Tryz.prog 124 ti124 := .of_info info124 ⟨rfl, rfl, rfl⟩ rfl ⟨_, Tryz.underlying124, rfl⟩
abbrev ti125 : TI := ⟨false, 4, 64, .struct [(0, 76), (1, 124), (2, 80), (3, 3)], .agg [.nils, .undef, .nils, .int .i64 0]⟩
theorem info125 : (Tryz.prog.info? 125).map (fun i => (i.size, i.bytes, i.zero)) = some (4, 64, some (.agg #[.slice none 0 0, .map none, .slice none 0 0, .int .i64 0])) := by kernel_rfl
theorem tok125 : TOk Tryz.prog 125 ti125 := .of_info info125 ⟨rfl, rfl, rfl⟩ rfl ⟨_, Tryz.underlying125, _, rfl, rfl⟩
abbrev ti126 : TI := ⟨false, 4, 64, .struct [(0, 76), (1, 124), (2, 80), (3, 3)], .agg [.nils, .undef, .nils, .int .i64 0]⟩
theorem info126 : (Tryz.prog.info? 126).map (fun i => (i.size, i.bytes, i.zero)) = some (4, 64, some (.agg #[.slice none 0 0, .map none, .slice none 0 0, .int .i64 0])) := by kernel_rfl
theorem tok126 : TOk Tryz.prog 126 ti126 := .of_info info126 ⟨rfl, rfl, rfl⟩ rfl ⟨_, Tryz.underlying126, _, rfl, rfl⟩
abbrev ti130 : TI := ⟨false, 1, 24, .slice 134, .nils⟩
theorem info130 : (Tryz.prog.info? 130).map (fun i => (i.size, i.bytes, i.zero)) = some (1, 24, some (.slice none 0 0)) := by kernel_rfl
theorem tok130 : TOk Tryz.prog 130 ti130 := .of_info info130 ⟨rfl, rfl, rfl⟩ rfl ⟨_, Tryz.underlying130, rfl⟩
abbrev ti133 : TI := ⟨false, 4, 32, .struct [(0, 3), (1, 3), (2, 3), (3, 3)], .agg [.int .i64 0, .int .i64 0, .int .i64 0, .int .i64 0]⟩
theorem info133 : (Tryz.prog.info? 133).map (fun i => (i.size, i.bytes, i.zero)) = some (4, 32, some (.agg #[.int .i64 0, .int .i64 0, .int .i64 0, .int .i64 0])) := by kernel_rfl
theorem tok133 : TOk Tryz.prog 133 ti133 := .of_info info133 ⟨rfl, rfl, rfl⟩ rfl ⟨_, Tryz.underlying133, _, rfl, rfl⟩
abbrev ti134 : TI := ⟨true, 4, 32, .struct [(0, 3), (1, 3), (2, 3), (3, 3)], .agg [.int .i64 0, .int .i64 0, .int .i64 0, .int .i64 0]⟩
theorem info134 : (Tryz.prog.info? 134).map (fun i => (i.size, i.bytes, i.zero)) = some (4, 32, some (.agg #[.int .i64 0, .int .i64 0, .int .i64 0, .int .i64 0])) := by kernel_rfl
theorem tok134 : TOk Tryz.prog 134 ti134 := .of_info info134 ⟨rfl, rfl, rfl⟩ rfl ⟨_, Tryz.underlying134, _, rfl, rfl⟩ fun _ => eqs_of (by kernel_rfl) (by kernel_rfl) (by kernel_rfl)
abbrev ti137 : TI := ⟨false, 1, 24, .slice 141, .nils⟩
theorem info137 : (Tryz.prog.info? 137).map (fun i => (i.size, i.bytes, i.zero)) = some (1, 24, some (.slice none 0 0)) := by kernel_rfl
theorem tok137 : TOk Tryz.prog 137 ti137 := .of_info info137 ⟨rfl, rfl, rfl⟩ rfl ⟨_, Tryz.underlying137, rfl⟩
abbrev ti139 : TI := ⟨false, 1, 8, .pointer 3, .nilp⟩
theorem info139 : (Tryz.prog.info? 139).map (fun i => (i.size, i.bytes, i.zero)) = some (1, 8, some (.pointer none)) := by kernel_rfl
theorem tok139 : TOk Tryz.prog 139 ti139 := .of_info info139 ⟨rfl, rfl, rfl⟩ rfl ⟨_, Tryz.underlying139, rfl⟩
abbrev ti140 : TI := ⟨false, 4, 32, .struct [(0, 139), (1, 3), (2, 3), (3, 3)], .agg [.nilp, .int .i64 0, .int .i64 0, .int .i64 0]⟩
theorem info140 : (Tryz.prog.info? 140).map (fun i => (i.size, i.bytes, i.zero)) = some (4, 32, some (.agg #[.pointer none, .int .i64 0, .int .i64 0, .int .i64 0])) := by kernel_rfl
theorem tok140 : TOk Tryz.prog 140 ti140 := .of_info info140 ⟨rfl, rfl, rfl⟩ rfl ⟨_, Tryz.underlying140, _, rfl, rfl⟩
abbrev ti141 : TI := ⟨false, 4, 32, .struct [(0, 139), (1, 3), (2, 3), (3, 3)], .agg [.nilp, .int .i64 0, .int .i64 0, .int .i64 0]⟩
theorem info141 : (Tryz.prog.info? 141).map (fun i => (i.size, i.bytes, i.zero)) = some (4, 32, some (.agg #[.pointer none, .int .i64 0, .int .i64 0, .int .i64 0])) := by kernel_rfl
theorem tok141 : TOk Tryz.prog 141 ti141 := .of_info info141 ⟨rfl, rfl, rfl⟩ rfl ⟨_, Tryz.underlying141, _, rfl, rfl⟩
abbrev ti148 : TI := ⟨false, 1, 24, .slice 4, .nils⟩
theorem info148 : (Tryz.prog.info? 148).map (fun i => (i.size, i.bytes, i.zero)) = some (1, 24, some (.slice none 0 0)) := by kernel_rfl
theorem tok148 : TOk Tryz.prog 148 ti148 := .of_info info148 ⟨rfl, rfl, rfl⟩ rfl ⟨_, Tryz.underlying148, rfl⟩
abbrev ti151 : TI := ⟨false, 1, 8, .pointer 155, .nilp⟩
theorem info151 : (Tryz.prog.info? 151).map (fun i => (i.size, i.bytes, i.zero)) = some (1, 8, some (.pointer none)) := by kernel_rfl
theorem tok151 : TOk Tryz.prog 151 ti151 := .of_info info151 ⟨rfl, rfl, rfl⟩ rfl ⟨_, Tryz.underlying151, rfl⟩
abbrev ti154 : TI := ⟨false, 16, 192, .struct [(0, 49), (15, 25)], .agg [.nils, .nils, .int .i64 0, .int .i64 0, .int .i64 0, .int .i64 0, .int .i64 0, .int .i64 0, .int .i64 0, .int .i64 0, .nils, .int .i64 0, .int .i64 0, .int .i64 0, .int .i64 0, .nils]⟩
theorem info154 : (Tryz.prog.info? 154).map (fun i => (i.size, i.bytes, i.zero)) = some (16, 192, some (.agg #[.slice none 0 0, .slice none 0 0, .int .i64 0, .int .i64 0, .int .i64 0, .int .i64 0, .int .i64 0, .int .i64 0, .int .i64 0, .int .i64 0, .slice none 0 0, .int .i64 0, .int .i64 0, .int .i64 0, .int .i64 0, .slice none 0 0])) := by kernel_rfl
theorem tok154 : TOk Tryz.prog 154 ti154 := .of_info info154 ⟨rfl, rfl, rfl⟩ rfl ⟨_, Tryz.underlying154, _, rfl, rfl⟩
abbrev ti155 : TI := ⟨false, 16, 192, .struct [(0, 49), (15, 25)], .agg [.nils, .nils, .int .i64 0, .int .i64 0, .int .i64 0, .int .i64 0, .int .i64 0, .int .i64 0, .int .i64 0, .int .i64 0, .nils, .int .i64 0, .int .i64 0, .int .i64 0, .int .i64 0, .nils]⟩
theorem info155 : (Tryz.prog.info? 155).map (fun i => (i.size, i.bytes, i.zero)) = some (16, 192, some (.agg #[.slice none 0 0, .slice none 0 0, .int .i64 0, .int .i64 0, .int .i64 0, .int .i64 0, .int .i64 0, .int .i64 0, .int .i64 0, .int .i64 0, .slice none 0 0, .int .i64 0, .int .i64 0, .int .i64 0, .int .i64 0, .slice none 0 0])) := by kernel_rfl
theorem tok155 : TOk Tryz.prog 155 ti155 := .of_info info155 ⟨rfl, rfl, rfl⟩ rfl ⟨_, Tryz.underlying155, _, rfl, rfl⟩
abbrev ti160 : TI := ⟨false, 1, 8, .map 83 4, .undef⟩
theorem info160 : (Tryz.prog.info? 160).map (fun i => (i.size, i.bytes, i.zero)) = some (1, 8, some (.map none)) := by kernel_rfl
theorem tok160 : TOk Tryz.prog 160 ti160 := .of_info info160 ⟨rfl, rfl, rfl⟩ rfl ⟨_, Tryz.underlying160, rfl⟩
abbrev ti161 : TI := ⟨false, 1, 8, .map 85 4, .undef⟩
theorem info161 : (Tryz.prog.info? 161).map (fun i => (i.size, i.bytes, i.zero)) = some (1, 8, some (.map none)) := by kernel_rfl
theorem tok161 : TOk Tryz.prog 161 ti161 := .of_info info161 ⟨rfl, rfl, rfl⟩ rfl ⟨_, Tryz.underlying161, rfl⟩
abbrev ti169 : TI := ⟨false, 1, 24, .slice 243, .nils⟩
theorem info169 : (Tryz.prog.info? 169).map (fun i => (i.size, i.bytes, i.zero)) = some (1, 24, some (.slice none 0 0)) := by kernel_rfl
theorem tok169 : TOk Tryz.prog 169 ti169 := .of_info info169 ⟨rfl, rfl, rfl⟩ rfl ⟨_, Tryz.underlying169, rfl⟩
abbrev ti172 : TI := ⟨false, 4, 48, .struct [(0, 3), (1, 3), (2, 3), (3, 169)], .agg [.int .i64 0, .int .i64 0, .int .i64 0, .nils]⟩
theorem info172 : (Tryz.prog.info? 172).map (fun i => (i.size, i.bytes, i.zero)) = some (4, 48, some (.agg #[.int .i64 0, .int .i64 0, .int .i64 0, .slice none 0 0])) := by kernel_rfl
theorem tok172 : TOk Tryz.prog 172 ti172 := .of_info info172 ⟨rfl, rfl, rfl⟩ rfl ⟨_, Tryz.underlying172, _, rfl, rfl⟩
abbrev ti173 : TI := ⟨false, 4, 48, .struct [(0, 3), (1, 3), (2, 3), (3, 169)], .agg [.int .i64 0, .int .i64 0, .int .i64 0, .nils]⟩
theorem info173 : (Tryz.prog.info? 173).map (fun i => (i.size, i.bytes, i.zero)) = some (4, 48, some (.agg #[.int .i64 0, .int .i64 0, .int .i64 0, .slice none 0 0])) := by kernel_rfl
theorem tok173 : TOk Tryz.prog 173 ti173 := .of_info info173 ⟨rfl, rfl, rfl⟩ rfl ⟨_, Tryz.underlying173, _, rfl, rfl⟩
abbrev ti182 : TI := ⟨false, 1, 8, .pointer 45, .nilp⟩
theorem info182 : (Tryz.prog.info? 182).map (fun i => (i.size, i.bytes, i.zero)) = some (1, 8, some (.pointer none)) := by kernel_rfl
theorem tok182 : TOk Tryz.prog 182 ti182 := .of_info info182 ⟨rfl, rfl, rfl⟩ rfl ⟨_, Tryz.underlying182, rfl⟩
abbrev ti186 : TI := ⟨false, 1, 8, .pointer 28, .nilp⟩
theorem info186 : (Tryz.prog.info? 186).map (fun i => (i.size, i.bytes, i.zero)) = some (1, 8, some (.pointer none)) := by kernel_rfl
theorem tok186 : TOk Tryz.prog 186 ti186 := .of_info info186 ⟨rfl, rfl, rfl⟩ rfl ⟨_, Tryz.underlying186, rfl⟩
abbrev ti191 : TI := ⟨false, 1, 24, .slice 271, .nils⟩
theorem info191 : (Tryz.prog.info? 191).map (fun i => (i.size, i.bytes, i.zero)) = some (1, 24, some (.slice none 0 0)) := by kernel_rfl
theorem tok191 : TOk Tryz.prog 191 ti191 := .of_info info191 ⟨rfl, rfl, rfl⟩ rfl ⟨_, Tryz.underlying191, rfl⟩
abbrev ti196 : TI := ⟨false, 4, 56, .struct [(0, 3), (1, 9), (2, 3), (3, 39)], .agg [.int .i64 0, .str ⟨#[]⟩, .int .i64 0, .nils]⟩
theorem info196 : (Tryz.prog.info? 196).map (fun i => (i.size, i.bytes, i.zero)) = some (4, 56, some (.agg #[.int .i64 0, .string ⟨#[]⟩, .int .i64 0, .slice none 0 0])) := by kernel_rfl
theorem tok196 : TOk Tryz.prog 196 ti196 := .of_info info196 ⟨rfl, rfl, rfl⟩ rfl ⟨_, Tryz.underlying196, _, rfl, rfl⟩
abbrev ti197 : TI := ⟨false, 4, 56, .struct [(0, 3), (1, 9), (2, 3), (3, 39)], .agg [.int .i64 0, .str ⟨#[]⟩, .int .i64 0, .nils]⟩
theorem info197 : (Tryz.prog.info? 197).map (fun i => (i.size, i.bytes, i.zero)) = some (4, 56, some (.agg #[.int .i64 0, .string ⟨#[]⟩, .int .i64 0, .slice none 0 0])) := by kernel_rfl
theorem tok197 : TOk Tryz.prog 197 ti197 := .of_info info197 ⟨rfl, rfl, rfl⟩ rfl ⟨_, Tryz.underlying197, _, rfl, rfl⟩
abbrev ti202 : TI := ⟨false, 3, 24, .struct [(0, 3), (1, 3), (2, 3)], .agg [.int .i64 0, .int .i64 0, .int .i64 0]⟩
theorem info202 : (Tryz.prog.info? 202).map (fun i => (i.size, i.bytes, i.zero)) = some (3, 24, some (.agg #[.int .i64 0, .int .i64 0, .int .i64 0])) := by kernel_rfl
theorem tok202 : TOk Tryz.prog 202 ti202 := .of_info info202 ⟨rfl, rfl, rfl⟩ rfl ⟨_, Tryz.underlying202, _, rfl, rfl⟩
abbrev ti203 : TI := ⟨true, 3, 24, .struct [(0, 3), (1, 3), (2, 3)], .agg [.int .i64 0, .int .i64 0, .int .i64 0]⟩
theorem info203 : (Tryz.prog.info? 203).map (fun i => (i.size, i.bytes, i.zero)) = some (3, 24, some (.agg #[.int .i64 0, .int .i64 0, .int .i64 0])) := by kernel_rfl
theorem tok203 : TOk Tryz.prog 203 ti203 := .of_info info203 ⟨rfl, rfl, rfl⟩ rfl ⟨_, Tryz.underlying203, _, rfl, rfl⟩ fun _ => eqs_of (by kernel_rfl) (by kernel_rfl) (by kernel_rfl)
abbrev ti205 : TI := ⟨false, 2, 32, .struct [(0, 3), (1, 39)], .agg [.int .i64 0, .nils]⟩
theorem info205 : (Tryz.prog.info? 205).map (fun i => (i.size, i.bytes, i.zero)) = some (2, 32, some (.agg #[.int .i64 0, .slice none 0 0])) := by kernel_rfl
theorem tok205 : TOk Tryz.prog 205 ti205 := .of_info info205 ⟨rfl, rfl, rfl⟩ rfl ⟨_, Tryz.underlying205, _, rfl, rfl⟩
abbrev ti206 : TI := ⟨false, 2, 32, .struct [(0, 3), (1, 39)], .agg [.int .i64 0, .nils]⟩
theorem info206 : (Tryz.prog.info? 206).map (fun i => (i.size, i.bytes, i.zero)) = some (2, 32, some (.agg #[.int .i64 0, .slice none 0 0])) := by kernel_rfl
theorem tok206 : TOk Tryz.prog 206 ti206 := .of_info info206 ⟨rfl, rfl, rfl⟩ rfl ⟨_, Tryz.underlying206, _, rfl, rfl⟩
abbrev ti212 : TI := ⟨false, 1, 8, .pointer 47, .nilp⟩
theorem info212 : (Tryz.prog.info? 212).map (fun i => (i.size, i.bytes, i.zero)) = some (1, 8, some (.pointer none)) := by kernel_rfl
theorem tok212 : TOk Tryz.prog 212 ti212 := .of_info info212 ⟨rfl, rfl, rfl⟩ rfl ⟨_, Tryz.underlying212, rfl⟩
abbrev ti213 : TI := ⟨false, 1, 4, .int .u32, .int .u32 0⟩
theorem info213 : (Tryz.prog.info? 213).map (fun i => (i.size, i.bytes, i.zero)) = some (1, 4, some (.int .u32 0)) := by kernel_rfl
theorem tok213 : TOk Tryz.prog 213 ti213 := .of_info info213 ⟨rfl, rfl, rfl⟩ rfl ⟨_, Tryz.underlying213, rfl⟩
abbrev ti234 : TI := ⟨false, 1, 24, .slice 77, .nils⟩
theorem info234 : (Tryz.prog.info? 234).map (fun i => (i.size, i.bytes, i.zero)) = some (1, 24, some (.slice none 0 0)) := by kernel_rfl
theorem tok234 : TOk Tryz.prog 234 ti234 := .of_info info234 ⟨rfl, rfl, rfl⟩ rfl ⟨_, Tryz.underlying234, rfl⟩
abbrev ti242 : TI := ⟨false, 2, 32, .struct [(0, 3), (1, 22)], .agg [.int .i64 0, .nils]⟩
theorem info242 : (Tryz.prog.info? 242).map (fun i => (i.size, i.bytes, i.zero)) = some (2, 32, some (.agg #[.int .i64 0, .slice none 0 0])) := by kernel_rfl
theorem tok242 : TOk Tryz.prog 242 ti242 := .of_info info242 ⟨rfl, rfl, rfl⟩ rfl ⟨_, Tryz.underlying242, _, rfl, rfl⟩
abbrev ti243 : TI := ⟨false, 2, 32, .struct [(0, 3), (1, 22)], .agg [.int .i64 0, .nils]⟩
theorem info243 : (Tryz.prog.info? 243).map (fun i => (i.size, i.bytes, i.zero)) = some (2, 32, some (.agg #[.int .i64 0, .slice none 0 0])) := by kernel_rfl
theorem tok243 : TOk Tryz.prog 243 ti243 := .of_info info243 ⟨rfl, rfl, rfl⟩ rfl ⟨_, Tryz.underlying243, _, rfl, rfl⟩
abbrev ti246 : TI := ⟨false, 1, 24, .slice 83, .nils⟩
theorem info246 : (Tryz.prog.info? 246).map (fun i => (i.size, i.bytes, i.zero)) = some (1, 24, some (.slice none 0 0)) := by kernel_rfl
theorem tok246 : TOk Tryz.prog 246 ti246 := .of_info info246 ⟨rfl, rfl, rfl⟩ rfl ⟨_, Tryz.underlying246, rfl⟩
abbrev ti248 : TI := ⟨false, 2, 48, .array 2 22, .agg [.nils, .nils]⟩
theorem info248 : (Tryz.prog.info? 248).map (fun i => (i.size, i.bytes, i.zero)) = some (2, 48, some (.agg #[.slice none 0 0, .slice none 0 0])) := by kernel_rfl
theorem tok248 : TOk Tryz.prog 248 ti248 := .of_info info248 ⟨rfl, rfl, rfl⟩ rfl ⟨_, Tryz.underlying248, rfl⟩
abbrev ti251 : TI := ⟨false, 1, 24, .slice 173, .nils⟩
theorem info251 : (Tryz.prog.info? 251).map (fun i => (i.size, i.bytes, i.zero)) = some (1, 24, some (.slice none 0 0)) := by kernel_rfl
theorem tok251 : TOk Tryz.prog 251 ti251 := .of_info info251 ⟨rfl, rfl, rfl⟩ rfl ⟨_, Tryz.underlying251, rfl⟩
abbrev ti255 : TI := ⟨false, 1, 8, .map 3 39, .undef⟩
theorem info255 : (Tryz.prog.info? 255).map (fun i => (i.size, i.bytes, i.zero)) = some (1, 8, some (.map none)) := by kernel_rfl
theorem tok255 : TOk Tryz.prog 255 ti255 := .of_info info255 ⟨rfl, rfl, rfl⟩ rfl ⟨_, Tryz.underlying255, rfl⟩
abbrev ti256 : TI := ⟨false, 1, 8, .map 3 258, .undef⟩
theorem info256 : (Tryz.prog.info? 256).map (fun i => (i.size, i.bytes, i.zero)) = some (1, 8, some (.map none)) := by kernel_rfl
theorem tok256 : TOk Tryz.prog 256 ti256 := .of_info info256 ⟨rfl, rfl, rfl⟩ rfl ⟨_, Tryz.underlying256, rfl⟩
abbrev ti258 : TI := ⟨false, 3, 24, .array 3 83, .agg [.int .u64 0, .int .u64 0, .int .u64 0]⟩
theorem info258 : (Tryz.prog.info? 258).map (fun i => (i.size, i.bytes, i.zero)) = some (3, 24, some (.agg #[.int .u64 0, .int .u64 0, .int .u64 0])) := by kernel_rfl
theorem tok258 : TOk Tryz.prog 258 ti258 := .of_info info258 ⟨rfl, rfl, rfl⟩ rfl ⟨_, Tryz.underlying258, rfl⟩
abbrev ti263 : TI := ⟨false, 1, 8, .pointer 83, .nilp⟩
theorem info263 : (Tryz.prog.info? 263).map (fun i => (i.size, i.bytes, i.zero)) = some (1, 8, some (.pointer none)) := by kernel_rfl
theorem tok263 : TOk Tryz.prog 263 ti263 := .of_info info263 ⟨rfl, rfl, rfl⟩ rfl ⟨_, Tryz.underlying263, rfl⟩
abbrev ti264 : TI := ⟨false, 2, 48, .struct [(0, 80), (1, 77)], .agg [.nils, .nils]⟩
theorem info264 : (Tryz.prog.info? 264).map (fun i => (i.size, i.bytes, i.zero)) = some (2, 48, some (.agg #[.slice none 0 0, .slice none 0 0])) := by kernel_rfl
theorem tok264 : TOk Tryz.prog 264 ti264 := .of_info info264 ⟨rfl, rfl, rfl⟩ rfl ⟨_, Tryz.underlying264, _, rfl, rfl⟩
abbrev ti265 : TI := ⟨false, 2, 48, .struct [(0, 80), (1, 77)], .agg [.nils, .nils]⟩
theorem info265 : (Tryz.prog.info? 265).map (fun i => (i.size, i.bytes, i.zero)) = some (2, 48, some (.agg #[.slice none 0 0, .slice none 0 0])) := by kernel_rfl
theorem tok265 : TOk Tryz.prog 265 ti265 := .of_info info265 ⟨rfl, rfl, rfl⟩ rfl ⟨_, Tryz.underlying265, _, rfl, rfl⟩
abbrev ti269 : TI := ⟨false, 1, 8, .map 9 4, .undef⟩
theorem info269 : (Tryz.prog.info? 269).map (fun i => (i.size, i.bytes, i.zero)) = some (1, 8, some (.map none)) := by kernel_rfl
theorem tok269 : TOk Tryz.prog 269 ti269 := .of_info info269 ⟨rfl, rfl, rfl⟩ rfl ⟨_, Tryz.underlying269, rfl⟩
abbrev ti270 : TI := ⟨false, 2, 24, .struct [(0, 3), (1, 9)], .agg [.int .i64 0, .str ⟨#[]⟩]⟩
theorem info270 : (Tryz.prog.info? 270).map (fun i => (i.size, i.bytes, i.zero)) = some (2, 24, some (.agg #[.int .i64 0, .string ⟨#[]⟩])) := by kernel_rfl
theorem tok270 : TOk Tryz.prog 270 ti270 := .of_info info270 ⟨rfl, rfl, rfl⟩ rfl ⟨_, Tryz.underlying270, _, rfl, rfl⟩
abbrev ti271 : TI := ⟨true, 2, 24, .struct [(0, 3), (1, 9)], .agg [.int .i64 0, .str ⟨#[]⟩]⟩
theorem info271 : (Tryz.prog.info? 271).map (fun i => (i.size, i.bytes, i.zero)) = some (2, 24, some (.agg #[.int .i64 0, .string ⟨#[]⟩])) := by kernel_rfl
theorem tok271 : TOk Tryz.prog 271 ti271 := .of_info info271 ⟨rfl, rfl, rfl⟩ rfl ⟨_, Tryz.underlying271, _, rfl, rfl⟩ fun _ => eqs_of (by kernel_rfl) (by kernel_rfl) (by kernel_rfl)
abbrev ti282 : TI := ⟨false, 1, 8, .pointer 27, .nilp⟩
theorem info282 : (Tryz.prog.info? 282).map (fun i => (i.size, i.bytes, i.zero)) = some (1, 8, some (.pointer none)) := by kernel_rfl
theorem tok282 : TOk Tryz.prog 282 ti282 := .of_info info282 ⟨rfl, rfl, rfl⟩ rfl ⟨_, Tryz.underlying282, rfl⟩
abbrev ti291 : TI := ⟨false, 1, 8, .pointer 293, .nilp⟩
theorem info291 : (Tryz.prog.info? 291).map (fun i => (i.size, i.bytes, i.zero)) = some (1, 8, some (.pointer none)) := by kernel_rfl
theorem tok291 : TOk Tryz.prog 291 ti291 := .of_info info291 ⟨rfl, rfl, rfl⟩ rfl ⟨_, Tryz.underlying291, rfl⟩
abbrev ti292 : TI := ⟨false, 2, 32, .struct [(0, 76), (1, 3)], .agg [.nils, .int .i64 0]⟩
theorem info292 : (Tryz.prog.info? 292).map (fun i => (i.size, i.bytes, i.zero)) = some (2, 32, some (.agg #[.slice none 0 0, .int .i64 0])) := by kernel_rfl
theorem tok292 : TOk Tryz.prog 292 ti292 := .of_info info292 ⟨rfl, rfl, rfl⟩ rfl ⟨_, Tryz.underlying292, _, rfl, rfl⟩
abbrev ti293 : TI := ⟨false, 2, 32, .struct [(0, 76), (1, 3)], .agg [.nils, .int .i64 0]⟩
theorem info293 : (Tryz.prog.info? 293).map (fun i => (i.size, i.bytes, i.zero)) = some (2, 32, some (.agg #[.slice none 0 0, .int .i64 0])) := by kernel_rfl
theorem tok293 : TOk Tryz.prog 293 ti293 := .of_info info293 ⟨rfl, rfl, rfl⟩ rfl ⟨_, Tryz.underlying293, _, rfl, rfl⟩
abbrev ti294 : TI := ⟨false, 1, 24, .slice 299, .nils⟩
theorem info294 : (Tryz.prog.info? 294).map (fun i => (i.size, i.bytes, i.zero)) = some (1, 24, some (.slice none 0 0)) := by kernel_rfl
theorem tok294 : TOk Tryz.prog 294 ti294 := .of_info info294 ⟨rfl, rfl, rfl⟩ rfl ⟨_, Tryz.underlying294, rfl⟩
abbrev ti298 : TI := ⟨false, 2, 16, .struct [(0, 3), (1, 83)], .agg [.int .i64 0, .int .u64 0]⟩
theorem info298 : (Tryz.prog.info? 298).map (fun i => (i.size, i.bytes, i.zero)) = some (2, 16, some (.agg #[.int .i64 0, .int .u64 0])) := by kernel_rfl
theorem tok298 : TOk Tryz.prog 298 ti298 := .of_info info298 ⟨rfl, rfl, rfl⟩ rfl ⟨_, Tryz.underlying298, _, rfl, rfl⟩
abbrev ti299 : TI := ⟨true, 2, 16, .struct [(0, 3), (1, 83)], .agg [.int .i64 0, .int .u64 0]⟩
theorem info299 : (Tryz.prog.info? 299).map (fun i => (i.size, i.bytes, i.zero)) = some (2, 16, some (.agg #[.int .i64 0, .int .u64 0])) := by kernel_rfl
theorem tok299 : TOk Tryz.prog 299 ti299 := .of_info info299 ⟨rfl, rfl, rfl⟩ rfl ⟨_, Tryz.underlying299, _, rfl, rfl⟩ fun _ => eqs_of (by kernel_rfl) (by kernel_rfl) (by kernel_rfl)
abbrev ti312 : TI := ⟨false, 1, 8, .pointer 308, .nilp⟩
theorem info312 : (Tryz.prog.info? 312).map (fun i => (i.size, i.bytes, i.zero)) = some (1, 8, some (.pointer none)) := by kernel_rfl
theorem tok312 : TOk Tryz.prog 312 ti312 := .of_info info312 ⟨rfl, rfl, rfl⟩ rfl ⟨_, Tryz.underlying312, rfl⟩
abbrev ti325 : TI := ⟨false, 1, 8, .int .i64, .int .i64 0⟩
theorem info325 : (Tryz.prog.info? 325).map (fun i => (i.size, i.bytes, i.zero)) = some (1, 8, some (.int .i64 0)) := by kernel_rfl
theorem tok325 : TOk Tryz.prog 325 ti325 := .of_info info325 ⟨rfl, rfl, rfl⟩ rfl ⟨_, Tryz.underlying325, rfl⟩
abbrev ti337 : TI := ⟨false, 16, 64, .array 16 213, .agg [.int .u32 0, .int .u32 0, .int .u32 0, .int .u32 0, .int .u32 0, .int .u32 0, .int .u32 0, .int .u32 0, .int .u32 0, .int .u32 0, .int .u32 0, .int .u32 0, .int .u32 0, .int .u32 0, .int .u32 0, .int .u32 0]⟩
theorem info337 : (Tryz.prog.info? 337).map (fun i => (i.size, i.bytes, i.zero)) = some (16, 64, some (.agg #[.int .u32 0, .int .u32 0, .int .u32 0, .int .u32 0, .int .u32 0, .int .u32 0, .int .u32 0, .int .u32 0, .int .u32 0, .int .u32 0, .int .u32 0, .int .u32 0, .int .u32 0, .int .u32 0, .int .u32 0, .int .u32 0])) := by kernel_rfl
theorem tok337 : TOk Tryz.prog 337 ti337 := .of_info info337 ⟨rfl, rfl, rfl⟩ rfl ⟨_, Tryz.underlying337, rfl⟩
abbrev ti362 : TI := ⟨false, 1, 8, .pointer 85, .nilp⟩
theorem info362 : (Tryz.prog.info? 362).map (fun i => (i.size, i.bytes, i.zero)) = some (1, 8, some (.pointer none)) := by kernel_rfl
theorem tok362 : TOk Tryz.prog 362 ti362 := .of_info info362 ⟨rfl, rfl, rfl⟩ rfl ⟨_, Tryz.underlying362, rfl⟩
abbrev ti368 : TI := ⟨false, 1, 8, .pointer 370, .nilp⟩
theorem info368 : (Tryz.prog.info? 368).map (fun i => (i.size, i.bytes, i.zero)) = some (1, 8, some (.pointer none)) := by kernel_rfl
theorem tok368 : TOk Tryz.prog 368 ti368 := .of_info info368 ⟨rfl, rfl, rfl⟩ rfl ⟨_, Tryz.underlying368, rfl⟩
abbrev ti369 : TI := ⟨false, 2, 32, .struct [(0, 22), (1, 3)], .agg [.nils, .int .i64 0]⟩
theorem info369 : (Tryz.prog.info? 369).map (fun i => (i.size, i.bytes, i.zero)) = some (2, 32, some (.agg #[.slice none 0 0, .int .i64 0])) := by kernel_rfl
theorem tok369 : TOk Tryz.prog 369 ti369 := .of_info info369 ⟨rfl, rfl, rfl⟩ rfl ⟨_, Tryz.underlying369, _, rfl, rfl⟩
abbrev ti370 : TI := ⟨false, 2, 32, .struct [(0, 22), (1, 3)], .agg [.nils, .int .i64 0]⟩
theorem info370 : (Tryz.prog.info? 370).map (fun i => (i.size, i.bytes, i.zero)) = some (2, 32, some (.agg #[.slice none 0 0, .int .i64 0])) := by kernel_rfl
theorem tok370 : TOk Tryz.prog 370 ti370 := .of_info info370 ⟨rfl, rfl, rfl⟩ rfl ⟨_, Tryz.underlying370, _, rfl, rfl⟩
abbrev ti380 : TI := ⟨false, 1, 8, .int .u64, .int .u64 0⟩
theorem info380 : (Tryz.prog.info? 380).map (fun i => (i.size, i.bytes, i.zero)) = some (1, 8, some (.int .u64 0)) := by kernel_rfl
theorem tok380 : TOk Tryz.prog 380 ti380 := .of_info info380 ⟨rfl, rfl, rfl⟩ rfl ⟨_, Tryz.underlying380, rfl⟩
abbrev ti399 : TI := ⟨false, 1, 8, .pointer 380, .nilp⟩
theorem info399 : (Tryz.prog.info? 399).map (fun i => (i.size, i.bytes, i.zero)) = some (1, 8, some (.pointer none)) := by kernel_rfl
theorem tok399 : TOk Tryz.prog 399 ti399 := .of_info info399 ⟨rfl, rfl, rfl⟩ rfl ⟨_, Tryz.underlying399, rfl⟩
abbrev ti404 : TI := ⟨false, 1, 8, .pointer 299, .nilp⟩
theorem info404 : (Tryz.prog.info? 404).map (fun i => (i.size, i.bytes, i.zero)) = some (1, 8, some (.pointer none)) := by kernel_rfl
theorem tok404 : TOk Tryz.prog 404 ti404 := .of_info info404 ⟨rfl, rfl, rfl⟩ rfl ⟨_, Tryz.underlying404, rfl⟩
abbrev ti407 : TI := ⟨false, 2, 2, .struct [(0, 5), (1, 5)], .agg [.int .u8 0, .int .u8 0]⟩
theorem info407 : (Tryz.prog.info? 407).map (fun i => (i.size, i.bytes, i.zero)) = some (2, 2, some (.agg #[.int .u8 0, .int .u8 0])) := by kernel_rfl
theorem tok407 : TOk Tryz.prog 407 ti407 := .of_info info407 ⟨rfl, rfl, rfl⟩ rfl ⟨_, Tryz.underlying407, _, rfl, rfl⟩
abbrev ti408 : TI := ⟨false, 2, 2, .struct [(0, 5), (1, 5)], .agg [.int .u8 0, .int .u8 0]⟩
theorem info408 : (Tryz.prog.info? 408).map (fun i => (i.size, i.bytes, i.zero)) = some (2, 2, some (.agg #[.int .u8 0, .int .u8 0])) := by kernel_rfl
theorem tok408 : TOk Tryz.prog 408 ti408 := .of_info info408 ⟨rfl, rfl, rfl⟩ rfl ⟨_, Tryz.underlying408, _, rfl, rfl⟩
abbrev ti409 : TI := ⟨false, 32, 32, .array 16 408, .agg [.int .u8 0, .int .u8 0, .int .u8 0, .int .u8 0, .int .u8 0, .int .u8 0, .int .u8 0, .int .u8 0, .int .u8 0, .int .u8 0, .int .u8 0, .int .u8 0, .int .u8 0, .int .u8 0, .int .u8 0, .int .u8 0, .int .u8 0, .int .u8 0, .int .u8 0, .int .u8 0, .int .u8 0, .int .u8 0, .int .u8 0, .int .u8 0, .int .u8 0, .int .u8 0, .int .u8 0, .int .u8 0, .int .u8 0, .int .u8 0, .int .u8 0, .int .u8 0]⟩
theorem info409 : (Tryz.prog.info? 409).map (fun i => (i.size, i.bytes, i.zero)) = some (32, 32, some (.agg #[.int .u8 0, .int .u8 0, .int .u8 0, .int .u8 0, .int .u8 0, .int .u8 0, .int .u8 0, .int .u8 0, .int .u8 0, .int .u8 0, .int .u8 0, .int .u8 0, .int .u8 0, .int .u8 0, .int .u8 0, .int .u8 0, .int .u8 0, .int .u8 0, .int .u8 0, .int .u8 0, .int .u8 0, .int .u8 0, .int .u8 0, .int .u8 0, .int .u8 0, .int .u8 0, .int .u8 0, .int .u8 0, .int .u8 0, .int .u8 0, .int .u8 0, .int .u8 0])) := by kernel_rfl
theorem tok409 : TOk Tryz.prog 409 ti409 := .of_info info409 ⟨rfl, rfl, rfl⟩ rfl ⟨_, Tryz.underlying409, rfl⟩
abbrev ti422 : TI := ⟨false, 1, 8, .pointer 5, .nilp⟩
theorem info422 : (Tryz.prog.info? 422).map (fun i => (i.size, i.bytes, i.zero)) = some (1, 8, some (.pointer none)) := by kernel_rfl
theorem tok422 : TOk Tryz.prog 422 ti422 := .of_info info422 ⟨rfl, rfl, rfl⟩ rfl ⟨_, Tryz.underlying422, rfl⟩
def L : Lay := fun t => match t with
  | 2 => some ti2
  | 3 => some ti3
  | 4 => some ti4
  | 5 => some ti5
  | 9 => some ti9
  | 12 => some ti12
  | 13 => some ti13
  | 19 => some ti19
  | 21 => some ti21
  | 22 => some ti22
  | 24 => some ti24
  | 25 => some ti25
  | 26 => some ti26
  | 27 => some ti27
  | 28 => some ti28
  | 39 => some ti39
  | 40 => some ti40
  | 41 => some ti41
  | 42 => some ti42
  | 43 => some ti43
  | 44 => some ti44
  | 45 => some ti45
  | 46 => some ti46
  | 47 => some ti47
  | 48 => some ti48
  | 49 => some ti49
  | 50 => some ti50
  | 51 => some ti51
  | 54 => some ti54
  | 55 => some ti55
  | 63 => some ti63
  | 64 => some ti64
  | 75 => some ti75
  | 76 => some ti76
  | 77 => some ti77
  | 80 => some ti80
  | 83 => some ti83
  | 84 => some ti84
  | 85 => some ti85
  | 86 => some ti86
  | 87 => some ti87
  | 92 => some ti92
  | 93 => some ti93
  | 105 => some ti105
  | 106 => some ti106
  | 107 => some ti107
  | 121 => some ti121
  | 124 => some ti124
  | 125 => some ti125
  | 126 => some ti126
  | 130 => some ti130
  | 133 => some ti133
  | 134 => some ti134
  | 137 => some ti137
  | 139 => some ti139
  | 140 => some ti140
  | 141 => some ti141
  | 148 => some ti148
  | 151 => some ti151
  | 154 => some ti154
  | 155 => some ti155
  | 160 => some ti160
  | 161 => some ti161
  | 169 => some ti169
  | 172 => some ti172
  | 173 => some ti173
  | 182 => some ti182
  | 186 => some ti186
  | 191 => some ti191
  | 196 => some ti196
  | 197 => some ti197
  | 202 => some ti202
  | 203 => some ti203
  | 205 => some ti205
  | 206 => some ti206
  | 212 => some ti212
  | 213 => some ti213
  | 234 => some ti234
  | 242 => some ti242
  | 243 => some ti243
  | 246 => some ti246
  | 248 => some ti248
  | 251 => some ti251
  | 255 => some ti255
  | 256 => some ti256
  | 258 => some ti258
  | 263 => some ti263
  | 264 => some ti264
  | 265 => some ti265
  | 269 => some ti269
  | 270 => some ti270
  | 271 => some ti271
  | 282 => some ti282
  | 291 => some ti291
  | 292 => some ti292
  | 293 => some ti293
  | 294 => some ti294
  | 298 => some ti298
  | 299 => some ti299
  | 312 => some ti312
  | 325 => some ti325
  | 337 => some ti337
  | 362 => some ti362
  | 368 => some ti368
  | 369 => some ti369
  | 370 => some ti370
  | 380 => some ti380
  | 399 => some ti399
  | 404 => some ti404
  | 407 => some ti407
  | 408 => some ti408
  | 409 => some ti409
  | 422 => some ti422
  | _ => none
theorem L2 : L 2 = some ⟨false, 1, 8, .int .i64, .int .i64 0⟩ := rfl
theorem L3 : L 3 = some ⟨false, 1, 8, .int .i64, .int .i64 0⟩ := rfl
theorem L4 : L 4 = some ⟨false, 1, 1, .bool, .bool false⟩ := rfl
theorem L5 : L 5 = some ⟨false, 1, 1, .int .u8, .int .u8 0⟩ := rfl
theorem L9 : L 9 = some ⟨false, 1, 16, .str, .str ⟨#[]⟩⟩ := rfl
theorem L12 : L 12 = some ⟨false, 1, 8, .int .u64, .int .u64 0⟩ := rfl
theorem L13 : L 13 = some ⟨false, 2, 24, .struct [(0, 9), (1, 12)], .agg [.str ⟨#[]⟩, .int .u64 0]⟩ := rfl
theorem L19 : L 19 = some ⟨false, 1, 8, .struct [(0, 17)], .agg [.nilp]⟩ := rfl
theorem L21 : L 21 = some ⟨false, 1, 4, .int .i32, .int .i32 0⟩ := rfl
theorem L22 : L 22 = some ⟨false, 1, 24, .slice 5, .nils⟩ := rfl
theorem L24 : L 24 = some ⟨false, 1, 24, .slice 22, .nils⟩ := rfl
theorem L25 : L 25 = some ⟨false, 1, 24, .slice 64, .nils⟩ := rfl
theorem L26 : L 26 = some ⟨false, 3, 56, .struct [(0, 24), (1, 25), (2, 3)], .agg [.nils, .nils, .int .i64 0]⟩ := rfl
theorem L27 : L 27 = some ⟨false, 3, 56, .struct [(0, 24), (1, 25), (2, 3)], .agg [.nils, .nils, .int .i64 0]⟩ := rfl
theorem L28 : L 28 = some ⟨false, 1, 8, .int .i64, .int .i64 0⟩ := rfl
theorem L39 : L 39 = some ⟨false, 1, 24, .slice 203, .nils⟩ := rfl
theorem L40 : L 40 = some ⟨false, 1, 24, .slice 197, .nils⟩ := rfl
theorem L41 : L 41 = some ⟨false, 1, 24, .slice 93, .nils⟩ := rfl
theorem L42 : L 42 = some ⟨false, 2, 32, .struct [(0, 3), (1, 41)], .agg [.int .i64 0, .nils]⟩ := rfl
theorem L43 : L 43 = some ⟨false, 2, 32, .struct [(0, 3), (1, 41)], .agg [.int .i64 0, .nils]⟩ := rfl
theorem L44 : L 44 = some ⟨false, 7, 120, .struct [(0, 3), (1, 39), (2, 40), (3, 3), (4, 43), (6, 24)], .agg [.int .i64 0, .nils, .nils, .int .i64 0, .int .i64 0, .nils, .nils]⟩ := rfl
theorem L45 : L 45 = some ⟨false, 7, 120, .struct [(0, 3), (1, 39), (2, 40), (3, 3), (4, 43), (6, 24)], .agg [.int .i64 0, .nils, .nils, .int .i64 0, .int .i64 0, .nils, .nils]⟩ := rfl
theorem L46 : L 46 = some ⟨false, 7, 56, .struct [(0, 3), (1, 3), (2, 3), (3, 3), (4, 3), (5, 3), (6, 3)], .agg [.int .i64 0, .int .i64 0, .int .i64 0, .int .i64 0, .int .i64 0, .int .i64 0, .int .i64 0]⟩ := rfl
theorem L47 : L 47 = some ⟨true, 7, 56, .struct [(0, 3), (1, 3), (2, 3), (3, 3), (4, 3), (5, 3), (6, 3)], .agg [.int .i64 0, .int .i64 0, .int .i64 0, .int .i64 0, .int .i64 0, .int .i64 0, .int .i64 0]⟩ := rfl
theorem L48 : L 48 = some ⟨false, 15, 168, .struct [(0, 27), (3, 47), (10, 24), (11, 3), (12, 3), (13, 3), (14, 3)], .agg [.nils, .nils, .int .i64 0, .int .i64 0, .int .i64 0, .int .i64 0, .int .i64 0, .int .i64 0, .int .i64 0, .int .i64 0, .nils, .int .i64 0, .int .i64 0, .int .i64 0, .int .i64 0]⟩ := rfl
theorem L49 : L 49 = some ⟨false, 15, 168, .struct [(0, 27), (3, 47), (10, 24), (11, 3), (12, 3), (13, 3), (14, 3)], .agg [.nils, .nils, .int .i64 0, .int .i64 0, .int .i64 0, .int .i64 0, .int .i64 0, .int .i64 0, .int .i64 0, .int .i64 0, .nils, .int .i64 0, .int .i64 0, .int .i64 0, .int .i64 0]⟩ := rfl
theorem L50 : L 50 = some ⟨false, 22, 288, .struct [(0, 45), (7, 49)], .agg [.int .i64 0, .nils, .nils, .int .i64 0, .int .i64 0, .nils, .nils, .nils, .nils, .int .i64 0, .int .i64 0, .int .i64 0, .int .i64 0, .int .i64 0, .int .i64 0, .int .i64 0, .int .i64 0, .nils, .int .i64 0, .int .i64 0, .int .i64 0, .int .i64 0]⟩ := rfl
theorem L51 : L 51 = some ⟨false, 22, 288, .struct [(0, 45), (7, 49)], .agg [.int .i64 0, .nils, .nils, .int .i64 0, .int .i64 0, .nils, .nils, .nils, .nils, .int .i64 0, .int .i64 0, .int .i64 0, .int .i64 0, .int .i64 0, .int .i64 0, .int .i64 0, .int .i64 0, .nils, .int .i64 0, .int .i64 0, .int .i64 0, .int .i64 0]⟩ := rfl
theorem L54 : L 54 = some ⟨false, 6, 48, .struct [(0, 28), (1, 3), (2, 3), (3, 3), (4, 3), (5, 3)], .agg [.int .i64 0, .int .i64 0, .int .i64 0, .int .i64 0, .int .i64 0, .int .i64 0]⟩ := rfl
theorem L55 : L 55 = some ⟨true, 6, 48, .struct [(0, 28), (1, 3), (2, 3), (3, 3), (4, 3), (5, 3)], .agg [.int .i64 0, .int .i64 0, .int .i64 0, .int .i64 0, .int .i64 0, .int .i64 0]⟩ := rfl
theorem L63 : L 63 = some ⟨false, 3, 40, .struct [(0, 3), (1, 3), (2, 22)], .agg [.int .i64 0, .int .i64 0, .nils]⟩ := rfl
theorem L64 : L 64 = some ⟨false, 3, 40, .struct [(0, 3), (1, 3), (2, 22)], .agg [.int .i64 0, .int .i64 0, .nils]⟩ := rfl
theorem L75 : L 75 = some ⟨false, 1, 24, .struct [(0, 24)], .agg [.nils]⟩ := rfl
theorem L76 : L 76 = some ⟨false, 1, 24, .struct [(0, 24)], .agg [.nils]⟩ := rfl
theorem L77 : L 77 = some ⟨false, 1, 24, .slice 3, .nils⟩ := rfl
theorem L80 : L 80 = some ⟨false, 1, 24, .slice 85, .nils⟩ := rfl
theorem L83 : L 83 = some ⟨false, 1, 8, .int .u64, .int .u64 0⟩ := rfl
theorem L84 : L 84 = some ⟨false, 2, 16, .struct [(0, 83), (1, 83)], .agg [.int .u64 0, .int .u64 0]⟩ := rfl
theorem L85 : L 85 = some ⟨true, 2, 16, .struct [(0, 83), (1, 83)], .agg [.int .u64 0, .int .u64 0]⟩ := rfl
theorem L86 : L 86 = some ⟨false, 1, 8, .int .u64, .int .u64 0⟩ := rfl
theorem L87 : L 87 = some ⟨false, 1, 24, .slice 206, .nils⟩ := rfl
theorem L92 : L 92 = some ⟨false, 2, 16, .struct [(0, 3), (1, 3)], .agg [.int .i64 0, .int .i64 0]⟩ := rfl
theorem L93 : L 93 = some ⟨true, 2, 16, .struct [(0, 3), (1, 3)], .agg [.int .i64 0, .int .i64 0]⟩ := rfl
theorem L105 : L 105 = some ⟨false, 1, 8, .pointer 107, .nilp⟩ := rfl
theorem L106 : L 106 = some ⟨false, 16, 192, .struct [(0, 49), (15, 25)], .agg [.nils, .nils, .int .i64 0, .int .i64 0, .int .i64 0, .int .i64 0, .int .i64 0, .int .i64 0, .int .i64 0, .int .i64 0, .nils, .int .i64 0, .int .i64 0, .int .i64 0, .int .i64 0, .nils]⟩ := rfl
theorem L107 : L 107 = some ⟨false, 16, 192, .struct [(0, 49), (15, 25)], .agg [.nils, .nils, .int .i64 0, .int .i64 0, .int .i64 0, .int .i64 0, .int .i64 0, .int .i64 0, .int .i64 0, .int .i64 0, .nils, .int .i64 0, .int .i64 0, .int .i64 0, .int .i64 0, .nils]⟩ := rfl
theorem L121 : L 121 = some ⟨false, 1, 8, .pointer 126, .nilp⟩ := rfl
theorem L124 : L 124 = some ⟨false, 1, 8, .map 3 4, .undef⟩ := rfl
theorem L125 : L 125 = some ⟨false, 4, 64, .struct [(0, 76), (1, 124), (2, 80), (3, 3)], .agg [.nils, .undef, .nils, .int .i64 0]⟩ := rfl
theorem L126 : L 126 = some ⟨false, 4, 64, .struct [(0, 76), (1, 124), (2, 80), (3, 3)], .agg [.nils, .undef, .nils, .int .i64 0]⟩ := rfl
theorem L130 : L 130 = some ⟨false, 1, 24, .slice 134, .nils⟩ := rfl
theorem L133 : L 133 = some ⟨false, 4, 32, .struct [(0, 3), (1, 3), (2, 3), (3, 3)], .agg [.int .i64 0, .int .i64 0, .int .i64 0, .int .i64 0]⟩ := rfl
theorem L134 : L 134 = some ⟨true, 4, 32, .struct [(0, 3), (1, 3), (2, 3), (3, 3)], .agg [.int .i64 0, .int .i64 0, .int .i64 0, .int .i64 0]⟩ := rfl
theorem L137 : L 137 = some ⟨false, 1, 24, .slice 141, .nils⟩ := rfl
theorem L139 : L 139 = some ⟨false, 1, 8, .pointer 3, .nilp⟩ := rfl
theorem L140 : L 140 = some ⟨false, 4, 32, .struct [(0, 139), (1, 3), (2, 3), (3, 3)], .agg [.nilp, .int .i64 0, .int .i64 0, .int .i64 0]⟩ := rfl
theorem L141 : L 141 = some ⟨false, 4, 32, .struct [(0, 139), (1, 3), (2, 3), (3, 3)], .agg [.nilp, .int .i64 0, .int .i64 0, .int .i64 0]⟩ := rfl
theorem L148 : L 148 = some ⟨false, 1, 24, .slice 4, .nils⟩ := rfl
theorem L151 : L 151 = some ⟨false, 1, 8, .pointer 155, .nilp⟩ := rfl
theorem L154 : L 154 = some ⟨false, 16, 192, .struct [(0, 49), (15, 25)], .agg [.nils, .nils, .int .i64 0, .int .i64 0, .int .i64 0, .int .i64 0, .int .i64 0, .int .i64 0, .int .i64 0, .int .i64 0, .nils, .int .i64 0, .int .i64 0, .int .i64 0, .int .i64 0, .nils]⟩ := rfl
theorem L155 : L 155 = some ⟨false, 16, 192, .struct [(0, 49), (15, 25)], .agg [.nils, .nils, .int .i64 0, .int .i64 0, .int .i64 0, .int .i64 0, .int .i64 0, .int .i64 0, .int .i64 0, .int .i64 0, .nils, .int .i64 0, .int .i64 0, .int .i64 0, .int .i64 0, .nils]⟩ := rfl
theorem L160 : L 160 = some ⟨false, 1, 8, .map 83 4, .undef⟩ := rfl
theorem L161 : L 161 = some ⟨false, 1, 8, .map 85 4, .undef⟩ := rfl
theorem L169 : L 169 = some ⟨false, 1, 24, .slice 243, .nils⟩ := rfl
theorem L172 : L 172 = some ⟨false, 4, 48, .struct [(0, 3), (1, 3), (2, 3), (3, 169)], .agg [.int .i64 0, .int .i64 0, .int .i64 0, .nils]⟩ := rfl
theorem L173 : L 173 = some ⟨false, 4, 48, .struct [(0, 3), (1, 3), (2, 3), (3, 169)], .agg [.int .i64 0, .int .i64 0, .int .i64 0, .nils]⟩ := rfl
theorem L182 : L 182 = some ⟨false, 1, 8, .pointer 45, .nilp⟩ := rfl
theorem L186 : L 186 = some ⟨false, 1, 8, .pointer 28, .nilp⟩ := rfl
theorem L191 : L 191 = some ⟨false, 1, 24, .slice 271, .nils⟩ := rfl
theorem L196 : L 196 = some ⟨false, 4, 56, .struct [(0, 3), (1, 9), (2, 3), (3, 39)], .agg [.int .i64 0, .str ⟨#[]⟩, .int .i64 0, .nils]⟩ := rfl
theorem L197 : L 197 = some ⟨false, 4, 56, .struct [(0, 3), (1, 9), (2, 3), (3, 39)], .agg [.int .i64 0, .str ⟨#[]⟩, .int .i64 0, .nils]⟩ := rfl
theorem L202 : L 202 = some ⟨false, 3, 24, .struct [(0, 3), (1, 3), (2, 3)], .agg [.int .i64 0, .int .i64 0, .int .i64 0]⟩ := rfl
theorem L203 : L 203 = some ⟨true, 3, 24, .struct [(0, 3), (1, 3), (2, 3)], .agg [.int .i64 0, .int .i64 0, .int .i64 0]⟩ := rfl
theorem L205 : L 205 = some ⟨false, 2, 32, .struct [(0, 3), (1, 39)], .agg [.int .i64 0, .nils]⟩ := rfl
theorem L206 : L 206 = some ⟨false, 2, 32, .struct [(0, 3), (1, 39)], .agg [.int .i64 0, .nils]⟩ := rfl
theorem L212 : L 212 = some ⟨false, 1, 8, .pointer 47, .nilp⟩ := rfl
theorem L213 : L 213 = some ⟨false, 1, 4, .int .u32, .int .u32 0⟩ := rfl
theorem L234 : L 234 = some ⟨false, 1, 24, .slice 77, .nils⟩ := rfl
theorem L242 : L 242 = some ⟨false, 2, 32, .struct [(0, 3), (1, 22)], .agg [.int .i64 0, .nils]⟩ := rfl
theorem L243 : L 243 = some ⟨false, 2, 32, .struct [(0, 3), (1, 22)], .agg [.int .i64 0, .nils]⟩ := rfl
theorem L246 : L 246 = some ⟨false, 1, 24, .slice 83, .nils⟩ := rfl
theorem L248 : L 248 = some ⟨false, 2, 48, .array 2 22, .agg [.nils, .nils]⟩ := rfl
theorem L251 : L 251 = some ⟨false, 1, 24, .slice 173, .nils⟩ := rfl
theorem L255 : L 255 = some ⟨false, 1, 8, .map 3 39, .undef⟩ := rfl
theorem L256 : L 256 = some ⟨false, 1, 8, .map 3 258, .undef⟩ := rfl
theorem L258 : L 258 = some ⟨false, 3, 24, .array 3 83, .agg [.int .u64 0, .int .u64 0, .int .u64 0]⟩ := rfl
theorem L263 : L 263 = some ⟨false, 1, 8, .pointer 83, .nilp⟩ := rfl
theorem L264 : L 264 = some ⟨false, 2, 48, .struct [(0, 80), (1, 77)], .agg [.nils, .nils]⟩ := rfl
theorem L265 : L 265 = some ⟨false, 2, 48, .struct [(0, 80), (1, 77)], .agg [.nils, .nils]⟩ := rfl
theorem L269 : L 269 = some ⟨false, 1, 8, .map 9 4, .undef⟩ := rfl
theorem L270 : L 270 = some ⟨false, 2, 24, .struct [(0, 3), (1, 9)], .agg [.int .i64 0, .str ⟨#[]⟩]⟩ := rfl
theorem L271 : L 271 = some ⟨true, 2, 24, .struct [(0, 3), (1, 9)], .agg [.int .i64 0, .str ⟨#[]⟩]⟩ := rfl
theorem L282 : L 282 = some ⟨false, 1, 8, .pointer 27, .nilp⟩ := rfl
theorem L291 : L 291 = some ⟨false, 1, 8, .pointer 293, .nilp⟩ := rfl
theorem L292 : L 292 = some ⟨false, 2, 32, .struct [(0, 76), (1, 3)], .agg [.nils, .int .i64 0]⟩ := rfl
theorem L293 : L 293 = some ⟨false, 2, 32, .struct [(0, 76), (1, 3)], .agg [.nils, .int .i64 0]⟩ := rfl
theorem L294 : L 294 = some ⟨false, 1, 24, .slice 299, .nils⟩ := rfl
theorem L298 : L 298 = some ⟨false, 2, 16, .struct [(0, 3), (1, 83)], .agg [.int .i64 0, .int .u64 0]⟩ := rfl
theorem L299 : L 299 = some ⟨true, 2, 16, .struct [(0, 3), (1, 83)], .agg [.int .i64 0, .int .u64 0]⟩ := rfl
theorem L312 : L 312 = some ⟨false, 1, 8, .pointer 308, .nilp⟩ := rfl
theorem L325 : L 325 = some ⟨false, 1, 8, .int .i64, .int .i64 0⟩ := rfl
theorem L337 : L 337 = some ⟨false, 16, 64, .array 16 213, .agg [.int .u32 0, .int .u32 0, .int .u32 0, .int .u32 0, .int .u32 0, .int .u32 0, .int .u32 0, .int .u32 0, .int .u32 0, .int .u32 0, .int .u32 0, .int .u32 0, .int .u32 0, .int .u32 0, .int .u32 0, .int .u32 0]⟩ := rfl
theorem L362 : L 362 = some ⟨false, 1, 8, .pointer 85, .nilp⟩ := rfl
theorem L368 : L 368 = some ⟨false, 1, 8, .pointer 370, .nilp⟩ := rfl
theorem L369 : L 369 = some ⟨false, 2, 32, .struct [(0, 22), (1, 3)], .agg [.nils, .int .i64 0]⟩ := rfl
theorem L370 : L 370 = some ⟨false, 2, 32, .struct [(0, 22), (1, 3)], .agg [.nils, .int .i64 0]⟩ := rfl
theorem L380 : L 380 = some ⟨false, 1, 8, .int .u64, .int .u64 0⟩ := rfl
theorem L399 : L 399 = some ⟨false, 1, 8, .pointer 380, .nilp⟩ := rfl
theorem L404 : L 404 = some ⟨false, 1, 8, .pointer 299, .nilp⟩ := rfl
theorem L407 : L 407 = some ⟨false, 2, 2, .struct [(0, 5), (1, 5)], .agg [.int .u8 0, .int .u8 0]⟩ := rfl
theorem L408 : L 408 = some ⟨false, 2, 2, .struct [(0, 5), (1, 5)], .agg [.int .u8 0, .int .u8 0]⟩ := rfl
theorem L409 : L 409 = some ⟨false, 32, 32, .array 16 408, .agg [.int .u8 0, .int .u8 0, .int .u8 0, .int .u8 0, .int .u8 0, .int .u8 0, .int .u8 0, .int .u8 0, .int .u8 0, .int .u8 0, .int .u8 0, .int .u8 0, .int .u8 0, .int .u8 0, .int .u8 0, .int .u8 0, .int .u8 0, .int .u8 0, .int .u8 0, .int .u8 0, .int .u8 0, .int .u8 0, .int .u8 0, .int .u8 0, .int .u8 0, .int .u8 0, .int .u8 0, .int .u8 0, .int .u8 0, .int .u8 0, .int .u8 0, .int .u8 0]⟩ := rfl
theorem L422 : L 422 = some ⟨false, 1, 8, .pointer 5, .nilp⟩ := rfl
theorem layOk : LayOk Tryz.prog L := by
  intro t i h
  unfold L at h
  split at h <;> first
    | (cases h; done)
    | (cases h; exact tok2)
    | (cases h; exact tok3)
    | (cases h; exact tok4)
    | (cases h; exact tok5)
    | (cases h; exact tok9)
    | (cases h; exact tok12)
    | (cases h; exact tok13)
    | (cases h; exact tok19)
    | (cases h; exact tok21)
    | (cases h; exact tok22)
    | (cases h; exact tok24)
    | (cases h; exact tok25)
    | (cases h; exact tok26)
    | (cases h; exact tok27)
    | (cases h; exact tok28)
    | (cases h; exact tok39)
    | (cases h; exact tok40)
    | (cases h; exact tok41)
    | (cases h; exact tok42)
    | (cases h; exact tok43)
    | (cases h; exact tok44)
    | (cases h; exact tok45)
    | (cases h; exact tok46)
    | (cases h; exact tok47)
    | (cases h; exact tok48)
    | (cases h; exact tok49)
    | (cases h; exact tok50)
    | (cases h; exact tok51)
    | (cases h; exact tok54)
    | (cases h; exact tok55)
    | (cases h; exact tok63)
    | (cases h; exact tok64)
    | (cases h; exact tok75)
    | (cases h; exact tok76)
    | (cases h; exact tok77)
    | (cases h; exact tok80)
    | (cases h; exact tok83)
    | (cases h; exact tok84)
    | (cases h; exact tok85)
    | (cases h; exact tok86)
    | (cases h; exact tok87)
    | (cases h; exact tok92)
    | (cases h; exact tok93)
    | (cases h; exact tok105)
    | (cases h; exact tok106)
    | (cases h; exact tok107)
    | (cases h; exact tok121)
    | (cases h; exact tok124)
    | (cases h; exact tok125)
    | (cases h; exact tok126)
    | (cases h; exact tok130)
    | (cases h; exact tok133)
    | (cases h; exact tok134)
    | (cases h; exact tok137)
    | (cases h; exact tok139)
    | (cases h; exact tok140)
    | (cases h; exact tok141)
    | (cases h; exact tok148)
    | (cases h; exact tok151)
    | (cases h; exact tok154)
    | (cases h; exact tok155)
    | (cases h; exact tok160)
    | (cases h; exact tok161)
    | (cases h; exact tok169)
    | (cases h; exact tok172)
    | (cases h; exact tok173)
    | (cases h; exact tok182)
    | (cases h; exact tok186)
    | (cases h; exact tok191)
    | (cases h; exact tok196)
    | (cases h; exact tok197)
    | (cases h; exact tok202)
    | (cases h; exact tok203)
    | (cases h; exact tok205)
    | (cases h; exact tok206)
    | (cases h; exact tok212)
    | (cases h; exact tok213)
    | (cases h; exact tok234)
    | (cases h; exact tok242)
    | (cases h; exact tok243)
    | (cases h; exact tok246)
    | (cases h; exact tok248)
    | (cases h; exact tok251)
    | (cases h; exact tok255)
    | (cases h; exact tok256)
    | (cases h; exact tok258)
    | (cases h; exact tok263)
    | (cases h; exact tok264)
    | (cases h; exact tok265)
    | (cases h; exact tok269)
    | (cases h; exact tok270)
    | (cases h; exact tok271)
    | (cases h; exact tok282)
    | (cases h; exact tok291)
    | (cases h; exact tok292)
    | (cases h; exact tok293)
    | (cases h; exact tok294)
    | (cases h; exact tok298)
    | (cases h; exact tok299)
    | (cases h; exact tok312)
    | (cases h; exact tok325)
    | (cases h; exact tok337)
    | (cases h; exact tok362)
    | (cases h; exact tok368)
    | (cases h; exact tok369)
    | (cases h; exact tok370)
    | (cases h; exact tok380)
    | (cases h; exact tok399)
    | (cases h; exact tok404)
    | (cases h; exact tok407)
    | (cases h; exact tok408)
    | (cases h; exact tok409)
    | (cases h; exact tok422)
theorem mixed : Tryz.prog.follows .mixedOrders = true := by kernel_rfl
end Go.VL
end
