/- Proved: MetaLoads: whatever items and data come in (together of bulk at most 1048576), the call returns true and they read as they did; no other condition. This text is part 7 of 15. -/
import Derived.Test.YthobgocbfoigfaaGreatW06
import Derived.Test.YthobgocbfoigfaaGreatProg
import Derived.KernelRfl
import Derived.Attr
section
namespace Go.VL
open Go Go.Proofs

abbrev ti2 : TI := ⟨false, 1, 8, .int .i64, .int .i64 0⟩
theorem info2 : (Tryz.prog.info? 2).map (fun i => (i.size, i.bytes, i.zero)) = some (1, 8, some (.int .i64 0)) := by kernel_rfl
theorem tok2 : TOk Tryz.prog 2 ti2 := .of_info info2 ⟨rfl, rfl, rfl⟩ rfl ⟨_, Tryz.underlying2, rfl⟩
abbrev ti3 : TI := ⟨false, 1, 8, .int .i64, .int .i64 0⟩
theorem info3 : (Tryz.prog.info? 3).map (fun i => (i.size, i.bytes, i.zero)) = some (1, 8, some (.int .i64 0)) := by kernel_rfl
theorem tok3 : TOk Tryz.prog 3 ti3 := .of_info info3 ⟨rfl, rfl, rfl⟩ rfl ⟨_, Tryz.underlying3, rfl⟩
abbrev ti4 : TI := ⟨false, 1, 1, .bool, .bool false⟩
theorem info4 : (Tryz.prog.info? 4).map (fun i => (i.size, i.bytes, i.zero)) = some (1, 1, some (.bool false)) := by kernel_rfl
theorem tok4 : TOk Tryz.prog 4 ti4 := .of_info info4 ⟨rfl, rfl, rfl⟩ rfl ⟨_, Tryz.underlying4, rfl⟩
abbrev ti5 : TI := ⟨false, 1, 1, .int .u8, .int .u8 0⟩
theorem info5 : (Tryz.prog.info? 5).map (fun i => (i.size, i.bytes, i.zero)) = some (1, 1, some (.int .u8 0)) := by kernel_rfl
theorem tok5 : TOk Tryz.prog 5 ti5 := .of_info info5 ⟨rfl, rfl, rfl⟩ rfl ⟨_, Tryz.underlying5, rfl⟩
abbrev ti9 : TI := ⟨false, 1, 16, .str, .str ⟨#[]⟩⟩
theorem info9 : (Tryz.prog.info? 9).map (fun i => (i.size, i.bytes, i.zero)) = some (1, 16, some (.string ⟨#[]⟩)) := by kernel_rfl
theorem tok9 : TOk Tryz.prog 9 ti9 := .of_info info9 ⟨rfl, rfl, rfl⟩ rfl ⟨_, Tryz.underlying9, rfl⟩
abbrev ti12 : TI := ⟨false, 1, 8, .int .u64, .int .u64 0⟩
theorem info12 : (Tryz.prog.info? 12).map (fun i => (i.size, i.bytes, i.zero)) = some (1, 8, some (.int .u64 0)) := by kernel_rfl
theorem tok12 : TOk Tryz.prog 12 ti12 := .of_info info12 ⟨rfl, rfl, rfl⟩ rfl ⟨_, Tryz.underlying12, rfl⟩
abbrev ti13 : TI := ⟨false, 2, 24, .struct [(0, 9), (1, 12)], .agg [.str ⟨#[]⟩, .int .u64 0]⟩
theorem info13 : (Tryz.prog.info? 13).map (fun i => (i.size, i.bytes, i.zero)) = some (2, 24, some (.agg #[.string ⟨#[]⟩, .int .u64 0])) := by kernel_rfl
theorem tok13 : TOk Tryz.prog 13 ti13 := .of_info info13 ⟨rfl, rfl, rfl⟩ rfl ⟨_, Tryz.underlying13, _, rfl, rfl⟩
abbrev ti19 : TI := ⟨false, 1, 8, .struct [(0, 17)], .agg [.nilp]⟩
theorem info19 : (Tryz.prog.info? 19).map (fun i => (i.size, i.bytes, i.zero)) = some (1, 8, some (.agg #[.pointer none])) := by kernel_rfl
theorem tok19 : TOk Tryz.prog 19 ti19 := .of_info info19 ⟨rfl, rfl, rfl⟩ rfl ⟨_, Tryz.underlying19, _, rfl, rfl⟩
abbrev ti21 : TI := ⟨false, 1, 4, .int .i32, .int .i32 0⟩
theorem info21 : (Tryz.prog.info? 21).map (fun i => (i.size, i.bytes, i.zero)) = some (1, 4, some (.int .i32 0)) := by kernel_rfl
theorem tok21 : TOk Tryz.prog 21 ti21 := .of_info info21 ⟨rfl, rfl, rfl⟩ rfl ⟨_, Tryz.underlying21, rfl⟩
abbrev ti22 : TI := ⟨false, 1, 24, .slice 27, .nils⟩
theorem info22 : (Tryz.prog.info? 22).map (fun i => (i.size, i.bytes, i.zero)) = some (1, 24, some (.slice none 0 0)) := by kernel_rfl
theorem tok22 : TOk Tryz.prog 22 ti22 := .of_info info22 ⟨rfl, rfl, rfl⟩ rfl ⟨_, Tryz.underlying22, rfl⟩
abbrev ti23 : TI := ⟨false, 1, 24, .slice 48, .nils⟩
theorem info23 : (Tryz.prog.info? 23).map (fun i => (i.size, i.bytes, i.zero)) = some (1, 24, some (.slice none 0 0)) := by kernel_rfl
theorem tok23 : TOk Tryz.prog 23 ti23 := .of_info info23 ⟨rfl, rfl, rfl⟩ rfl ⟨_, Tryz.underlying23, rfl⟩
abbrev ti25 : TI := ⟨false, 1, 8, .int .u64, .int .u64 0⟩
theorem info25 : (Tryz.prog.info? 25).map (fun i => (i.size, i.bytes, i.zero)) = some (1, 8, some (.int .u64 0)) := by kernel_rfl
theorem tok25 : TOk Tryz.prog 25 ti25 := .of_info info25 ⟨rfl, rfl, rfl⟩ rfl ⟨_, Tryz.underlying25, rfl⟩
abbrev ti26 : TI := ⟨false, 2, 16, .struct [(0, 25), (1, 25)], .agg [.int .u64 0, .int .u64 0]⟩
theorem info26 : (Tryz.prog.info? 26).map (fun i => (i.size, i.bytes, i.zero)) = some (2, 16, some (.agg #[.int .u64 0, .int .u64 0])) := by kernel_rfl
theorem tok26 : TOk Tryz.prog 26 ti26 := .of_info info26 ⟨rfl, rfl, rfl⟩ rfl ⟨_, Tryz.underlying26, _, rfl, rfl⟩
abbrev ti27 : TI := ⟨true, 2, 16, .struct [(0, 25), (1, 25)], .agg [.int .u64 0, .int .u64 0]⟩
theorem info27 : (Tryz.prog.info? 27).map (fun i => (i.size, i.bytes, i.zero)) = some (2, 16, some (.agg #[.int .u64 0, .int .u64 0])) := by kernel_rfl
theorem tok27 : TOk Tryz.prog 27 ti27 := .of_info info27 ⟨rfl, rfl, rfl⟩ rfl ⟨_, Tryz.underlying27, _, rfl, rfl⟩ fun _ => eqs_of (by kernel_rfl) (by kernel_rfl) (by kernel_rfl)
abbrev ti28 : TI := ⟨false, 1, 24, .slice 80, .nils⟩
theorem info28 : (Tryz.prog.info? 28).map (fun i => (i.size, i.bytes, i.zero)) = some (1, 24, some (.slice none 0 0)) := by kernel_rfl
theorem tok28 : TOk Tryz.prog 28 ti28 := .of_info info28 ⟨rfl, rfl, rfl⟩ rfl ⟨_, Tryz.underlying28, rfl⟩
abbrev ti29 : TI := ⟨false, 1, 24, .slice 63, .nils⟩
theorem info29 : (Tryz.prog.info? 29).map (fun i => (i.size, i.bytes, i.zero)) = some (1, 24, some (.slice none 0 0)) := by kernel_rfl
theorem tok29 : TOk Tryz.prog 29 ti29 := .of_info info29 ⟨rfl, rfl, rfl⟩ rfl ⟨_, Tryz.underlying29, rfl⟩
abbrev ti30 : TI := ⟨false, 1, 24, .slice 73, .nils⟩
theorem info30 : (Tryz.prog.info? 30).map (fun i => (i.size, i.bytes, i.zero)) = some (1, 24, some (.slice none 0 0)) := by kernel_rfl
theorem tok30 : TOk Tryz.prog 30 ti30 := .of_info info30 ⟨rfl, rfl, rfl⟩ rfl ⟨_, Tryz.underlying30, rfl⟩
abbrev ti31 : TI := ⟨false, 2, 32, .struct [(0, 3), (1, 30)], .agg [.int .i64 0, .nils]⟩
theorem info31 : (Tryz.prog.info? 31).map (fun i => (i.size, i.bytes, i.zero)) = some (2, 32, some (.agg #[.int .i64 0, .slice none 0 0])) := by kernel_rfl
theorem tok31 : TOk Tryz.prog 31 ti31 := .of_info info31 ⟨rfl, rfl, rfl⟩ rfl ⟨_, Tryz.underlying31, _, rfl, rfl⟩
abbrev ti32 : TI := ⟨false, 2, 32, .struct [(0, 3), (1, 30)], .agg [.int .i64 0, .nils]⟩
theorem info32 : (Tryz.prog.info? 32).map (fun i => (i.size, i.bytes, i.zero)) = some (2, 32, some (.agg #[.int .i64 0, .slice none 0 0])) := by kernel_rfl
theorem tok32 : TOk Tryz.prog 32 ti32 := .of_info info32 ⟨rfl, rfl, rfl⟩ rfl ⟨_, Tryz.underlying32, _, rfl, rfl⟩
abbrev ti33 : TI := ⟨false, 7, 120, .struct [(0, 3), (1, 28), (2, 29), (3, 3), (4, 32), (6, 23)], .agg [.int .i64 0, .nils, .nils, .int .i64 0, .int .i64 0, .nils, .nils]⟩
theorem info33 : (Tryz.prog.info? 33).map (fun i => (i.size, i.bytes, i.zero)) = some (7, 120, some (.agg #[.int .i64 0, .slice none 0 0, .slice none 0 0, .int .i64 0, .int .i64 0, .slice none 0 0, .slice none 0 0])) := by kernel_rfl
theorem tok33 : TOk Tryz.prog 33 ti33 := .of_info info33 ⟨rfl, rfl, rfl⟩ rfl ⟨_, Tryz.underlying33, _, rfl, rfl⟩
abbrev ti34 : TI := ⟨false, 7, 120, .struct [(0, 3), (1, 28), (2, 29), (3, 3), (4, 32), (6, 23)], .agg [.int .i64 0, .nils, .nils, .int .i64 0, .int .i64 0, .nils, .nils]⟩
theorem info34 : (Tryz.prog.info? 34).map (fun i => (i.size, i.bytes, i.zero)) = some (7, 120, some (.agg #[.int .i64 0, .slice none 0 0, .slice none 0 0, .int .i64 0, .int .i64 0, .slice none 0 0, .slice none 0 0])) := by kernel_rfl
theorem tok34 : TOk Tryz.prog 34 ti34 := .of_info info34 ⟨rfl, rfl, rfl⟩ rfl ⟨_, Tryz.underlying34, _, rfl, rfl⟩
abbrev ti35 : TI := ⟨false, 1, 8, .int .i64, .int .i64 0⟩
theorem info35 : (Tryz.prog.info? 35).map (fun i => (i.size, i.bytes, i.zero)) = some (1, 8, some (.int .i64 0)) := by kernel_rfl
theorem tok35 : TOk Tryz.prog 35 ti35 := .of_info info35 ⟨rfl, rfl, rfl⟩ rfl ⟨_, Tryz.underlying35, rfl⟩
abbrev ti48 : TI := ⟨false, 1, 24, .slice 5, .nils⟩
theorem info48 : (Tryz.prog.info? 48).map (fun i => (i.size, i.bytes, i.zero)) = some (1, 24, some (.slice none 0 0)) := by kernel_rfl
theorem tok48 : TOk Tryz.prog 48 ti48 := .of_info info48 ⟨rfl, rfl, rfl⟩ rfl ⟨_, Tryz.underlying48, rfl⟩
abbrev ti51 : TI := ⟨false, 1, 8, .pointer 34, .nilp⟩
theorem info51 : (Tryz.prog.info? 51).map (fun i => (i.size, i.bytes, i.zero)) = some (1, 8, some (.pointer none)) := by kernel_rfl
theorem tok51 : TOk Tryz.prog 51 ti51 := .of_info info51 ⟨rfl, rfl, rfl⟩ rfl ⟨_, Tryz.underlying51, rfl⟩
abbrev ti55 : TI := ⟨false, 1, 24, .slice 101, .nils⟩
theorem info55 : (Tryz.prog.info? 55).map (fun i => (i.size, i.bytes, i.zero)) = some (1, 24, some (.slice none 0 0)) := by kernel_rfl
theorem tok55 : TOk Tryz.prog 55 ti55 := .of_info info55 ⟨rfl, rfl, rfl⟩ rfl ⟨_, Tryz.underlying55, rfl⟩
abbrev ti58 : TI := ⟨false, 1, 24, .slice 87, .nils⟩
theorem info58 : (Tryz.prog.info? 58).map (fun i => (i.size, i.bytes, i.zero)) = some (1, 24, some (.slice none 0 0)) := by kernel_rfl
theorem tok58 : TOk Tryz.prog 58 ti58 := .of_info info58 ⟨rfl, rfl, rfl⟩ rfl ⟨_, Tryz.underlying58, rfl⟩
abbrev ti62 : TI := ⟨false, 4, 56, .struct [(0, 3), (1, 9), (2, 3), (3, 28)], .agg [.int .i64 0, .str ⟨#[]⟩, .int .i64 0, .nils]⟩
theorem info62 : (Tryz.prog.info? 62).map (fun i => (i.size, i.bytes, i.zero)) = some (4, 56, some (.agg #[.int .i64 0, .string ⟨#[]⟩, .int .i64 0, .slice none 0 0])) := by kernel_rfl
theorem tok62 : TOk Tryz.prog 62 ti62 := .of_info info62 ⟨rfl, rfl, rfl⟩ rfl ⟨_, Tryz.underlying62, _, rfl, rfl⟩
abbrev ti63 : TI := ⟨false, 4, 56, .struct [(0, 3), (1, 9), (2, 3), (3, 28)], .agg [.int .i64 0, .str ⟨#[]⟩, .int .i64 0, .nils]⟩
theorem info63 : (Tryz.prog.info? 63).map (fun i => (i.size, i.bytes, i.zero)) = some (4, 56, some (.agg #[.int .i64 0, .string ⟨#[]⟩, .int .i64 0, .slice none 0 0])) := by kernel_rfl
theorem tok63 : TOk Tryz.prog 63 ti63 := .of_info info63 ⟨rfl, rfl, rfl⟩ rfl ⟨_, Tryz.underlying63, _, rfl, rfl⟩
abbrev ti72 : TI := ⟨false, 2, 16, .struct [(0, 3), (1, 3)], .agg [.int .i64 0, .int .i64 0]⟩
theorem info72 : (Tryz.prog.info? 72).map (fun i => (i.size, i.bytes, i.zero)) = some (2, 16, some (.agg #[.int .i64 0, .int .i64 0])) := by kernel_rfl
theorem tok72 : TOk Tryz.prog 72 ti72 := .of_info info72 ⟨rfl, rfl, rfl⟩ rfl ⟨_, Tryz.underlying72, _, rfl, rfl⟩
abbrev ti73 : TI := ⟨true, 2, 16, .struct [(0, 3), (1, 3)], .agg [.int .i64 0, .int .i64 0]⟩
theorem info73 : (Tryz.prog.info? 73).map (fun i => (i.size, i.bytes, i.zero)) = some (2, 16, some (.agg #[.int .i64 0, .int .i64 0])) := by kernel_rfl
theorem tok73 : TOk Tryz.prog 73 ti73 := .of_info info73 ⟨rfl, rfl, rfl⟩ rfl ⟨_, Tryz.underlying73, _, rfl, rfl⟩ fun _ => eqs_of (by kernel_rfl) (by kernel_rfl) (by kernel_rfl)
abbrev ti75 : TI := ⟨false, 1, 8, .map 3 28, .undef⟩
theorem info75 : (Tryz.prog.info? 75).map (fun i => (i.size, i.bytes, i.zero)) = some (1, 8, some (.map none)) := by kernel_rfl
theorem tok75 : TOk Tryz.prog 75 ti75 := .of_info info75 ⟨rfl, rfl, rfl⟩ rfl ⟨_, Tryz.underlying75, rfl⟩
abbrev ti76 : TI := ⟨false, 1, 8, .map 3 81, .undef⟩
theorem info76 : (Tryz.prog.info? 76).map (fun i => (i.size, i.bytes, i.zero)) = some (1, 8, some (.map none)) := by kernel_rfl
theorem tok76 : TOk Tryz.prog 76 ti76 := .of_info info76 ⟨rfl, rfl, rfl⟩ rfl ⟨_, Tryz.underlying76, rfl⟩
abbrev ti77 : TI := ⟨false, 1, 8, .int .u64, .int .u64 0⟩
theorem info77 : (Tryz.prog.info? 77).map (fun i => (i.size, i.bytes, i.zero)) = some (1, 8, some (.int .u64 0)) := by kernel_rfl
theorem tok77 : TOk Tryz.prog 77 ti77 := .of_info info77 ⟨rfl, rfl, rfl⟩ rfl ⟨_, Tryz.underlying77, rfl⟩
abbrev ti79 : TI := ⟨false, 3, 24, .struct [(0, 3), (1, 3), (2, 3)], .agg [.int .i64 0, .int .i64 0, .int .i64 0]⟩
theorem info79 : (Tryz.prog.info? 79).map (fun i => (i.size, i.bytes, i.zero)) = some (3, 24, some (.agg #[.int .i64 0, .int .i64 0, .int .i64 0])) := by kernel_rfl
theorem tok79 : TOk Tryz.prog 79 ti79 := .of_info info79 ⟨rfl, rfl, rfl⟩ rfl ⟨_, Tryz.underlying79, _, rfl, rfl⟩
abbrev ti80 : TI := ⟨true, 3, 24, .struct [(0, 3), (1, 3), (2, 3)], .agg [.int .i64 0, .int .i64 0, .int .i64 0]⟩
theorem info80 : (Tryz.prog.info? 80).map (fun i => (i.size, i.bytes, i.zero)) = some (3, 24, some (.agg #[.int .i64 0, .int .i64 0, .int .i64 0])) := by kernel_rfl
theorem tok80 : TOk Tryz.prog 80 ti80 := .of_info info80 ⟨rfl, rfl, rfl⟩ rfl ⟨_, Tryz.underlying80, _, rfl, rfl⟩ fun _ => eqs_of (by kernel_rfl) (by kernel_rfl) (by kernel_rfl)
abbrev ti81 : TI := ⟨false, 3, 24, .array 3 25, .agg [.int .u64 0, .int .u64 0, .int .u64 0]⟩
theorem info81 : (Tryz.prog.info? 81).map (fun i => (i.size, i.bytes, i.zero)) = some (3, 24, some (.agg #[.int .u64 0, .int .u64 0, .int .u64 0])) := by kernel_rfl
theorem tok81 : TOk Tryz.prog 81 ti81 := .of_info info81 ⟨rfl, rfl, rfl⟩ rfl ⟨_, Tryz.underlying81, rfl⟩
abbrev ti86 : TI := ⟨false, 2, 32, .struct [(0, 3), (1, 28)], .agg [.int .i64 0, .nils]⟩
theorem info86 : (Tryz.prog.info? 86).map (fun i => (i.size, i.bytes, i.zero)) = some (2, 32, some (.agg #[.int .i64 0, .slice none 0 0])) := by kernel_rfl
theorem tok86 : TOk Tryz.prog 86 ti86 := .of_info info86 ⟨rfl, rfl, rfl⟩ rfl ⟨_, Tryz.underlying86, _, rfl, rfl⟩
abbrev ti87 : TI := ⟨false, 2, 32, .struct [(0, 3), (1, 28)], .agg [.int .i64 0, .nils]⟩
theorem info87 : (Tryz.prog.info? 87).map (fun i => (i.size, i.bytes, i.zero)) = some (2, 32, some (.agg #[.int .i64 0, .slice none 0 0])) := by kernel_rfl
theorem tok87 : TOk Tryz.prog 87 ti87 := .of_info info87 ⟨rfl, rfl, rfl⟩ rfl ⟨_, Tryz.underlying87, _, rfl, rfl⟩
abbrev ti90 : TI := ⟨false, 1, 24, .slice 94, .nils⟩
theorem info90 : (Tryz.prog.info? 90).map (fun i => (i.size, i.bytes, i.zero)) = some (1, 24, some (.slice none 0 0)) := by kernel_rfl
theorem tok90 : TOk Tryz.prog 90 ti90 := .of_info info90 ⟨rfl, rfl, rfl⟩ rfl ⟨_, Tryz.underlying90, rfl⟩
abbrev ti93 : TI := ⟨false, 4, 32, .struct [(0, 3), (1, 3), (2, 3), (3, 3)], .agg [.int .i64 0, .int .i64 0, .int .i64 0, .int .i64 0]⟩
theorem info93 : (Tryz.prog.info? 93).map (fun i => (i.size, i.bytes, i.zero)) = some (4, 32, some (.agg #[.int .i64 0, .int .i64 0, .int .i64 0, .int .i64 0])) := by kernel_rfl
theorem tok93 : TOk Tryz.prog 93 ti93 := .of_info info93 ⟨rfl, rfl, rfl⟩ rfl ⟨_, Tryz.underlying93, _, rfl, rfl⟩
abbrev ti94 : TI := ⟨true, 4, 32, .struct [(0, 3), (1, 3), (2, 3), (3, 3)], .agg [.int .i64 0, .int .i64 0, .int .i64 0, .int .i64 0]⟩
theorem info94 : (Tryz.prog.info? 94).map (fun i => (i.size, i.bytes, i.zero)) = some (4, 32, some (.agg #[.int .i64 0, .int .i64 0, .int .i64 0, .int .i64 0])) := by kernel_rfl
theorem tok94 : TOk Tryz.prog 94 ti94 := .of_info info94 ⟨rfl, rfl, rfl⟩ rfl ⟨_, Tryz.underlying94, _, rfl, rfl⟩ fun _ => eqs_of (by kernel_rfl) (by kernel_rfl) (by kernel_rfl)
abbrev ti99 : TI := ⟨false, 1, 8, .map 9 4, .undef⟩
theorem info99 : (Tryz.prog.info? 99).map (fun i => (i.size, i.bytes, i.zero)) = some (1, 8, some (.map none)) := by kernel_rfl
theorem tok99 : TOk Tryz.prog 99 ti99 := .of_info info99 ⟨rfl, rfl, rfl⟩ rfl ⟨_, Tryz.underlying99, rfl⟩
abbrev ti100 : TI := ⟨false, 2, 24, .struct [(0, 3), (1, 9)], .agg [.int .i64 0, .str ⟨#[]⟩]⟩
theorem info100 : (Tryz.prog.info? 100).map (fun i => (i.size, i.bytes, i.zero)) = some (2, 24, some (.agg #[.int .i64 0, .string ⟨#[]⟩])) := by kernel_rfl
theorem tok100 : TOk Tryz.prog 100 ti100 := .of_info info100 ⟨rfl, rfl, rfl⟩ rfl ⟨_, Tryz.underlying100, _, rfl, rfl⟩
abbrev ti101 : TI := ⟨true, 2, 24, .struct [(0, 3), (1, 9)], .agg [.int .i64 0, .str ⟨#[]⟩]⟩
theorem info101 : (Tryz.prog.info? 101).map (fun i => (i.size, i.bytes, i.zero)) = some (2, 24, some (.agg #[.int .i64 0, .string ⟨#[]⟩])) := by kernel_rfl
theorem tok101 : TOk Tryz.prog 101 ti101 := .of_info info101 ⟨rfl, rfl, rfl⟩ rfl ⟨_, Tryz.underlying101, _, rfl, rfl⟩ fun _ => eqs_of (by kernel_rfl) (by kernel_rfl) (by kernel_rfl)
abbrev ti122 : TI := ⟨false, 1, 8, .int .i64, .int .i64 0⟩
theorem info122 : (Tryz.prog.info? 122).map (fun i => (i.size, i.bytes, i.zero)) = some (1, 8, some (.int .i64 0)) := by kernel_rfl
theorem tok122 : TOk Tryz.prog 122 ti122 := .of_info info122 ⟨rfl, rfl, rfl⟩ rfl ⟨_, Tryz.underlying122, rfl⟩
abbrev ti130 : TI := ⟨false, 1, 4, .int .u32, .int .u32 0⟩
theorem info130 : (Tryz.prog.info? 130).map (fun i => (i.size, i.bytes, i.zero)) = some (1, 4, some (.int .u32 0)) := by kernel_rfl
theorem tok130 : TOk Tryz.prog 130 ti130 := .of_info info130 ⟨rfl, rfl, rfl⟩ rfl ⟨_, Tryz.underlying130, rfl⟩
abbrev ti144 : TI := ⟨false, 1, 8, .int .u64, .int .u64 0⟩
theorem info144 : (Tryz.prog.info? 144).map (fun i => (i.size, i.bytes, i.zero)) = some (1, 8, some (.int .u64 0)) := by kernel_rfl
theorem tok144 : TOk Tryz.prog 144 ti144 := .of_info info144 ⟨rfl, rfl, rfl⟩ rfl ⟨_, Tryz.underlying144, rfl⟩
abbrev ti148 : TI := ⟨false, 1, 8, .pointer 3, .nilp⟩
theorem info148 : (Tryz.prog.info? 148).map (fun i => (i.size, i.bytes, i.zero)) = some (1, 8, some (.pointer none)) := by kernel_rfl
theorem tok148 : TOk Tryz.prog 148 ti148 := .of_info info148 ⟨rfl, rfl, rfl⟩ rfl ⟨_, Tryz.underlying148, rfl⟩
abbrev ti155 : TI := ⟨false, 1, 24, .slice 3, .nils⟩
theorem info155 : (Tryz.prog.info? 155).map (fun i => (i.size, i.bytes, i.zero)) = some (1, 24, some (.slice none 0 0)) := by kernel_rfl
theorem tok155 : TOk Tryz.prog 155 ti155 := .of_info info155 ⟨rfl, rfl, rfl⟩ rfl ⟨_, Tryz.underlying155, rfl⟩
abbrev ti160 : TI := ⟨false, 1, 8, .pointer 144, .nilp⟩
theorem info160 : (Tryz.prog.info? 160).map (fun i => (i.size, i.bytes, i.zero)) = some (1, 8, some (.pointer none)) := by kernel_rfl
theorem tok160 : TOk Tryz.prog 160 ti160 := .of_info info160 ⟨rfl, rfl, rfl⟩ rfl ⟨_, Tryz.underlying160, rfl⟩
abbrev ti178 : TI := ⟨false, 1, 8, .pointer 5, .nilp⟩
theorem info178 : (Tryz.prog.info? 178).map (fun i => (i.size, i.bytes, i.zero)) = some (1, 8, some (.pointer none)) := by kernel_rfl
theorem tok178 : TOk Tryz.prog 178 ti178 := .of_info info178 ⟨rfl, rfl, rfl⟩ rfl ⟨_, Tryz.underlying178, rfl⟩
def L : Lay := fun t => match t with
  | 2 => some ti2
  | 3 => some ti3
  | 4 => some ti4
  | 5 => some ti5
  | 9 => some ti9
  | 12 => some ti12
  | 13 => some ti13
  | 19 => some ti19
  | 21 => some ti21
  | 22 => some ti22
  | 23 => some ti23
  | 25 => some ti25
  | 26 => some ti26
  | 27 => some ti27
  | 28 => some ti28
  | 29 => some ti29
  | 30 => some ti30
  | 31 => some ti31
  | 32 => some ti32
  | 33 => some ti33
  | 34 => some ti34
  | 35 => some ti35
  | 48 => some ti48
  | 51 => some ti51
  | 55 => some ti55
  | 58 => some ti58
  | 62 => some ti62
  | 63 => some ti63
  | 72 => some ti72
  | 73 => some ti73
  | 75 => some ti75
  | 76 => some ti76
  | 77 => some ti77
  | 79 => some ti79
  | 80 => some ti80
  | 81 => some ti81
  | 86 => some ti86
  | 87 => some ti87
  | 90 => some ti90
  | 93 => some ti93
  | 94 => some ti94
  | 99 => some ti99
  | 100 => some ti100
  | 101 => some ti101
  | 122 => some ti122
  | 130 => some ti130
  | 144 => some ti144
  | 148 => some ti148
  | 155 => some ti155
  | 160 => some ti160
  | 178 => some ti178
  | _ => none
theorem L2 : L 2 = some ⟨false, 1, 8, .int .i64, .int .i64 0⟩ := rfl
theorem L3 : L 3 = some ⟨false, 1, 8, .int .i64, .int .i64 0⟩ := rfl
theorem L4 : L 4 = some ⟨false, 1, 1, .bool, .bool false⟩ := rfl
theorem L5 : L 5 = some ⟨false, 1, 1, .int .u8, .int .u8 0⟩ := rfl
theorem L9 : L 9 = some ⟨false, 1, 16, .str, .str ⟨#[]⟩⟩ := rfl
theorem L12 : L 12 = some ⟨false, 1, 8, .int .u64, .int .u64 0⟩ := rfl
theorem L13 : L 13 = some ⟨false, 2, 24, .struct [(0, 9), (1, 12)], .agg [.str ⟨#[]⟩, .int .u64 0]⟩ := rfl
theorem L19 : L 19 = some ⟨false, 1, 8, .struct [(0, 17)], .agg [.nilp]⟩ := rfl
theorem L21 : L 21 = some ⟨false, 1, 4, .int .i32, .int .i32 0⟩ := rfl
theorem L22 : L 22 = some ⟨false, 1, 24, .slice 27, .nils⟩ := rfl
theorem L23 : L 23 = some ⟨false, 1, 24, .slice 48, .nils⟩ := rfl
theorem L25 : L 25 = some ⟨false, 1, 8, .int .u64, .int .u64 0⟩ := rfl
theorem L26 : L 26 = some ⟨false, 2, 16, .struct [(0, 25), (1, 25)], .agg [.int .u64 0, .int .u64 0]⟩ := rfl
theorem L27 : L 27 = some ⟨true, 2, 16, .struct [(0, 25), (1, 25)], .agg [.int .u64 0, .int .u64 0]⟩ := rfl
theorem L28 : L 28 = some ⟨false, 1, 24, .slice 80, .nils⟩ := rfl
theorem L29 : L 29 = some ⟨false, 1, 24, .slice 63, .nils⟩ := rfl
theorem L30 : L 30 = some ⟨false, 1, 24, .slice 73, .nils⟩ := rfl
theorem L31 : L 31 = some ⟨false, 2, 32, .struct [(0, 3), (1, 30)], .agg [.int .i64 0, .nils]⟩ := rfl
theorem L32 : L 32 = some ⟨false, 2, 32, .struct [(0, 3), (1, 30)], .agg [.int .i64 0, .nils]⟩ := rfl
theorem L33 : L 33 = some ⟨false, 7, 120, .struct [(0, 3), (1, 28), (2, 29), (3, 3), (4, 32), (6, 23)], .agg [.int .i64 0, .nils, .nils, .int .i64 0, .int .i64 0, .nils, .nils]⟩ := rfl
theorem L34 : L 34 = some ⟨false, 7, 120, .struct [(0, 3), (1, 28), (2, 29), (3, 3), (4, 32), (6, 23)], .agg [.int .i64 0, .nils, .nils, .int .i64 0, .int .i64 0, .nils, .nils]⟩ := rfl
theorem L35 : L 35 = some ⟨false, 1, 8, .int .i64, .int .i64 0⟩ := rfl
theorem L48 : L 48 = some ⟨false, 1, 24, .slice 5, .nils⟩ := rfl
theorem L51 : L 51 = some ⟨false, 1, 8, .pointer 34, .nilp⟩ := rfl
theorem L55 : L 55 = some ⟨false, 1, 24, .slice 101, .nils⟩ := rfl
theorem L58 : L 58 = some ⟨false, 1, 24, .slice 87, .nils⟩ := rfl
theorem L62 : L 62 = some ⟨false, 4, 56, .struct [(0, 3), (1, 9), (2, 3), (3, 28)], .agg [.int .i64 0, .str ⟨#[]⟩, .int .i64 0, .nils]⟩ := rfl
theorem L63 : L 63 = some ⟨false, 4, 56, .struct [(0, 3), (1, 9), (2, 3), (3, 28)], .agg [.int .i64 0, .str ⟨#[]⟩, .int .i64 0, .nils]⟩ := rfl
theorem L72 : L 72 = some ⟨false, 2, 16, .struct [(0, 3), (1, 3)], .agg [.int .i64 0, .int .i64 0]⟩ := rfl
theorem L73 : L 73 = some ⟨true, 2, 16, .struct [(0, 3), (1, 3)], .agg [.int .i64 0, .int .i64 0]⟩ := rfl
theorem L75 : L 75 = some ⟨false, 1, 8, .map 3 28, .undef⟩ := rfl
theorem L76 : L 76 = some ⟨false, 1, 8, .map 3 81, .undef⟩ := rfl
theorem L77 : L 77 = some ⟨false, 1, 8, .int .u64, .int .u64 0⟩ := rfl
theorem L79 : L 79 = some ⟨false, 3, 24, .struct [(0, 3), (1, 3), (2, 3)], .agg [.int .i64 0, .int .i64 0, .int .i64 0]⟩ := rfl
theorem L80 : L 80 = some ⟨true, 3, 24, .struct [(0, 3), (1, 3), (2, 3)], .agg [.int .i64 0, .int .i64 0, .int .i64 0]⟩ := rfl
theorem L81 : L 81 = some ⟨false, 3, 24, .array 3 25, .agg [.int .u64 0, .int .u64 0, .int .u64 0]⟩ := rfl
theorem L86 : L 86 = some ⟨false, 2, 32, .struct [(0, 3), (1, 28)], .agg [.int .i64 0, .nils]⟩ := rfl
theorem L87 : L 87 = some ⟨false, 2, 32, .struct [(0, 3), (1, 28)], .agg [.int .i64 0, .nils]⟩ := rfl
theorem L90 : L 90 = some ⟨false, 1, 24, .slice 94, .nils⟩ := rfl
theorem L93 : L 93 = some ⟨false, 4, 32, .struct [(0, 3), (1, 3), (2, 3), (3, 3)], .agg [.int .i64 0, .int .i64 0, .int .i64 0, .int .i64 0]⟩ := rfl
theorem L94 : L 94 = some ⟨true, 4, 32, .struct [(0, 3), (1, 3), (2, 3), (3, 3)], .agg [.int .i64 0, .int .i64 0, .int .i64 0, .int .i64 0]⟩ := rfl
theorem L99 : L 99 = some ⟨false, 1, 8, .map 9 4, .undef⟩ := rfl
theorem L100 : L 100 = some ⟨false, 2, 24, .struct [(0, 3), (1, 9)], .agg [.int .i64 0, .str ⟨#[]⟩]⟩ := rfl
theorem L101 : L 101 = some ⟨true, 2, 24, .struct [(0, 3), (1, 9)], .agg [.int .i64 0, .str ⟨#[]⟩]⟩ := rfl
theorem L122 : L 122 = some ⟨false, 1, 8, .int .i64, .int .i64 0⟩ := rfl
theorem L130 : L 130 = some ⟨false, 1, 4, .int .u32, .int .u32 0⟩ := rfl
theorem L144 : L 144 = some ⟨false, 1, 8, .int .u64, .int .u64 0⟩ := rfl
theorem L148 : L 148 = some ⟨false, 1, 8, .pointer 3, .nilp⟩ := rfl
theorem L155 : L 155 = some ⟨false, 1, 24, .slice 3, .nils⟩ := rfl
theorem L160 : L 160 = some ⟨false, 1, 8, .pointer 144, .nilp⟩ := rfl
theorem L178 : L 178 = some ⟨false, 1, 8, .pointer 5, .nilp⟩ := rfl
theorem layOk : LayOk Tryz.prog L := by
  intro t i h
  unfold L at h
  split at h <;> first
    | (cases h; done)
    | (cases h; exact tok2)
    | (cases h; exact tok3)
    | (cases h; exact tok4)
    | (cases h; exact tok5)
    | (cases h; exact tok9)
    | (cases h; exact tok12)
    | (cases h; exact tok13)
    | (cases h; exact tok19)
    | (cases h; exact tok21)
    | (cases h; exact tok22)
    | (cases h; exact tok23)
    | (cases h; exact tok25)
    | (cases h; exact tok26)
    | (cases h; exact tok27)
    | (cases h; exact tok28)
    | (cases h; exact tok29)
    | (cases h; exact tok30)
    | (cases h; exact tok31)
    | (cases h; exact tok32)
    | (cases h; exact tok33)
    | (cases h; exact tok34)
    | (cases h; exact tok35)
    | (cases h; exact tok48)
    | (cases h; exact tok51)
    | (cases h; exact tok55)
    | (cases h; exact tok58)
    | (cases h; exact tok62)
    | (cases h; exact tok63)
    | (cases h; exact tok72)
    | (cases h; exact tok73)
    | (cases h; exact tok75)
    | (cases h; exact tok76)
    | (cases h; exact tok77)
    | (cases h; exact tok79)
    | (cases h; exact tok80)
    | (cases h; exact tok81)
    | (cases h; exact tok86)
    | (cases h; exact tok87)
    | (cases h; exact tok90)
    | (cases h; exact tok93)
    | (cases h; exact tok94)
    | (cases h; exact tok99)
    | (cases h; exact tok100)
    | (cases h; exact tok101)
    | (cases h; exact tok122)
    | (cases h; exact tok130)
    | (cases h; exact tok144)
    | (cases h; exact tok148)
    | (cases h; exact tok155)
    | (cases h; exact tok160)
    | (cases h; exact tok178)
theorem mixed : Tryz.prog.follows .mixedOrders = true := by kernel_rfl
end Go.VL
end
section
namespace Go.VL
open Go
attribute [go_sem] minDV maxDV bsDV List.range_zero rng1 rng2 rng3 rng4 beq_self_eq_true Bool.and_true Bool.true_and runTo gd Op.plain sop sop0 mop eqM eqCells eqCell indexDV convM bstrDV taM lookupM appM copyM clearM lenD srcM srcDV ev ofVal ofVal1 lk up upo binDV binInt un Option.map_some Option.map_none Option.bind_some if_true if_false List.getElem?_toArray List.getElem?_cons_zero List.getElem?_cons_succ Bool.true_beq Bool.false_beq Bool.not_true Bool.not_false Bool.false_eq_true thenK blockK loopK loopG slots decide_true decide_false List.map_cons List.map_nil and_self and_true true_and Bool.and_self Nat.zero_add Nat.add_zero Nat.mul_one List.drop_zero List.take_zero TD.isAgg indexAddrDV fieldAddrDV loadDV cellsAt storeDV setCells bi lenDV convDV shiftInt List.all_cons List.all_nil own_get own_get0 own_set own_set0 List.append_assoc List.length_append Nat.add_assoc List.set_cons_succ List.set_cons_zero List.append_nil List.drop_succ_cons List.drop_nil List.take_succ_cons List.take_nil Int.toNat_natCast DV.cells DV.full DV.one List.length_cons List.length_nil List.nil_append List.cons_append DX_eq pureDo_cons rst List.getD_cons_zero List.getD_cons_succ List.mem_cons List.not_mem_nil or_false false_or forall_eq forall_eq_or_imp List.isEmpty_cons List.isEmpty_nil false_imp_iff imp_self implies_true
abbrev rg := List.range'
theorem sA {C : Ctx} {L : Lay} {N : Nat} {st : St} {K : XE → St → Prop} (hL : LayOk C.P L) (hn : C.n = N) {id : Nat} {ops : Array Oper} {y : Code} (hd : dstOk N ops.toList = true)
    (h : match runTo L ops ops.toList st with | some ([], st') => SW C y st' K | some (o :: r, st') => SWops C ops (o :: r) st' (thenK C y K) | none => False) : SW C (.seq (.region id ops false) y) st K := SW.rs hL (by rw [hn]; exact hd) h
theorem sB {C : Ctx} {L : Lay} {N : Nat} {st : St} {K : XE → St → Prop} (hL : LayOk C.P L) (hn : C.n = N) {id : Nat} {ops : Array Oper} (hd : dstOk N ops.toList = true)
    (h : match runTo L ops ops.toList st with | some ([], st') => K .normal st' | some (o :: r, st') => SWops C ops (o :: r) st' K | none => False) : SW C (.region id ops false) st K := SW.re hL (by rw [hn]; exact hd) h
theorem sC {C : Ctx} {ops : Array Oper} {st : St} {K : XE → St → Prop} (h : K .normal st) : SWops C ops [] st K := SWops.nil h
theorem sD {C : Ctx} {x y : Code} {st : St} {K : XE → St → Prop} (h : SW C x st (thenK C y K)) : SW C (.seq x y) st K := SW.seq h
theorem sE {C : Ctx} {id : Nat} {c : Code} {st : St} {K : XE → St → Prop} (h : SW C c st (blockK id K)) : SW C (.block id c) st K := SW.block h
theorem sF {C : Ctx} {st : St} {K : XE → St → Prop} {c : Operand} {x y : Code} (hc : ev st.env c = .bool true) (h : SW C x st K) : SW C (.cond c x y) st K := SW.ct hc h
theorem sG {C : Ctx} {st : St} {K : XE → St → Prop} {c : Operand} {x y : Code} (hc : ev st.env c = .bool false) (h : SW C y st K) : SW C (.cond c x y) st K := SW.cf hc h
theorem sH {C : Ctx} {st : St} {K : XE → St → Prop} (h : K .normal st) : SW C .skip st K := SW.skip h
theorem sI {C : Ctx} {id : Nat} {st : St} {K : XE → St → Prop} (h : K (.exit id) st) : SW C (.exit id) st K := SW.exit h
theorem sJ {C : Ctx} {st : St} {K : XE → St → Prop} (h : K .ret st) : SW C .ret st K := SW.ret h
theorem sK {C : Ctx} {P : Program} {L : Lay} {N : Nat} {ops : Array Oper} {rest : List Oper} {o : Oper} {st : St} {K : XE → St → Prop} {g : Operand} {xs : Array Operand} {ts : Array TypeId} {f : FuncId} {args caps : List DV} {d : DV} {σ' : List Ob}
    (hP : C.P = P) (hL : LayOk C.P L) (hn : C.n = N) (h1 : dstOk N [o] = true) (h2 : dstOk N rest = true) (hok : Ok P f args st.ob (.ret d) σ') (hg : gd ops st.env o = some true) (ho : o.op = .call { callee := .value g, args := xs, argTypes := ts }) (hf : ev st.env g = .fn f caps)
    (ha : xs.toList.map (ev st.env) ++ caps = args) (h : match runTo L ops rest ⟨upo st.env o.dst d, σ'⟩ with | some (r, st') => SWops C ops r st' K | none => False) : SWops C ops (o :: rest) st K :=
  SWops.callx hP (by rw [hn]; exact h1) hok hg ho hf ha (SWops.go hL (by rw [hn]; exact h2) h)
theorem sM {C : Ctx} {L : Lay} {N : Nat} (hL : LayOk C.P L) (hm : C.P.follows .mixedOrders = true) (hn : C.n = N) {id : Nat} {l : List Oper} {st : St} {K : XE → St → Prop} (I : List DI) (φ : List (List Ob)) (hφ : φ.getD 0 [] = st.ob)
    (hA : l.map (fun o => (o.dst, dirsO o)) = I.map fun D : DI => (D.dst, D.dir)) (hF : drawF I N = true) (h : dgo C L l.toArray φ K I 0 l st.env) : SW C (.region id l.toArray true) st K := SW.draw hL hm I φ hφ hA (by rw [hn]; exact hF) h
theorem sL {C : Ctx} {L : Lay} {N : Nat} (hL : LayOk C.P L) (hm : C.P.follows .mixedOrders = true) (hn : C.n = N) {id : Nat} {l : List Oper} {st : St} {K : XE → St → Prop} {y : Code} (I : List DI) (φ : List (List Ob)) (hφ : φ.getD 0 [] = st.ob)
    (hA : l.map (fun o => (o.dst, dirsO o)) = I.map fun D : DI => (D.dst, D.dir)) (hF : drawF I N = true) (h : dgo C L l.toArray φ (thenK C y K) I 0 l st.env) : SW C (.seq (.region id l.toArray true) y) st K := SW.dr hL hm I φ hφ hA (by rw [hn]; exact hF) h
end Go.VL
end
section
namespace Go.VL
attribute [go_sem] L2 L3 L4 L5 L9 L12 L13 L19 L21 L22 L23 L25 L26 L27 L28 L29 L30 L31 L32 L33 L34 L35 L48 L51 L55 L58 L62 L63 L72 L73 L75 L76 L77 L79 L80 L81 L86 L87 L90 L93 L94 L99 L100 L101 L122 L130 L144 L148 L155 L160 L178
end Go.VL
end
section
namespace Go.VL
open Go Go.Proofs

def TTab : Tr (Option TI) := (.n none (.n none (.n (some ti3) (.n none (.n none (.n (some ti31) (.n (some ti63) .e .e) .e) (.n none (.n (some ti79) .e .e) .e)) (.n (some ti23) .e (.n (some ti55) (.n (some ti87) .e .e) .e))) (.n none (.n (some ti19) (.n (some ti35) .e (.n (some ti99) .e .e)) (.n (some ti51) .e .e)) (.n (some ti27) (.n none (.n (some ti75) .e .e) .e) (.n none (.n none (.n (some ti155) .e .e) .e) .e)))) (.n (some ti5) (.n (some ti9) (.n none (.n (some ti33) .e .e) (.n none (.n (some ti81) .e .e) .e)) (.n (some ti25) (.n none (.n (some ti73) .e .e) .e) .e)) (.n (some ti13) (.n (some ti21) (.n none .e (.n (some ti101) .e .e)) .e) (.n (some ti29) (.n none (.n (some ti77) .e .e) .e) (.n none (.n (some ti93) .e .e) .e))))) (.n (some ti2) (.n (some ti4) (.n none (.n none (.n (some ti32) .e (.n none (.n (some ti160) .e .e) .e)) (.n (some ti48) (.n (some ti80) (.n (some ti144) .e .e) .e) .e)) (.n none (.n none (.n (some ti72) .e .e) .e) .e)) (.n (some ti12) (.n none (.n none .e (.n (some ti100) .e .e)) (.n none (.n none (.n (some ti148) .e .e) .e) .e)) (.n (some ti28) (.n none (.n (some ti76) .e .e) .e) .e))) (.n none (.n none (.n none (.n (some ti34) (.n none (.n (some ti130) .e .e) .e) .e) (.n none .e (.n none (.n (some ti178) .e .e) .e))) (.n (some ti26) .e (.n (some ti58) (.n (some ti90) .e .e) (.n (some ti122) .e .e)))) (.n none (.n (some ti22) .e (.n none (.n (some ti86) .e .e) .e)) (.n (some ti30) .e (.n (some ti62) (.n (some ti94) .e .e) .e))))))
noncomputable def LX : Lay := layOf TTab
noncomputable def fx4 : FX := ⟨127,48,Tryz.f4.body.getD .skip,Tryz.f4.results.toList,[],false,4⟩
noncomputable def fx5 : FX := ⟨70368744671603,49,Tryz.f5.body.getD .skip,Tryz.f5.results.toList,[(7,[⟨[6],[],false,[0,1,2],some 21,[]⟩,⟨[21],[0],false,[0,1,2],some 22,[0]⟩,⟨[8],[],false,[0],some 23,[]⟩,⟨[23],[2],true,[],some 24,[2]⟩,⟨[24],[2,3],true,[],some 25,[3]⟩,⟨[22,25],[0,1,2,3,4],true,[],some 26,[1,4,3]⟩,⟨[6],[0,1,2,3,4,5],false,[3],some 27,[0,1,2,3,4,5]⟩,⟨[26,27],[0,1,2,3,4,5,6],true,[],none,[6,5,5,0,1,2,3,4,5]⟩])],false,5⟩
noncomputable def fx7 : FX := ⟨287,12,Tryz.f7.body.getD .skip,Tryz.f7.results.toList,[],false,7⟩
noncomputable def fx10 : FX := ⟨75557865978263892918495,77,Tryz.f10.body.getD .skip,Tryz.f10.results.toList,[(1,[⟨[1],[],false,[0],some 8,[]⟩,⟨[8],[0],false,[0],some 9,[0]⟩,⟨[9],[0,1],true,[],some 10,[1]⟩,⟨[10],[0,1,2],false,[1],some 11,[2]⟩,⟨[11],[0,1,2,3],false,[1],some 12,[3,2]⟩,⟨[1,12],[0,1,2,3,4],false,[1],some 13,[4]⟩,⟨[12,13],[0,1,2,3,4,5],true,[],some 14,[5,4,4]⟩,⟨[1,12],[0,1,2,3,4],false,[1,2],some 15,[4]⟩,⟨[12,15],[0,1,2,3,4,7],false,[1,2],some 16,[7,4]⟩,⟨[12,14,16],[0,1,2,3,4,5,6,7,8],true,[],some 17,[6,8,6,4]⟩,⟨[12,17],[0,1,2,3,4,5,6,7,8,9],false,[3],some 18,[9,4]⟩,⟨[12,18],[0,1,2,3,4,5,6,7,8,9,10],false,[3],some 19,[4,10]⟩,⟨[19],[0,1,2,3,4,5,6,7,8,9,10,11],false,[3],some 20,[11,9]⟩,⟨[1,20],[0,1,2,3,4,5,6,7,8,9,10,11,12],false,[3],some 21,[12]⟩,⟨[20,21],[0,1,2,3,4,5,6,7,8,9,10,11,12,13],true,[],some 22,[13,12,12]⟩,⟨[20,22],[0,1,2,3,4,5,6,7,8,9,10,11,12,13,14],true,[],some 23,[14,14,12]⟩,⟨[20,23],[0,1,2,3,4,5,6,7,8,9,10,11,12,13,14,15],false,[5],some 24,[15,12]⟩,⟨[20,24],[0,1,2,3,4,5,6,7,8,9,10,11,12,13,14,15,16],false,[5],some 25,[12,16]⟩,⟨[25],[0,1,2,3,4,5,6,7,8,9,10,11,12,13,14,15,16,17],false,[5],some 26,[17,15]⟩,⟨[1,26],[0,1,2,3,4,5,6,7,8,9,10,11,12,13,14,15,16,17,18],false,[5],some 27,[18]⟩,⟨[26,27],[0,1,2,3,4,5,6,7,8,9,10,11,12,13,14,15,16,17,18,19],false,[5],some 28,[19,18]⟩,⟨[1,26],[0,1,2,3,4,5,6,7,8,9,10,11,12,13,14,15,16,17,18],false,[5],some 29,[18]⟩,⟨[26,29],[0,1,2,3,4,5,6,7,8,9,10,11,12,13,14,15,16,17,18,21],false,[5],some 30,[21,18]⟩,⟨[26,28,30],[0,1,2,3,4,5,6,7,8,9,10,11,12,13,14,15,16,17,18,19,20,21,22],true,[],some 31,[20,22,18,18]⟩,⟨[26,31],[0,1,2,3,4,5,6,7,8,9,10,11,12,13,14,15,16,17,18,19,20,21,22,23],false,[6],some 32,[23,18]⟩,⟨[26,32],[0,1,2,3,4,5,6,7,8,9,10,11,12,13,14,15,16,17,18,19,20,21,22,23,24],false,[6],some 33,[18,24]⟩,⟨[33],[0,1,2,3,4,5,6,7,8,9,10,11,12,13,14,15,16,17,18,19,20,21,22,23,24,25],false,[6],some 3,[25,23,0,1,2,3,4,5,6,7,8,9,10,11,12,13,14,15,16,17,18,19,20,21,22,23,24,25]⟩])],false,10⟩
noncomputable def fx11 : FX := ⟨1887437299,39,Tryz.f11.body.getD .skip,Tryz.f11.results.toList,[(7,[⟨[8],[],false,[0,1,2],some 31,[]⟩,⟨[31],[0],false,[0,1,2],some 32,[0]⟩,⟨[],[],true,[],some 33,[]⟩,⟨[33],[2],true,[],some 34,[2]⟩,⟨[32,34],[0,1,2,3],true,[],some 35,[1,3]⟩,⟨[8],[0,1,2,3,4],false,[3],some 36,[0,1,2,3,4]⟩,⟨[35,36],[0,1,2,3,4,5],true,[],none,[5,4,4,0,1,2,3,4]⟩])],false,11⟩
noncomputable def fx12 : FX := ⟨16777453,26,Tryz.f12.body.getD .skip,Tryz.f12.results.toList,[(4,[⟨[3],[],false,[0],some 9,[]⟩,⟨[9],[0],false,[0],some 10,[0]⟩,⟨[10],[0,1],false,[0],some 11,[1]⟩,⟨[0,11],[0,1,2],false,[0],some 12,[2]⟩,⟨[3,11],[0,1,2],false,[0],some 13,[2]⟩,⟨[11,13],[0,1,2,4],false,[0],some 14,[4,2]⟩,⟨[11,12,14],[0,1,2,3,4,5],false,[0],some 15,[3,5,2]⟩,⟨[11,15],[0,1,2,3,4,5,6],false,[0],some 16,[6,2]⟩,⟨[11,16],[0,1,2,3,4,5,6,7],false,[0],some 17,[7,2]⟩,⟨[0,11],[0,1,2],false,[0],some 18,[2]⟩,⟨[3,11],[0,1,2],false,[0],some 19,[2]⟩,⟨[11,18,19],[0,1,2,9,10],false,[0],some 20,[9,10,2]⟩,⟨[11,20],[0,1,2,9,10,11],false,[0],some 21,[11,2]⟩,⟨[11,21],[0,1,2,9,10,11,12],false,[0],some 22,[12,2]⟩,⟨[11,17,22],[0,1,2,3,4,5,6,7,8,9,10,11,12,13],false,[0],some 23,[8,13,2]⟩,⟨[11,23],[0,1,2,3,4,5,6,7,8,9,10,11,12,13,14],false,[0],some 24,[2,14]⟩])],false,12⟩
noncomputable def fx13 : FX := ⟨386856852576995294642651101,119,Tryz.f13.body.getD .skip,Tryz.f13.results.toList,[(10,[⟨[3],[],false,[0,1,2,3,4,5],some 33,[]⟩,⟨[8],[],false,[0,1,2,3,4,5],some 34,[]⟩,⟨[3],[],false,[0,1,2,3,4],some 35,[]⟩,⟨[8],[],false,[0,1,2,3,4],some 36,[]⟩,⟨[35,36],[2,3],false,[0,1,2,3,4],some 37,[2,3]⟩,⟨[7],[],false,[0],some 38,[]⟩,⟨[38],[5],false,[0],some 39,[5]⟩,⟨[39],[5,6],true,[],some 40,[6]⟩,⟨[6],[],false,[0,1],some 41,[]⟩,⟨[41],[8],false,[0,1],some 42,[8]⟩,⟨[42],[8,9],false,[0,1],some 43,[9]⟩,⟨[43],[5,6,7,8,9,10],true,[],some 44,[10,7]⟩,⟨[6],[],false,[0,1,2],some 45,[]⟩,⟨[45],[12],false,[0,1,2],some 46,[12]⟩,⟨[46],[12,13],false,[0,1,2],some 47,[13]⟩,⟨[47],[5,6,7,8,9,10,11,12,13,14],true,[],some 48,[14,11]⟩,⟨[40,44,48],[5,6,7,8,9,10,11,12,13,14,15],false,[3],some 49,[7,11,15]⟩,⟨[49],[5,6,7,8,9,10,11,12,13,14,15,16],true,[],some 50,[16]⟩,⟨[37,50],[2,3,4,5,6,7,8,9,10,11,12,13,14,15,16,17],true,[],some 51,[4,17,15]⟩,⟨[33,34,51],[0,1,2,3,4,5,6,7,8,9,10,11,12,13,14,15,16,17,18],true,[],none,[0,1,18,18,0,1,2,3,4,5,6,7,8,9,10,11,12,13,14,15,16,17,18]⟩]),
  (17,[⟨[6],[],false,[0],some 71,[]⟩,⟨[71],[0],false,[0],some 72,[0]⟩,⟨[72],[0,1],false,[0],some 73,[1]⟩,⟨[73],[0,1,2],true,[],some 74,[2]⟩,⟨[6],[],false,[0,1],some 75,[]⟩,⟨[75],[4],false,[0,1],some 76,[4]⟩,⟨[76],[4,5],false,[0,1],some 77,[5]⟩,⟨[77],[0,1,2,3,4,5,6],true,[],some 78,[6,3]⟩,⟨[2],[0,1,2,3],false,[1,2],some 79,[0,1,2,3]⟩,⟨[74,79],[0,1,2,3,4,5,6,7,8],true,[],none,[8,3,7,0,1,2,3]⟩,⟨[2],[0,1,2,3,4,5,6,7,8,9],false,[3],some 80,[0,1,2,3,4,5,6,7,8,9]⟩,⟨[78,80],[0,1,2,3,4,5,6,7,8,9,10],true,[],none,[10,7,9,0,1,2,3,4,5,6,7,8,9]⟩]),
  (24,[⟨[2],[],false,[0,1,2,3,4],some 94,[]⟩,⟨[94],[0],false,[0,1,2,3,4],some 95,[0]⟩,⟨[11],[],false,[0,1,2,3],some 96,[]⟩,⟨[12],[],false,[0,1],some 97,[]⟩,⟨[97],[3],false,[0,1],some 98,[3]⟩,⟨[12],[],false,[0,1],some 99,[]⟩,⟨[99],[5],false,[0,1],some 100,[5]⟩,⟨[13],[],false,[0],some 101,[]⟩,⟨[101],[7],false,[0],some 102,[7]⟩,⟨[102],[7,8],true,[],some 103,[8]⟩,⟨[98,100,103],[3,4,5,6,7,8,9],true,[],some 104,[4,6,9,9]⟩,⟨[13],[],false,[0,1,2],some 105,[]⟩,⟨[105],[11],false,[0,1,2],some 106,[11]⟩,⟨[106],[3,4,5,6,7,8,9,10,11,12],true,[],some 107,[12,10]⟩,⟨[3],[],false,[0,1,2,3],some 108,[]⟩,⟨[11],[],false,[0,1,2,3],some 109,[]⟩,⟨[108,109],[14,15],false,[0,1,2,3],some 110,[14,15]⟩,⟨[96,104,107,110],[2,3,4,5,6,7,8,9,10,11,12,13,14,15,16],false,[3],some 111,[2,10,13,16]⟩,⟨[111],[2,3,4,5,6,7,8,9,10,11,12,13,14,15,16,17],true,[],some 112,[17]⟩,⟨[95,112],[0,1,2,3,4,5,6,7,8,9,10,11,12,13,14,15,16,17,18],true,[],some 113,[1,18,13]⟩,⟨[2],[0,1,2,3,4,5,6,7,8,9,10,11,12,13,14,15,16,17,18,19],false,[5],some 114,[0,1,2,3,4,5,6,7,8,9,10,11,12,13,14,15,16,17,18,19]⟩,⟨[113,114],[0,1,2,3,4,5,6,7,8,9,10,11,12,13,14,15,16,17,18,19,20],true,[],none,[20,19,19,0,1,2,3,4,5,6,7,8,9,10,11,12,13,14,15,16,17,18,19]⟩])],false,13⟩
noncomputable def fx14 : FX := ⟨21,8,Tryz.f14.body.getD .skip,Tryz.f14.results.toList,[],false,14⟩
noncomputable def fx15 : FX := ⟨134250557,34,Tryz.f15.body.getD .skip,Tryz.f15.results.toList,[],false,15⟩
noncomputable def fx16 : FX := ⟨16806963,26,Tryz.f16.body.getD .skip,Tryz.f16.results.toList,[(6,[⟨[0],[],false,[0],some 16,[]⟩,⟨[5],[],false,[0],some 17,[]⟩,⟨[16,17],[0,1],false,[0],some 18,[0,1]⟩,⟨[18],[0,1,2],false,[0],some 19,[2]⟩,⟨[1],[],false,[0],some 20,[]⟩,⟨[5],[],false,[0],some 21,[]⟩,⟨[20,21],[4,5],false,[0],some 22,[4,5]⟩,⟨[22],[4,5,6],false,[0],some 23,[6]⟩,⟨[19,23],[0,1,2,3,4,5,6,7],false,[0],some 24,[3,7]⟩])],false,16⟩
noncomputable def fx17 : FX := ⟨8854437155380592655599,125,Tryz.f17.body.getD .skip,Tryz.f17.results.toList,[(7,[⟨[2],[],false,[0,1,2,3,4,5,6],some 37,[]⟩,⟨[6],[],false,[0,1],some 38,[]⟩,⟨[5],[],false,[0],some 39,[]⟩,⟨[39],[2],false,[0],some 40,[2]⟩,⟨[40],[2,3],true,[],some 41,[3]⟩,⟨[38,41],[1,2,3,4],true,[],some 42,[1,4,4]⟩,⟨[6],[],false,[0,1,2,3],some 43,[]⟩,⟨[43],[6],false,[0,1,2,3],some 44,[6]⟩,⟨[5],[],false,[0,1,2],some 45,[]⟩,⟨[45],[8],false,[0,1,2],some 46,[8]⟩,⟨[46],[1,2,3,4,5,8,9],true,[],some 47,[9,5]⟩,⟨[44,47],[1,2,3,4,5,6,7,8,9,10],true,[],some 48,[7,10,10]⟩,⟨[6],[],false,[0,1,2,3,4],some 49,[]⟩,⟨[49],[12],false,[0,1,2,3,4],some 50,[12]⟩,⟨[5],[],false,[0,1,2,3,4],some 51,[]⟩,⟨[51],[14],false,[0,1,2,3,4],some 52,[14]⟩,⟨[52],[14,15],false,[0,1,2,3,4],some 53,[15]⟩,⟨[53],[14,15,16],false,[0,1,2,3,4],some 54,[16]⟩,⟨[5],[],false,[0,1,2,3,4],some 55,[]⟩,⟨[55],[18],false,[0,1,2,3,4],some 56,[18]⟩,⟨[56],[18,19],false,[0,1,2,3,4],some 57,[19]⟩,⟨[57],[18,19,20],false,[0,1,2,3,4],some 58,[20]⟩,⟨[54,58],[14,15,16,17,18,19,20,21],false,[0,1,2,3,4],some 59,[17,21]⟩,⟨[50,59],[1,2,3,4,5,6,7,8,9,10,11,12,13,14,15,16,17,18,19,20,21,22],true,[],some 60,[13,22,11]⟩,⟨[42,48,60],[1,2,3,4,5,6,7,8,9,10,11,12,13,14,15,16,17,18,19,20,21,22,23],true,[],some 61,[5,11,23]⟩,⟨[37,61],[0,1,2,3,4,5,6,7,8,9,10,11,12,13,14,15,16,17,18,19,20,21,22,23,24],true,[],some 62,[0,24,23]⟩,⟨[62],[0,1,2,3,4,5,6,7,8,9,10,11,12,13,14,15,16,17,18,19,20,21,22,23,24,25],false,[7],some 2,[25,25,0,1,2,3,4,5,6,7,8,9,10,11,12,13,14,15,16,17,18,19,20,21,22,23,24,25]⟩]),
  (13,[⟨[10],[],false,[0],some 75,[]⟩,⟨[75],[0],false,[0],some 76,[0]⟩,⟨[76],[0,1],false,[0],some 77,[1]⟩,⟨[10],[],false,[0],some 78,[]⟩,⟨[78],[3],false,[0],some 79,[3]⟩,⟨[79],[3,4],false,[0],some 80,[4]⟩,⟨[10],[],false,[0],some 81,[]⟩,⟨[81],[6],false,[0],some 82,[6]⟩,⟨[82],[6,7],false,[0],some 83,[7]⟩,⟨[77],[0,1,2],false,[0],some 11,[2,0,1,2]⟩,⟨[80],[0,1,2,3,4,5,9],false,[0],some 12,[5,9,0,1,2,3,4,5,9]⟩,⟨[83],[0,1,2,3,4,5,6,7,8,9,10],false,[0],some 13,[8,10,0,1,2,3,4,5,6,7,8,9,10]⟩]),
  (14,[⟨[2],[],false,[0,1,2,3],some 84,[]⟩,⟨[11],[],false,[0],some 85,[]⟩,⟨[85],[1],false,[0],some 86,[1]⟩,⟨[12],[],false,[0],some 87,[]⟩,⟨[86,87],[1,2,3],false,[0],some 88,[2,3]⟩,⟨[13],[],false,[0],some 89,[]⟩,⟨[89],[5],false,[0],some 90,[5]⟩,⟨[10],[],false,[0],some 91,[]⟩,⟨[91],[7],false,[0],some 92,[7]⟩,⟨[92],[7,8],false,[0],some 93,[8]⟩,⟨[90,93],[5,6,7,8,9],false,[0],some 94,[6,9]⟩,⟨[88,94],[1,2,3,4,5,6,7,8,9,10],true,[],some 95,[4,10]⟩,⟨[13],[],false,[0,1],some 96,[]⟩,⟨[96],[12],false,[0,1],some 97,[12]⟩,⟨[11],[],false,[0,1],some 98,[]⟩,⟨[98],[14],false,[0,1],some 99,[14]⟩,⟨[97,99],[12,13,14,15],false,[0,1],some 100,[13,15]⟩,⟨[12],[],false,[0,1],some 101,[]⟩,⟨[100,101],[12,13,14,15,16,17],false,[0,1],some 102,[16,17]⟩,⟨[10],[],false,[0,1],some 103,[]⟩,⟨[103],[19],false,[0,1],some 104,[19]⟩,⟨[104],[19,20],false,[0,1],some 105,[20]⟩,⟨[102,105],[1,2,3,4,5,6,7,8,9,10,11,12,13,14,15,16,17,18,19,20,21],true,[],some 106,[18,21,11]⟩,⟨[95,106],[1,2,3,4,5,6,7,8,9,10,11,12,13,14,15,16,17,18,19,20,21,22],true,[],some 107,[11,22]⟩,⟨[84,107],[0,1,2,3,4,5,6,7,8,9,10,11,12,13,14,15,16,17,18,19,20,21,22,23],true,[],some 108,[0,23,22]⟩,⟨[108],[0,1,2,3,4,5,6,7,8,9,10,11,12,13,14,15,16,17,18,19,20,21,22,23,24],false,[4],some 2,[24,24,0,1,2,3,4,5,6,7,8,9,10,11,12,13,14,15,16,17,18,19,20,21,22,23,24]⟩])],false,17⟩
noncomputable def fx19 : FX := ⟨137470935087,44,Tryz.f19.body.getD .skip,Tryz.f19.results.toList,[],false,19⟩
noncomputable def fx20 : FX := ⟨9007199286722931,60,Tryz.f20.body.getD .skip,Tryz.f20.results.toList,[(10,[⟨[5],[],false,[0],some 54,[]⟩,⟨[8],[],false,[0],some 55,[]⟩,⟨[55],[1],false,[0],some 56,[1]⟩,⟨[8],[],false,[0],some 57,[]⟩,⟨[57],[3],false,[0],some 58,[3]⟩,⟨[58],[3,4],false,[0],some 6,[4,3,4]⟩,⟨[54,56],[0,1,2,3,4,5],true,[],none,[0,2,5,0,1,2,3,4,5]⟩])],false,20⟩
noncomputable def fx21 : FX := ⟨983,22,Tryz.f21.body.getD .skip,Tryz.f21.results.toList,[],false,21⟩
noncomputable def fx22 : FX := ⟨536878893,33,Tryz.f22.body.getD .skip,Tryz.f22.results.toList,[],false,22⟩
noncomputable def fx23 : FX := ⟨30767,27,Tryz.f23.body.getD .skip,Tryz.f23.results.toList,[],false,23⟩
noncomputable def fx24 : FX := ⟨51,35,Tryz.f24.body.getD .skip,Tryz.f24.results.toList,[(2,[⟨[1],[],false,[0],some 8,[]⟩,⟨[8],[0],false,[0],some 9,[0]⟩,⟨[9],[0,1],false,[0],some 10,[1]⟩,⟨[1,10],[0,1,2],false,[0],some 11,[2]⟩,⟨[10,11],[0,1,2,3],false,[0],some 12,[3,2]⟩,⟨[10,12],[0,1,2,3,4],false,[0],some 13,[2,4]⟩,⟨[13],[0,1,2,3,4,5],false,[0],some 14,[5,2]⟩,⟨[5,14],[0,1,2,3,4,5,6],false,[0],some 15,[6]⟩,⟨[14,15],[0,1,2,3,4,5,6,7],false,[0],some 16,[7,6]⟩,⟨[14,16],[0,1,2,3,4,5,6,7,8],false,[0],some 17,[8,6,6]⟩,⟨[0,17],[0,1,2,3,4,5,6,7,8,9],false,[0],some 18,[9]⟩,⟨[5,17],[0,1,2,3,4,5,6,7,8,9],false,[0],some 19,[9]⟩,⟨[17,19],[0,1,2,3,4,5,6,7,8,9,11],false,[0],some 20,[11,9]⟩,⟨[17,18,20],[0,1,2,3,4,5,6,7,8,9,10,11,12],false,[0],some 21,[10,12,9]⟩,⟨[17,21],[0,1,2,3,4,5,6,7,8,9,10,11,12,13],false,[0],some 22,[13,9]⟩,⟨[17,22],[0,1,2,3,4,5,6,7,8,9,10,11,12,13,14],false,[0],some 23,[14,9]⟩,⟨[0,17],[0,1,2,3,4,5,6,7,8,9],false,[0],some 24,[9]⟩,⟨[5,17],[0,1,2,3,4,5,6,7,8,9],false,[0],some 25,[9]⟩,⟨[17,25],[0,1,2,3,4,5,6,7,8,9,17],false,[0],some 26,[17,9]⟩,⟨[17,24,26],[0,1,2,3,4,5,6,7,8,9,16,17,18],false,[0],some 27,[16,18,9]⟩,⟨[17,27],[0,1,2,3,4,5,6,7,8,9,16,17,18,19],false,[0],some 28,[19,9]⟩,⟨[17,28],[0,1,2,3,4,5,6,7,8,9,16,17,18,19,20],false,[0],some 29,[20,9]⟩,⟨[17,23,29],[0,1,2,3,4,5,6,7,8,9,10,11,12,13,14,15,16,17,18,19,20,21],false,[0],some 30,[15,21,9]⟩,⟨[1,17],[0,1,2,3,4,5,6,7,8,9],false,[0],some 31,[9]⟩,⟨[17,30,31],[0,1,2,3,4,5,6,7,8,9,10,11,12,13,14,15,16,17,18,19,20,21,22,23],false,[0],some 32,[22,23,9]⟩,⟨[14,17,32],[0,1,2,3,4,5,6,7,8,9,10,11,12,13,14,15,16,17,18,19,20,21,22,23,24],false,[0],some 33,[9,24,6]⟩,⟨[14,33],[0,1,2,3,4,5,6,7,8,9,10,11,12,13,14,15,16,17,18,19,20,21,22,23,24,25],false,[0],some 34,[6,25]⟩,⟨[34],[0,1,2,3,4,5,6,7,8,9,10,11,12,13,14,15,16,17,18,19,20,21,22,23,24,25,26],false,[0],some 4,[26,9,0,1,2,3,4,5,6,7,8,9,10,11,12,13,14,15,16,17,18,19,20,21,22,23,24,25,26]⟩])],false,24⟩
noncomputable def fx25 : FX := ⟨19,9,Tryz.f25.body.getD .skip,Tryz.f25.results.toList,[],false,25⟩
noncomputable def fx26 : FX := ⟨7,9,Tryz.f26.body.getD .skip,Tryz.f26.results.toList,[],false,26⟩
noncomputable def fx27 : FX := ⟨19,9,Tryz.f27.body.getD .skip,Tryz.f27.results.toList,[],false,27⟩
noncomputable def fx28 : FX := ⟨5,6,Tryz.f28.body.getD .skip,Tryz.f28.results.toList,[],false,28⟩
noncomputable def fx29 : FX := ⟨1999229,34,Tryz.f29.body.getD .skip,Tryz.f29.results.toList,[],false,29⟩
noncomputable def fx30 : FX := ⟨72430399915511,72,Tryz.f30.body.getD .skip,Tryz.f30.results.toList,[],false,30⟩
noncomputable def fx31 : FX := ⟨16806963,26,Tryz.f31.body.getD .skip,Tryz.f31.results.toList,[(6,[⟨[0],[],false,[0],some 16,[]⟩,⟨[5],[],false,[0],some 17,[]⟩,⟨[16,17],[0,1],false,[0],some 18,[0,1]⟩,⟨[18],[0,1,2],false,[0],some 19,[2]⟩,⟨[1],[],false,[0],some 20,[]⟩,⟨[5],[],false,[0],some 21,[]⟩,⟨[20,21],[4,5],false,[0],some 22,[4,5]⟩,⟨[22],[4,5,6],false,[0],some 23,[6]⟩,⟨[19,23],[0,1,2,3,4,5,6,7],false,[0],some 24,[3,7]⟩])],false,31⟩
noncomputable def fx32 : FX := ⟨33821,21,Tryz.f32.body.getD .skip,Tryz.f32.results.toList,[],false,32⟩
noncomputable def fx33 : FX := ⟨5,6,Tryz.f33.body.getD .skip,Tryz.f33.results.toList,[],false,33⟩
noncomputable def fx34 : FX := ⟨967,30,Tryz.f34.body.getD .skip,Tryz.f34.results.toList,[],false,34⟩
noncomputable def fx35 : FX := ⟨19,14,Tryz.f35.body.getD .skip,Tryz.f35.results.toList,[],false,35⟩
noncomputable def fx36 : FX := ⟨31,10,Tryz.f36.body.getD .skip,Tryz.f36.results.toList,[],false,36⟩
noncomputable def fx37 : FX := ⟨604275,20,Tryz.f37.body.getD .skip,Tryz.f37.results.toList,[],false,37⟩
noncomputable def fx38 : FX := ⟨71,14,Tryz.f38.body.getD .skip,Tryz.f38.results.toList,[],false,38⟩
noncomputable def fx39 : FX := ⟨16627,28,Tryz.f39.body.getD .skip,Tryz.f39.results.toList,[],false,39⟩
noncomputable def fx40 : FX := ⟨63414973,45,Tryz.f40.body.getD .skip,Tryz.f40.results.toList,[],false,40⟩
noncomputable def fx41 : FX := ⟨19,14,Tryz.f41.body.getD .skip,Tryz.f41.results.toList,[],false,41⟩
noncomputable def fx42 : FX := ⟨31,10,Tryz.f42.body.getD .skip,Tryz.f42.results.toList,[],false,42⟩
noncomputable def fx43 : FX := ⟨604275,20,Tryz.f43.body.getD .skip,Tryz.f43.results.toList,[],false,43⟩
noncomputable def fx44 : FX := ⟨23,28,Tryz.f44.body.getD .skip,Tryz.f44.results.toList,[],false,44⟩
noncomputable def fx45 : FX := ⟨281474976714653,50,Tryz.f45.body.getD .skip,Tryz.f45.results.toList,[(6,[⟨[4],[],false,[0],some 15,[]⟩,⟨[15],[0],true,[],some 16,[0]⟩,⟨[16],[0,1],false,[1],some 17,[1]⟩,⟨[17],[0,1,2],false,[1],some 18,[2,1]⟩,⟨[3,18],[0,1,2,3],false,[1],some 19,[3]⟩,⟨[18,19],[0,1,2,3,4],false,[1],some 20,[4,3]⟩,⟨[18,20],[0,1,2,3,4,5],false,[1],some 21,[5,3,3]⟩,⟨[0,21],[0,1,2,3,4,5,6],false,[1],some 22,[6]⟩,⟨[3,21],[0,1,2,3,4,5,6],false,[1],some 23,[6]⟩,⟨[21,23],[0,1,2,3,4,5,6,8],false,[1],some 24,[8,6]⟩,⟨[21,22,24],[0,1,2,3,4,5,6,7,8,9],false,[1],some 25,[7,9,6]⟩,⟨[21,25],[0,1,2,3,4,5,6,7,8,9,10],false,[1],some 26,[10,6]⟩,⟨[21,26],[0,1,2,3,4,5,6,7,8,9,10,11],false,[1],some 27,[11,6]⟩,⟨[0,21],[0,1,2,3,4,5,6],false,[1],some 28,[6]⟩,⟨[3,21],[0,1,2,3,4,5,6],false,[1],some 29,[6]⟩,⟨[21,29],[0,1,2,3,4,5,6,14],false,[1],some 30,[14,6]⟩,⟨[21,28,30],[0,1,2,3,4,5,6,13,14,15],false,[1],some 31,[13,15,6]⟩,⟨[21,31],[0,1,2,3,4,5,6,13,14,15,16],false,[1],some 32,[16,6]⟩,⟨[21,32],[0,1,2,3,4,5,6,13,14,15,16,17],false,[1],some 33,[17,6]⟩,⟨[21,27,33],[0,1,2,3,4,5,6,7,8,9,10,11,12,13,14,15,16,17,18],false,[1],some 34,[12,18,6]⟩,⟨[4,21],[0,1,2,3,4,5,6],false,[1],some 35,[6]⟩,⟨[21,35],[0,1,2,3,4,5,6,20],false,[1],some 36,[20,6]⟩,⟨[21,34,36],[0,1,2,3,4,5,6,7,8,9,10,11,12,13,14,15,16,17,18,19,20,21],false,[1],some 37,[19,21,6]⟩,⟨[21,37],[0,1,2,3,4,5,6,7,8,9,10,11,12,13,14,15,16,17,18,19,20,21,22],false,[1],some 38,[22,6,6]⟩,⟨[0,38],[0,1,2,3,4,5,6,7,8,9,10,11,12,13,14,15,16,17,18,19,20,21,22,23],false,[1],some 39,[23]⟩,⟨[3,38],[0,1,2,3,4,5,6,7,8,9,10,11,12,13,14,15,16,17,18,19,20,21,22,23],false,[1],some 40,[23]⟩,⟨[38,40],[0,1,2,3,4,5,6,7,8,9,10,11,12,13,14,15,16,17,18,19,20,21,22,23,25],false,[1],some 41,[25,23]⟩,⟨[38,39,41],[0,1,2,3,4,5,6,7,8,9,10,11,12,13,14,15,16,17,18,19,20,21,22,23,24,25,26],false,[1],some 42,[24,26,23]⟩,⟨[38,42],[0,1,2,3,4,5,6,7,8,9,10,11,12,13,14,15,16,17,18,19,20,21,22,23,24,25,26,27],false,[1],some 43,[27,23]⟩,⟨[4,38],[0,1,2,3,4,5,6,7,8,9,10,11,12,13,14,15,16,17,18,19,20,21,22,23],false,[1],some 44,[23]⟩,⟨[38,43,44],[0,1,2,3,4,5,6,7,8,9,10,11,12,13,14,15,16,17,18,19,20,21,22,23,24,25,26,27,28,29],true,[],some 45,[28,29,23,23]⟩,⟨[21,38,45],[0,1,2,3,4,5,6,7,8,9,10,11,12,13,14,15,16,17,18,19,20,21,22,23,24,25,26,27,28,29,30],false,[2],some 46,[23,30,6]⟩,⟨[18,21,46],[0,1,2,3,4,5,6,7,8,9,10,11,12,13,14,15,16,17,18,19,20,21,22,23,24,25,26,27,28,29,30,31],false,[2],some 47,[6,31,3]⟩,⟨[18,47],[0,1,2,3,4,5,6,7,8,9,10,11,12,13,14,15,16,17,18,19,20,21,22,23,24,25,26,27,28,29,30,31,32],false,[2],some 48,[3,32]⟩])],false,45⟩
noncomputable def fx46 : FX := ⟨66483,19,Tryz.f46.body.getD .skip,Tryz.f46.results.toList,[],false,46⟩
noncomputable def fx47 : FX := ⟨66483,19,Tryz.f47.body.getD .skip,Tryz.f47.results.toList,[],false,47⟩
noncomputable def fx48 : FX := ⟨137438984301,65,Tryz.f48.body.getD .skip,Tryz.f48.results.toList,[(8,[⟨[6],[],false,[0],some 20,[]⟩,⟨[20],[0],false,[0],some 21,[0]⟩,⟨[21],[0,1],false,[0],some 22,[1]⟩,⟨[5,22],[0,1,2],false,[0],some 23,[2]⟩,⟨[22,23],[0,1,2,3],false,[0],some 24,[3,2]⟩,⟨[3,22],[0,1,2],false,[0],some 25,[2]⟩,⟨[6,22],[0,1,2],false,[0],some 26,[2]⟩,⟨[22,25,26],[0,1,2,5,6],false,[0],some 27,[5,6,2]⟩,⟨[22,27],[0,1,2,5,6,7],false,[0],some 28,[7,2]⟩,⟨[22,28],[0,1,2,5,6,7,8],false,[0],some 29,[8,2]⟩,⟨[3,22],[0,1,2],false,[0],some 30,[2]⟩,⟨[6,22],[0,1,2],false,[0],some 31,[2]⟩,⟨[22,30,31],[0,1,2,10,11],false,[0],some 32,[10,11,2]⟩,⟨[22,32],[0,1,2,10,11,12],false,[0],some 33,[12,2]⟩,⟨[22,33],[0,1,2,10,11,12,13],false,[0],some 34,[13,2]⟩,⟨[22,29,34],[0,1,2,5,6,7,8,9,10,11,12,13,14],false,[0],some 35,[9,14,2]⟩,⟨[22,24,35],[0,1,2,3,4,5,6,7,8,9,10,11,12,13,14,15],false,[0],some 36,[4,15,2]⟩,⟨[22,36],[0,1,2,3,4,5,6,7,8,9,10,11,12,13,14,15,16],false,[0],some 37,[2,16]⟩]),
  (9,[⟨[3],[],false,[0],some 38,[]⟩,⟨[6],[],false,[0],some 39,[]⟩,⟨[3],[],false,[0],some 40,[]⟩,⟨[6],[],false,[0],some 41,[]⟩,⟨[40,41],[2,3],false,[0],some 42,[2,3]⟩,⟨[42],[2,3,4],false,[0],some 43,[4]⟩,⟨[43],[2,3,4,5],false,[0],some 44,[5]⟩,⟨[5],[],false,[0],some 45,[]⟩,⟨[45],[7],false,[0],some 46,[7]⟩,⟨[5],[],false,[0],some 47,[]⟩,⟨[47],[9],false,[0],some 48,[9]⟩,⟨[46,48],[7,8,9,10],false,[0],some 49,[8,10]⟩,⟨[3],[],false,[0],some 50,[]⟩,⟨[6],[],false,[0],some 51,[]⟩,⟨[50,51],[12,13],false,[0],some 52,[12,13]⟩,⟨[52],[12,13,14],false,[0],some 53,[14]⟩,⟨[53],[12,13,14,15],false,[0],some 54,[15]⟩,⟨[49,54],[7,8,9,10,11,12,13,14,15,16],false,[0],some 55,[11,16]⟩,⟨[44,55],[2,3,4,5,6,7,8,9,10,11,12,13,14,15,16,17],false,[0],some 56,[6,17]⟩,⟨[38,39],[0,1,2,3,4,5,6,7,8,9,10,11,12,13,14,15,16,17,18],false,[0],some 57,[0,1,0,1,2,3,4,5,6,7,8,9,10,11,12,13,14,15,16,17,18]⟩,⟨[57],[0,1,2,3,4,5,6,7,8,9,10,11,12,13,14,15,16,17,18,19],false,[0],some 58,[19,0,1,2,3,4,5,6,7,8,9,10,11,12,13,14,15,16,17,18]⟩,⟨[56,58],[0,1,2,3,4,5,6,7,8,9,10,11,12,13,14,15,16,17,18,19,20],true,[],none,[20,18,0,1,2,3,4,5,6,7,8,9,10,11,12,13,14,15,16,17,18]⟩])],false,48⟩
noncomputable def fx49 : FX := ⟨19,9,Tryz.f49.body.getD .skip,Tryz.f49.results.toList,[],false,49⟩
noncomputable def fx50 : FX := ⟨15,8,Tryz.f50.body.getD .skip,Tryz.f50.results.toList,[],false,50⟩
noncomputable def fx51 : FX := ⟨21,8,Tryz.f51.body.getD .skip,Tryz.f51.results.toList,[],false,51⟩
noncomputable def fx52 : FX := ⟨19,14,Tryz.f52.body.getD .skip,Tryz.f52.results.toList,[],false,52⟩
noncomputable def fx53 : FX := ⟨31,10,Tryz.f53.body.getD .skip,Tryz.f53.results.toList,[],false,53⟩
noncomputable def fx54 : FX := ⟨307,13,Tryz.f54.body.getD .skip,Tryz.f54.results.toList,[],false,54⟩
noncomputable def fx55 : FX := ⟨42535296023574879666274036850519702559,148,Tryz.f55.body.getD .skip,Tryz.f55.results.toList,[(17,[⟨[1],[],false,[0],some 81,[]⟩,⟨[81],[0],false,[0],some 82,[0]⟩,⟨[82],[0,1],false,[0],some 83,[1]⟩,⟨[4,83],[0,1,2],false,[0],some 84,[2]⟩,⟨[0,83],[0,1,2],false,[0],some 85,[2]⟩,⟨[1,83],[0,1,2],false,[0],some 86,[2]⟩,⟨[83,86],[0,1,2,5],false,[0],some 87,[5,2]⟩,⟨[83,85,87],[0,1,2,4,5,6],false,[0],some 88,[4,6,2]⟩,⟨[83,88],[0,1,2,4,5,6,7],false,[0],some 89,[7,2]⟩,⟨[0,83],[0,1,2],false,[0],some 90,[2]⟩,⟨[13,83],[0,1,2],false,[0],some 91,[2]⟩,⟨[83,90,91],[0,1,2,9,10],false,[0],some 92,[9,10,2]⟩,⟨[83,92],[0,1,2,9,10,11],false,[0],some 93,[11,2]⟩,⟨[83,84,89,93],[0,1,2,3,4,5,6,7,8,9,10,11,12],true,[],some 94,[3,8,12,2,2]⟩,⟨[83,94],[0,1,2,3,4,5,6,7,8,9,10,11,12,13],false,[1],some 95,[13,2]⟩,⟨[83,95],[0,1,2,3,4,5,6,7,8,9,10,11,12,13,14],false,[1],some 96,[14,2]⟩,⟨[83,96],[0,1,2,3,4,5,6,7,8,9,10,11,12,13,14,15],false,[1],some 97,[2,15]⟩])],false,55⟩
noncomputable def fx56 : FX := ⟨5,8,Tryz.f56.body.getD .skip,Tryz.f56.results.toList,[],false,56⟩
noncomputable def fx57 : FX := ⟨5,6,Tryz.f57.body.getD .skip,Tryz.f57.results.toList,[],false,57⟩
noncomputable def fx58 : FX := ⟨19,14,Tryz.f58.body.getD .skip,Tryz.f58.results.toList,[],false,58⟩
noncomputable def fx59 : FX := ⟨31,22,Tryz.f59.body.getD .skip,Tryz.f59.results.toList,[(1,[⟨[2],[],false,[0],some 5,[]⟩,⟨[5],[0],false,[0],some 6,[0]⟩,⟨[3],[],false,[0],some 7,[]⟩,⟨[7],[2],false,[0],some 8,[2]⟩,⟨[6,8],[0,1,2,3],true,[],some 9,[1,3]⟩,⟨[2],[],false,[0,1],some 10,[]⟩,⟨[10],[5],false,[0,1],some 11,[5]⟩,⟨[3],[],false,[0,1],some 12,[]⟩,⟨[12],[7],false,[0,1],some 13,[7]⟩,⟨[11,13],[0,1,2,3,4,5,6,7,8],true,[],some 14,[6,8,4]⟩,⟨[2],[],false,[0,1,2],some 15,[]⟩,⟨[15],[10],false,[0,1,2],some 16,[10]⟩,⟨[3],[],false,[0,1,2],some 17,[]⟩,⟨[17],[12],false,[0,1,2],some 18,[12]⟩,⟨[16,18],[0,1,2,3,4,5,6,7,8,9,10,11,12,13],true,[],some 19,[11,13,9]⟩,⟨[9,14,19],[0,1,2,3,4,5,6,7,8,9,10,11,12,13,14],true,[],some 20,[4,9,14]⟩,⟨[20],[0,1,2,3,4,5,6,7,8,9,10,11,12,13,14,15],true,[],some 21,[15,14]⟩,⟨[21],[0,1,2,3,4,5,6,7,8,9,10,11,12,13,14,15,16],false,[5],some 4,[16,16,0,1,2,3,4,5,6,7,8,9,10,11,12,13,14,15,16]⟩])],false,59⟩
noncomputable def fx60 : FX := ⟨42535296023574879666274036850519702559,148,Tryz.f60.body.getD .skip,Tryz.f60.results.toList,[(17,[⟨[1],[],false,[0],some 81,[]⟩,⟨[81],[0],false,[0],some 82,[0]⟩,⟨[82],[0,1],false,[0],some 83,[1]⟩,⟨[4,83],[0,1,2],false,[0],some 84,[2]⟩,⟨[0,83],[0,1,2],false,[0],some 85,[2]⟩,⟨[1,83],[0,1,2],false,[0],some 86,[2]⟩,⟨[83,86],[0,1,2,5],false,[0],some 87,[5,2]⟩,⟨[83,85,87],[0,1,2,4,5,6],false,[0],some 88,[4,6,2]⟩,⟨[83,88],[0,1,2,4,5,6,7],false,[0],some 89,[7,2]⟩,⟨[0,83],[0,1,2],false,[0],some 90,[2]⟩,⟨[13,83],[0,1,2],false,[0],some 91,[2]⟩,⟨[83,90,91],[0,1,2,9,10],false,[0],some 92,[9,10,2]⟩,⟨[83,92],[0,1,2,9,10,11],false,[0],some 93,[11,2]⟩,⟨[83,84,89,93],[0,1,2,3,4,5,6,7,8,9,10,11,12],true,[],some 94,[3,8,12,2,2]⟩,⟨[83,94],[0,1,2,3,4,5,6,7,8,9,10,11,12,13],false,[1],some 95,[13,2]⟩,⟨[83,95],[0,1,2,3,4,5,6,7,8,9,10,11,12,13,14],false,[1],some 96,[14,2]⟩,⟨[83,96],[0,1,2,3,4,5,6,7,8,9,10,11,12,13,14,15],false,[1],some 97,[2,15]⟩])],false,60⟩
noncomputable def fx61 : FX := ⟨5,6,Tryz.f61.body.getD .skip,Tryz.f61.results.toList,[],false,61⟩
noncomputable def fx62 : FX := ⟨7,20,Tryz.f62.body.getD .skip,Tryz.f62.results.toList,[],false,62⟩
noncomputable def fx63 : FX := ⟨2097183,35,Tryz.f63.body.getD .skip,Tryz.f63.results.toList,[],false,63⟩
noncomputable def fx64 : FX := ⟨31,10,Tryz.f64.body.getD .skip,Tryz.f64.results.toList,[],false,64⟩
noncomputable def fx65 : FX := ⟨66483,19,Tryz.f65.body.getD .skip,Tryz.f65.results.toList,[],false,65⟩
noncomputable def fx66 : FX := ⟨42535296023574879666274036850519702559,148,Tryz.f66.body.getD .skip,Tryz.f66.results.toList,[(17,[⟨[1],[],false,[0],some 81,[]⟩,⟨[81],[0],false,[0],some 82,[0]⟩,⟨[82],[0,1],false,[0],some 83,[1]⟩,⟨[4,83],[0,1,2],false,[0],some 84,[2]⟩,⟨[0,83],[0,1,2],false,[0],some 85,[2]⟩,⟨[1,83],[0,1,2],false,[0],some 86,[2]⟩,⟨[83,86],[0,1,2,5],false,[0],some 87,[5,2]⟩,⟨[83,85,87],[0,1,2,4,5,6],false,[0],some 88,[4,6,2]⟩,⟨[83,88],[0,1,2,4,5,6,7],false,[0],some 89,[7,2]⟩,⟨[0,83],[0,1,2],false,[0],some 90,[2]⟩,⟨[13,83],[0,1,2],false,[0],some 91,[2]⟩,⟨[83,90,91],[0,1,2,9,10],false,[0],some 92,[9,10,2]⟩,⟨[83,92],[0,1,2,9,10,11],false,[0],some 93,[11,2]⟩,⟨[83,84,89,93],[0,1,2,3,4,5,6,7,8,9,10,11,12],true,[],some 94,[3,8,12,2,2]⟩,⟨[83,94],[0,1,2,3,4,5,6,7,8,9,10,11,12,13],false,[1],some 95,[13,2]⟩,⟨[83,95],[0,1,2,3,4,5,6,7,8,9,10,11,12,13,14],false,[1],some 96,[14,2]⟩,⟨[83,96],[0,1,2,3,4,5,6,7,8,9,10,11,12,13,14,15],false,[1],some 97,[2,15]⟩])],false,66⟩
noncomputable def fx67 : FX := ⟨17179886351,53,Tryz.f67.body.getD .skip,Tryz.f67.results.toList,[(4,[⟨[9],[],false,[0],some 18,[]⟩,⟨[1],[],false,[0],some 19,[]⟩,⟨[18,19],[0,1],false,[0],some 20,[0,1]⟩,⟨[20],[0,1,2],false,[0],some 21,[2]⟩,⟨[3,21],[0,1,2,3],false,[0],some 22,[3]⟩,⟨[0,21],[0,1,2,3],false,[0],some 23,[3]⟩,⟨[9,21],[0,1,2,3],false,[0],some 24,[3]⟩,⟨[21,23,24],[0,1,2,3,5,6],false,[0],some 25,[5,6,3]⟩,⟨[21,25],[0,1,2,3,5,6,7],false,[0],some 26,[7,3]⟩,⟨[0,21],[0,1,2,3],false,[0],some 27,[3]⟩,⟨[9,21],[0,1,2,3],false,[0],some 28,[3]⟩,⟨[21,28],[0,1,2,3,10],false,[0],some 29,[10,3]⟩,⟨[21,27,29],[0,1,2,3,9,10,11],false,[0],some 30,[9,11,3]⟩,⟨[21,30],[0,1,2,3,9,10,11,12],false,[0],some 31,[12,3]⟩,⟨[21,22,26,31],[0,1,2,3,4,5,6,7,8,9,10,11,12,13],true,[],some 32,[4,8,13,3,3]⟩,⟨[21,32],[0,1,2,3,4,5,6,7,8,9,10,11,12,13,14],false,[1],some 33,[14,3]⟩,⟨[21,33],[0,1,2,3,4,5,6,7,8,9,10,11,12,13,14,15],false,[1],some 34,[3,15]⟩]),
  (6,[⟨[0],[],false,[0],some 37,[]⟩,⟨[9],[],false,[0],some 38,[]⟩,⟨[0],[],false,[0,1],some 39,[]⟩,⟨[9],[],false,[0,1],some 40,[]⟩,⟨[40],[3],false,[0,1],some 41,[3]⟩,⟨[0],[],false,[0],some 42,[]⟩,⟨[9],[],false,[0],some 43,[]⟩,⟨[43],[6],false,[0],some 44,[6]⟩,⟨[42,44],[5,6,7],false,[0],some 45,[5,7]⟩,⟨[45],[5,6,7,8],false,[0],some 46,[8]⟩,⟨[0],[],false,[0],some 47,[]⟩,⟨[9],[],false,[0],some 48,[]⟩,⟨[47,48],[10,11],false,[0],some 49,[10,11]⟩,⟨[49],[10,11,12],false,[0],some 50,[12]⟩,⟨[37,38],[0,1,5,6,7,8,9,10,11,12,13],false,[0],some 51,[0,1,0,1,5,6,7,8,9,13]⟩,⟨[46,51],[0,1,5,6,7,8,9,10,11,12,13,14],true,[],none,[14,9,0,1,5,6,7,8,9,13]⟩,⟨[39,41],[0,1,2,3,4,5,6,7,8,9,10,11,12,13,14,15],false,[1],some 52,[2,4,0,1,2,3,4,5,6,7,8,9,10,11,12,13,14,15]⟩,⟨[50,52],[0,1,2,3,4,5,6,7,8,9,10,11,12,13,14,15,16],true,[],none,[16,13,15,0,1,2,3,4,5,6,7,8,9,10,11,12,13,14,15]⟩])],false,67⟩
noncomputable def fx75 : FX := ⟨277,19,Tryz.f75.body.getD .skip,Tryz.f75.results.toList,[],false,75⟩
noncomputable def fx76 : FX := ⟨16661,25,Tryz.f76.body.getD .skip,Tryz.f76.results.toList,[],false,76⟩
noncomputable def fx77 : FX := ⟨42535296023574879666274036850519702559,148,Tryz.f77.body.getD .skip,Tryz.f77.results.toList,[(17,[⟨[1],[],false,[0],some 81,[]⟩,⟨[81],[0],false,[0],some 82,[0]⟩,⟨[82],[0,1],false,[0],some 83,[1]⟩,⟨[4,83],[0,1,2],false,[0],some 84,[2]⟩,⟨[0,83],[0,1,2],false,[0],some 85,[2]⟩,⟨[1,83],[0,1,2],false,[0],some 86,[2]⟩,⟨[83,86],[0,1,2,5],false,[0],some 87,[5,2]⟩,⟨[83,85,87],[0,1,2,4,5,6],false,[0],some 88,[4,6,2]⟩,⟨[83,88],[0,1,2,4,5,6,7],false,[0],some 89,[7,2]⟩,⟨[0,83],[0,1,2],false,[0],some 90,[2]⟩,⟨[13,83],[0,1,2],false,[0],some 91,[2]⟩,⟨[83,90,91],[0,1,2,9,10],false,[0],some 92,[9,10,2]⟩,⟨[83,92],[0,1,2,9,10,11],false,[0],some 93,[11,2]⟩,⟨[83,84,89,93],[0,1,2,3,4,5,6,7,8,9,10,11,12],true,[],some 94,[3,8,12,2,2]⟩,⟨[83,94],[0,1,2,3,4,5,6,7,8,9,10,11,12,13],false,[1],some 95,[13,2]⟩,⟨[83,95],[0,1,2,3,4,5,6,7,8,9,10,11,12,13,14],false,[1],some 96,[14,2]⟩,⟨[83,96],[0,1,2,3,4,5,6,7,8,9,10,11,12,13,14,15],false,[1],some 97,[2,15]⟩])],false,77⟩
noncomputable def fx78 : FX := ⟨17389,18,Tryz.f78.body.getD .skip,Tryz.f78.results.toList,[],false,78⟩
noncomputable def fx79 : FX := ⟨17179886351,53,Tryz.f79.body.getD .skip,Tryz.f79.results.toList,[(4,[⟨[9],[],false,[0],some 18,[]⟩,⟨[1],[],false,[0],some 19,[]⟩,⟨[18,19],[0,1],false,[0],some 20,[0,1]⟩,⟨[20],[0,1,2],false,[0],some 21,[2]⟩,⟨[3,21],[0,1,2,3],false,[0],some 22,[3]⟩,⟨[0,21],[0,1,2,3],false,[0],some 23,[3]⟩,⟨[9,21],[0,1,2,3],false,[0],some 24,[3]⟩,⟨[21,23,24],[0,1,2,3,5,6],false,[0],some 25,[5,6,3]⟩,⟨[21,25],[0,1,2,3,5,6,7],false,[0],some 26,[7,3]⟩,⟨[0,21],[0,1,2,3],false,[0],some 27,[3]⟩,⟨[9,21],[0,1,2,3],false,[0],some 28,[3]⟩,⟨[21,28],[0,1,2,3,10],false,[0],some 29,[10,3]⟩,⟨[21,27,29],[0,1,2,3,9,10,11],false,[0],some 30,[9,11,3]⟩,⟨[21,30],[0,1,2,3,9,10,11,12],false,[0],some 31,[12,3]⟩,⟨[21,22,26,31],[0,1,2,3,4,5,6,7,8,9,10,11,12,13],true,[],some 32,[4,8,13,3,3]⟩,⟨[21,32],[0,1,2,3,4,5,6,7,8,9,10,11,12,13,14],false,[1],some 33,[14,3]⟩,⟨[21,33],[0,1,2,3,4,5,6,7,8,9,10,11,12,13,14,15],false,[1],some 34,[3,15]⟩]),
  (6,[⟨[0],[],false,[0],some 37,[]⟩,⟨[9],[],false,[0],some 38,[]⟩,⟨[0],[],false,[0,1],some 39,[]⟩,⟨[9],[],false,[0,1],some 40,[]⟩,⟨[40],[3],false,[0,1],some 41,[3]⟩,⟨[0],[],false,[0],some 42,[]⟩,⟨[9],[],false,[0],some 43,[]⟩,⟨[43],[6],false,[0],some 44,[6]⟩,⟨[42,44],[5,6,7],false,[0],some 45,[5,7]⟩,⟨[45],[5,6,7,8],false,[0],some 46,[8]⟩,⟨[0],[],false,[0],some 47,[]⟩,⟨[9],[],false,[0],some 48,[]⟩,⟨[47,48],[10,11],false,[0],some 49,[10,11]⟩,⟨[49],[10,11,12],false,[0],some 50,[12]⟩,⟨[37,38],[0,1,5,6,7,8,9,10,11,12,13],false,[0],some 51,[0,1,0,1,5,6,7,8,9,13]⟩,⟨[46,51],[0,1,5,6,7,8,9,10,11,12,13,14],true,[],none,[14,9,0,1,5,6,7,8,9,13]⟩,⟨[39,41],[0,1,2,3,4,5,6,7,8,9,10,11,12,13,14,15],false,[1],some 52,[2,4,0,1,2,3,4,5,6,7,8,9,10,11,12,13,14,15]⟩,⟨[50,52],[0,1,2,3,4,5,6,7,8,9,10,11,12,13,14,15,16],true,[],none,[16,13,15,0,1,2,3,4,5,6,7,8,9,10,11,12,13,14,15]⟩])],false,79⟩
noncomputable def fx87 : FX := ⟨19,19,Tryz.f87.body.getD .skip,Tryz.f87.results.toList,[],false,87⟩
noncomputable def fx88 : FX := ⟨17179886351,53,Tryz.f88.body.getD .skip,Tryz.f88.results.toList,[(4,[⟨[9],[],false,[0],some 18,[]⟩,⟨[1],[],false,[0],some 19,[]⟩,⟨[18,19],[0,1],false,[0],some 20,[0,1]⟩,⟨[20],[0,1,2],false,[0],some 21,[2]⟩,⟨[3,21],[0,1,2,3],false,[0],some 22,[3]⟩,⟨[0,21],[0,1,2,3],false,[0],some 23,[3]⟩,⟨[9,21],[0,1,2,3],false,[0],some 24,[3]⟩,⟨[21,23,24],[0,1,2,3,5,6],false,[0],some 25,[5,6,3]⟩,⟨[21,25],[0,1,2,3,5,6,7],false,[0],some 26,[7,3]⟩,⟨[0,21],[0,1,2,3],false,[0],some 27,[3]⟩,⟨[9,21],[0,1,2,3],false,[0],some 28,[3]⟩,⟨[21,28],[0,1,2,3,10],false,[0],some 29,[10,3]⟩,⟨[21,27,29],[0,1,2,3,9,10,11],false,[0],some 30,[9,11,3]⟩,⟨[21,30],[0,1,2,3,9,10,11,12],false,[0],some 31,[12,3]⟩,⟨[21,22,26,31],[0,1,2,3,4,5,6,7,8,9,10,11,12,13],true,[],some 32,[4,8,13,3,3]⟩,⟨[21,32],[0,1,2,3,4,5,6,7,8,9,10,11,12,13,14],false,[1],some 33,[14,3]⟩,⟨[21,33],[0,1,2,3,4,5,6,7,8,9,10,11,12,13,14,15],false,[1],some 34,[3,15]⟩]),
  (6,[⟨[0],[],false,[0],some 37,[]⟩,⟨[9],[],false,[0],some 38,[]⟩,⟨[0],[],false,[0,1],some 39,[]⟩,⟨[9],[],false,[0,1],some 40,[]⟩,⟨[40],[3],false,[0,1],some 41,[3]⟩,⟨[0],[],false,[0],some 42,[]⟩,⟨[9],[],false,[0],some 43,[]⟩,⟨[43],[6],false,[0],some 44,[6]⟩,⟨[42,44],[5,6,7],false,[0],some 45,[5,7]⟩,⟨[45],[5,6,7,8],false,[0],some 46,[8]⟩,⟨[0],[],false,[0],some 47,[]⟩,⟨[9],[],false,[0],some 48,[]⟩,⟨[47,48],[10,11],false,[0],some 49,[10,11]⟩,⟨[49],[10,11,12],false,[0],some 50,[12]⟩,⟨[37,38],[0,1,5,6,7,8,9,10,11,12,13],false,[0],some 51,[0,1,0,1,5,6,7,8,9,13]⟩,⟨[46,51],[0,1,5,6,7,8,9,10,11,12,13,14],true,[],none,[14,9,0,1,5,6,7,8,9,13]⟩,⟨[39,41],[0,1,2,3,4,5,6,7,8,9,10,11,12,13,14,15],false,[1],some 52,[2,4,0,1,2,3,4,5,6,7,8,9,10,11,12,13,14,15]⟩,⟨[50,52],[0,1,2,3,4,5,6,7,8,9,10,11,12,13,14,15,16],true,[],none,[16,13,15,0,1,2,3,4,5,6,7,8,9,10,11,12,13,14,15]⟩])],false,88⟩
noncomputable def fx101 : FX := ⟨17179886351,53,Tryz.f101.body.getD .skip,Tryz.f101.results.toList,[(4,[⟨[9],[],false,[0],some 18,[]⟩,⟨[1],[],false,[0],some 19,[]⟩,⟨[18,19],[0,1],false,[0],some 20,[0,1]⟩,⟨[20],[0,1,2],false,[0],some 21,[2]⟩,⟨[3,21],[0,1,2,3],false,[0],some 22,[3]⟩,⟨[0,21],[0,1,2,3],false,[0],some 23,[3]⟩,⟨[9,21],[0,1,2,3],false,[0],some 24,[3]⟩,⟨[21,23,24],[0,1,2,3,5,6],false,[0],some 25,[5,6,3]⟩,⟨[21,25],[0,1,2,3,5,6,7],false,[0],some 26,[7,3]⟩,⟨[0,21],[0,1,2,3],false,[0],some 27,[3]⟩,⟨[9,21],[0,1,2,3],false,[0],some 28,[3]⟩,⟨[21,28],[0,1,2,3,10],false,[0],some 29,[10,3]⟩,⟨[21,27,29],[0,1,2,3,9,10,11],false,[0],some 30,[9,11,3]⟩,⟨[21,30],[0,1,2,3,9,10,11,12],false,[0],some 31,[12,3]⟩,⟨[21,22,26,31],[0,1,2,3,4,5,6,7,8,9,10,11,12,13],true,[],some 32,[4,8,13,3,3]⟩,⟨[21,32],[0,1,2,3,4,5,6,7,8,9,10,11,12,13,14],false,[1],some 33,[14,3]⟩,⟨[21,33],[0,1,2,3,4,5,6,7,8,9,10,11,12,13,14,15],false,[1],some 34,[3,15]⟩]),
  (6,[⟨[0],[],false,[0],some 37,[]⟩,⟨[9],[],false,[0],some 38,[]⟩,⟨[0],[],false,[0,1],some 39,[]⟩,⟨[9],[],false,[0,1],some 40,[]⟩,⟨[40],[3],false,[0,1],some 41,[3]⟩,⟨[0],[],false,[0],some 42,[]⟩,⟨[9],[],false,[0],some 43,[]⟩,⟨[43],[6],false,[0],some 44,[6]⟩,⟨[42,44],[5,6,7],false,[0],some 45,[5,7]⟩,⟨[45],[5,6,7,8],false,[0],some 46,[8]⟩,⟨[0],[],false,[0],some 47,[]⟩,⟨[9],[],false,[0],some 48,[]⟩,⟨[47,48],[10,11],false,[0],some 49,[10,11]⟩,⟨[49],[10,11,12],false,[0],some 50,[12]⟩,⟨[37,38],[0,1,5,6,7,8,9,10,11,12,13],false,[0],some 51,[0,1,0,1,5,6,7,8,9,13]⟩,⟨[46,51],[0,1,5,6,7,8,9,10,11,12,13,14],true,[],none,[14,9,0,1,5,6,7,8,9,13]⟩,⟨[39,41],[0,1,2,3,4,5,6,7,8,9,10,11,12,13,14,15],false,[1],some 52,[2,4,0,1,2,3,4,5,6,7,8,9,10,11,12,13,14,15]⟩,⟨[50,52],[0,1,2,3,4,5,6,7,8,9,10,11,12,13,14,15,16],true,[],none,[16,13,15,0,1,2,3,4,5,6,7,8,9,10,11,12,13,14,15]⟩])],false,101⟩
noncomputable def FTab : Tr FT := (.n .none (.n .none (.n .none (.n (.code fx7) (.n (.code fx15) (.n (.code fx31) (.n (.code fx63) .e .e) .e) (.n (.code fx47) (.n (.code fx79) .e .e) .e)) (.n (.code fx23) (.n (.code fx39) .e .e) (.n (.code fx55) (.n (.code fx87) .e .e) .e))) (.n (.code fx11) (.n (.code fx19) (.n (.code fx35) (.n (.code fx67) .e .e) .e) (.n (.code fx51) .e .e)) (.n (.code fx27) (.n (.code fx43) (.n (.code fx75) .e .e) .e) (.n (.code fx59) .e .e)))) (.n (.code fx5) (.n .none (.n (.code fx17) (.n (.code fx33) (.n (.code fx65) .e .e) .e) (.n (.code fx49) .e .e)) (.n (.code fx25) (.n (.code fx41) .e .e) (.n (.code fx57) .e .e))) (.n (.code fx13) (.n (.code fx21) (.n (.code fx37) .e (.n (.code fx101) .e .e)) (.n (.code fx53) .e .e)) (.n (.code fx29) (.n (.code fx45) (.n (.code fx77) .e .e) .e) (.n (.code fx61) .e .e))))) (.n .none (.n (.code fx4) (.n .none (.n (.code fx16) (.n (.code fx32) (.n (.code fx64) .e .e) .e) (.n (.code fx48) .e .e)) (.n (.code fx24) (.n (.code fx40) .e .e) (.n (.code fx56) (.n (.code fx88) .e .e) .e))) (.n (.code fx12) (.n (.code fx20) (.n (.code fx36) .e .e) (.n (.code fx52) .e .e)) (.n (.code fx28) (.n (.code fx44) (.n (.code fx76) .e .e) .e) (.n (.code fx60) .e .e)))) (.n .none (.n (.code fx10) (.n .none (.n (.code fx34) (.n (.code fx66) .e .e) .e) (.n (.code fx50) .e .e)) (.n (.code fx26) (.n (.code fx42) .e .e) (.n (.code fx58) .e .e))) (.n (.code fx14) (.n (.code fx22) (.n (.code fx38) .e .e) (.n (.code fx54) .e .e)) (.n (.code fx30) (.n (.code fx46) (.n (.code fx78) .e .e) .e) (.n (.code fx62) .e .e))))))
noncomputable def FN : Nat → FT := tabOf FTab
end Go.VL
end
section
namespace Go.VL
open Go Go.Proofs

theorem fok4 : FnOk Tryz.prog 4 fx4 := ⟨⟨Tryz.f4, Tryz.func4, by kernel_rfl, by kernel_rfl, by kernel_rfl, by kernel_rfl⟩, by kernel_rfl⟩
theorem fok5 : FnOk Tryz.prog 5 fx5 := ⟨⟨Tryz.f5, Tryz.func5, by kernel_rfl, by kernel_rfl, by kernel_rfl, by kernel_rfl⟩, by kernel_rfl⟩
theorem fok7 : FnOk Tryz.prog 7 fx7 := ⟨⟨Tryz.f7, Tryz.func7, by kernel_rfl, by kernel_rfl, by kernel_rfl, by kernel_rfl⟩, by kernel_rfl⟩
theorem fok10 : FnOk Tryz.prog 10 fx10 := ⟨⟨Tryz.f10, Tryz.func10, by kernel_rfl, by kernel_rfl, by kernel_rfl, by kernel_rfl⟩, by kernel_rfl⟩
theorem fok11 : FnOk Tryz.prog 11 fx11 := ⟨⟨Tryz.f11, Tryz.func11, by kernel_rfl, by kernel_rfl, by kernel_rfl, by kernel_rfl⟩, by kernel_rfl⟩
theorem fok12 : FnOk Tryz.prog 12 fx12 := ⟨⟨Tryz.f12, Tryz.func12, by kernel_rfl, by kernel_rfl, by kernel_rfl, by kernel_rfl⟩, by kernel_rfl⟩
theorem fok13 : FnOk Tryz.prog 13 fx13 := ⟨⟨Tryz.f13, Tryz.func13, by kernel_rfl, by kernel_rfl, by kernel_rfl, by kernel_rfl⟩, by kernel_rfl⟩
theorem fok14 : FnOk Tryz.prog 14 fx14 := ⟨⟨Tryz.f14, Tryz.func14, by kernel_rfl, by kernel_rfl, by kernel_rfl, by kernel_rfl⟩, by kernel_rfl⟩
theorem fok15 : FnOk Tryz.prog 15 fx15 := ⟨⟨Tryz.f15, Tryz.func15, by kernel_rfl, by kernel_rfl, by kernel_rfl, by kernel_rfl⟩, by kernel_rfl⟩
theorem fok16 : FnOk Tryz.prog 16 fx16 := ⟨⟨Tryz.f16, Tryz.func16, by kernel_rfl, by kernel_rfl, by kernel_rfl, by kernel_rfl⟩, by kernel_rfl⟩
theorem fok17 : FnOk Tryz.prog 17 fx17 := ⟨⟨Tryz.f17, Tryz.func17, by kernel_rfl, by kernel_rfl, by kernel_rfl, by kernel_rfl⟩, by kernel_rfl⟩
theorem fok19 : FnOk Tryz.prog 19 fx19 := ⟨⟨Tryz.f19, Tryz.func19, by kernel_rfl, by kernel_rfl, by kernel_rfl, by kernel_rfl⟩, by kernel_rfl⟩
theorem fok20 : FnOk Tryz.prog 20 fx20 := ⟨⟨Tryz.f20, Tryz.func20, by kernel_rfl, by kernel_rfl, by kernel_rfl, by kernel_rfl⟩, by kernel_rfl⟩
theorem fok21 : FnOk Tryz.prog 21 fx21 := ⟨⟨Tryz.f21, Tryz.func21, by kernel_rfl, by kernel_rfl, by kernel_rfl, by kernel_rfl⟩, by kernel_rfl⟩
theorem fok22 : FnOk Tryz.prog 22 fx22 := ⟨⟨Tryz.f22, Tryz.func22, by kernel_rfl, by kernel_rfl, by kernel_rfl, by kernel_rfl⟩, by kernel_rfl⟩
theorem fok23 : FnOk Tryz.prog 23 fx23 := ⟨⟨Tryz.f23, Tryz.func23, by kernel_rfl, by kernel_rfl, by kernel_rfl, by kernel_rfl⟩, by kernel_rfl⟩
theorem fok24 : FnOk Tryz.prog 24 fx24 := ⟨⟨Tryz.f24, Tryz.func24, by kernel_rfl, by kernel_rfl, by kernel_rfl, by kernel_rfl⟩, by kernel_rfl⟩
theorem fok25 : FnOk Tryz.prog 25 fx25 := ⟨⟨Tryz.f25, Tryz.func25, by kernel_rfl, by kernel_rfl, by kernel_rfl, by kernel_rfl⟩, by kernel_rfl⟩
theorem fok26 : FnOk Tryz.prog 26 fx26 := ⟨⟨Tryz.f26, Tryz.func26, by kernel_rfl, by kernel_rfl, by kernel_rfl, by kernel_rfl⟩, by kernel_rfl⟩
theorem fok27 : FnOk Tryz.prog 27 fx27 := ⟨⟨Tryz.f27, Tryz.func27, by kernel_rfl, by kernel_rfl, by kernel_rfl, by kernel_rfl⟩, by kernel_rfl⟩
theorem fok28 : FnOk Tryz.prog 28 fx28 := ⟨⟨Tryz.f28, Tryz.func28, by kernel_rfl, by kernel_rfl, by kernel_rfl, by kernel_rfl⟩, by kernel_rfl⟩
theorem fok29 : FnOk Tryz.prog 29 fx29 := ⟨⟨Tryz.f29, Tryz.func29, by kernel_rfl, by kernel_rfl, by kernel_rfl, by kernel_rfl⟩, by kernel_rfl⟩
theorem fok30 : FnOk Tryz.prog 30 fx30 := ⟨⟨Tryz.f30, Tryz.func30, by kernel_rfl, by kernel_rfl, by kernel_rfl, by kernel_rfl⟩, by kernel_rfl⟩
theorem fok31 : FnOk Tryz.prog 31 fx31 := ⟨⟨Tryz.f31, Tryz.func31, by kernel_rfl, by kernel_rfl, by kernel_rfl, by kernel_rfl⟩, by kernel_rfl⟩
theorem fok32 : FnOk Tryz.prog 32 fx32 := ⟨⟨Tryz.f32, Tryz.func32, by kernel_rfl, by kernel_rfl, by kernel_rfl, by kernel_rfl⟩, by kernel_rfl⟩
theorem fok33 : FnOk Tryz.prog 33 fx33 := ⟨⟨Tryz.f33, Tryz.func33, by kernel_rfl, by kernel_rfl, by kernel_rfl, by kernel_rfl⟩, by kernel_rfl⟩
theorem fok34 : FnOk Tryz.prog 34 fx34 := ⟨⟨Tryz.f34, Tryz.func34, by kernel_rfl, by kernel_rfl, by kernel_rfl, by kernel_rfl⟩, by kernel_rfl⟩
theorem fok35 : FnOk Tryz.prog 35 fx35 := ⟨⟨Tryz.f35, Tryz.func35, by kernel_rfl, by kernel_rfl, by kernel_rfl, by kernel_rfl⟩, by kernel_rfl⟩
theorem fok36 : FnOk Tryz.prog 36 fx36 := ⟨⟨Tryz.f36, Tryz.func36, by kernel_rfl, by kernel_rfl, by kernel_rfl, by kernel_rfl⟩, by kernel_rfl⟩
theorem fok37 : FnOk Tryz.prog 37 fx37 := ⟨⟨Tryz.f37, Tryz.func37, by kernel_rfl, by kernel_rfl, by kernel_rfl, by kernel_rfl⟩, by kernel_rfl⟩
theorem fok38 : FnOk Tryz.prog 38 fx38 := ⟨⟨Tryz.f38, Tryz.func38, by kernel_rfl, by kernel_rfl, by kernel_rfl, by kernel_rfl⟩, by kernel_rfl⟩
theorem fok39 : FnOk Tryz.prog 39 fx39 := ⟨⟨Tryz.f39, Tryz.func39, by kernel_rfl, by kernel_rfl, by kernel_rfl, by kernel_rfl⟩, by kernel_rfl⟩
theorem fok40 : FnOk Tryz.prog 40 fx40 := ⟨⟨Tryz.f40, Tryz.func40, by kernel_rfl, by kernel_rfl, by kernel_rfl, by kernel_rfl⟩, by kernel_rfl⟩
theorem fok41 : FnOk Tryz.prog 41 fx41 := ⟨⟨Tryz.f41, Tryz.func41, by kernel_rfl, by kernel_rfl, by kernel_rfl, by kernel_rfl⟩, by kernel_rfl⟩
theorem fok42 : FnOk Tryz.prog 42 fx42 := ⟨⟨Tryz.f42, Tryz.func42, by kernel_rfl, by kernel_rfl, by kernel_rfl, by kernel_rfl⟩, by kernel_rfl⟩
theorem fok43 : FnOk Tryz.prog 43 fx43 := ⟨⟨Tryz.f43, Tryz.func43, by kernel_rfl, by kernel_rfl, by kernel_rfl, by kernel_rfl⟩, by kernel_rfl⟩
theorem fok44 : FnOk Tryz.prog 44 fx44 := ⟨⟨Tryz.f44, Tryz.func44, by kernel_rfl, by kernel_rfl, by kernel_rfl, by kernel_rfl⟩, by kernel_rfl⟩
theorem fok45 : FnOk Tryz.prog 45 fx45 := ⟨⟨Tryz.f45, Tryz.func45, by kernel_rfl, by kernel_rfl, by kernel_rfl, by kernel_rfl⟩, by kernel_rfl⟩
theorem fok46 : FnOk Tryz.prog 46 fx46 := ⟨⟨Tryz.f46, Tryz.func46, by kernel_rfl, by kernel_rfl, by kernel_rfl, by kernel_rfl⟩, by kernel_rfl⟩
theorem fok47 : FnOk Tryz.prog 47 fx47 := ⟨⟨Tryz.f47, Tryz.func47, by kernel_rfl, by kernel_rfl, by kernel_rfl, by kernel_rfl⟩, by kernel_rfl⟩
theorem fok48 : FnOk Tryz.prog 48 fx48 := ⟨⟨Tryz.f48, Tryz.func48, by kernel_rfl, by kernel_rfl, by kernel_rfl, by kernel_rfl⟩, by kernel_rfl⟩
theorem fok49 : FnOk Tryz.prog 49 fx49 := ⟨⟨Tryz.f49, Tryz.func49, by kernel_rfl, by kernel_rfl, by kernel_rfl, by kernel_rfl⟩, by kernel_rfl⟩
theorem fok50 : FnOk Tryz.prog 50 fx50 := ⟨⟨Tryz.f50, Tryz.func50, by kernel_rfl, by kernel_rfl, by kernel_rfl, by kernel_rfl⟩, by kernel_rfl⟩
theorem fok51 : FnOk Tryz.prog 51 fx51 := ⟨⟨Tryz.f51, Tryz.func51, by kernel_rfl, by kernel_rfl, by kernel_rfl, by kernel_rfl⟩, by kernel_rfl⟩
theorem fok52 : FnOk Tryz.prog 52 fx52 := ⟨⟨Tryz.f52, Tryz.func52, by kernel_rfl, by kernel_rfl, by kernel_rfl, by kernel_rfl⟩, by kernel_rfl⟩
theorem fok53 : FnOk Tryz.prog 53 fx53 := ⟨⟨Tryz.f53, Tryz.func53, by kernel_rfl, by kernel_rfl, by kernel_rfl, by kernel_rfl⟩, by kernel_rfl⟩
theorem fok54 : FnOk Tryz.prog 54 fx54 := ⟨⟨Tryz.f54, Tryz.func54, by kernel_rfl, by kernel_rfl, by kernel_rfl, by kernel_rfl⟩, by kernel_rfl⟩
theorem fok55 : FnOk Tryz.prog 55 fx55 := ⟨⟨Tryz.f55, Tryz.func55, by kernel_rfl, by kernel_rfl, by kernel_rfl, by kernel_rfl⟩, by kernel_rfl⟩
theorem fok56 : FnOk Tryz.prog 56 fx56 := ⟨⟨Tryz.f56, Tryz.func56, by kernel_rfl, by kernel_rfl, by kernel_rfl, by kernel_rfl⟩, by kernel_rfl⟩
theorem fok57 : FnOk Tryz.prog 57 fx57 := ⟨⟨Tryz.f57, Tryz.func57, by kernel_rfl, by kernel_rfl, by kernel_rfl, by kernel_rfl⟩, by kernel_rfl⟩
theorem fok58 : FnOk Tryz.prog 58 fx58 := ⟨⟨Tryz.f58, Tryz.func58, by kernel_rfl, by kernel_rfl, by kernel_rfl, by kernel_rfl⟩, by kernel_rfl⟩
theorem fok59 : FnOk Tryz.prog 59 fx59 := ⟨⟨Tryz.f59, Tryz.func59, by kernel_rfl, by kernel_rfl, by kernel_rfl, by kernel_rfl⟩, by kernel_rfl⟩
theorem fok60 : FnOk Tryz.prog 60 fx60 := ⟨⟨Tryz.f60, Tryz.func60, by kernel_rfl, by kernel_rfl, by kernel_rfl, by kernel_rfl⟩, by kernel_rfl⟩
theorem fok61 : FnOk Tryz.prog 61 fx61 := ⟨⟨Tryz.f61, Tryz.func61, by kernel_rfl, by kernel_rfl, by kernel_rfl, by kernel_rfl⟩, by kernel_rfl⟩
theorem fok62 : FnOk Tryz.prog 62 fx62 := ⟨⟨Tryz.f62, Tryz.func62, by kernel_rfl, by kernel_rfl, by kernel_rfl, by kernel_rfl⟩, by kernel_rfl⟩
theorem fok63 : FnOk Tryz.prog 63 fx63 := ⟨⟨Tryz.f63, Tryz.func63, by kernel_rfl, by kernel_rfl, by kernel_rfl, by kernel_rfl⟩, by kernel_rfl⟩
theorem fok64 : FnOk Tryz.prog 64 fx64 := ⟨⟨Tryz.f64, Tryz.func64, by kernel_rfl, by kernel_rfl, by kernel_rfl, by kernel_rfl⟩, by kernel_rfl⟩
theorem fok65 : FnOk Tryz.prog 65 fx65 := ⟨⟨Tryz.f65, Tryz.func65, by kernel_rfl, by kernel_rfl, by kernel_rfl, by kernel_rfl⟩, by kernel_rfl⟩
theorem fok66 : FnOk Tryz.prog 66 fx66 := ⟨⟨Tryz.f66, Tryz.func66, by kernel_rfl, by kernel_rfl, by kernel_rfl, by kernel_rfl⟩, by kernel_rfl⟩
theorem fok67 : FnOk Tryz.prog 67 fx67 := ⟨⟨Tryz.f67, Tryz.func67, by kernel_rfl, by kernel_rfl, by kernel_rfl, by kernel_rfl⟩, by kernel_rfl⟩
theorem fok75 : FnOk Tryz.prog 75 fx75 := ⟨⟨Tryz.f75, Tryz.func75, by kernel_rfl, by kernel_rfl, by kernel_rfl, by kernel_rfl⟩, by kernel_rfl⟩
theorem fok76 : FnOk Tryz.prog 76 fx76 := ⟨⟨Tryz.f76, Tryz.func76, by kernel_rfl, by kernel_rfl, by kernel_rfl, by kernel_rfl⟩, by kernel_rfl⟩
theorem fok77 : FnOk Tryz.prog 77 fx77 := ⟨⟨Tryz.f77, Tryz.func77, by kernel_rfl, by kernel_rfl, by kernel_rfl, by kernel_rfl⟩, by kernel_rfl⟩
theorem fok78 : FnOk Tryz.prog 78 fx78 := ⟨⟨Tryz.f78, Tryz.func78, by kernel_rfl, by kernel_rfl, by kernel_rfl, by kernel_rfl⟩, by kernel_rfl⟩
theorem fok79 : FnOk Tryz.prog 79 fx79 := ⟨⟨Tryz.f79, Tryz.func79, by kernel_rfl, by kernel_rfl, by kernel_rfl, by kernel_rfl⟩, by kernel_rfl⟩
theorem fok87 : FnOk Tryz.prog 87 fx87 := ⟨⟨Tryz.f87, Tryz.func87, by kernel_rfl, by kernel_rfl, by kernel_rfl, by kernel_rfl⟩, by kernel_rfl⟩
theorem fok88 : FnOk Tryz.prog 88 fx88 := ⟨⟨Tryz.f88, Tryz.func88, by kernel_rfl, by kernel_rfl, by kernel_rfl, by kernel_rfl⟩, by kernel_rfl⟩
theorem fok101 : FnOk Tryz.prog 101 fx101 := ⟨⟨Tryz.f101, Tryz.func101, by kernel_rfl, by kernel_rfl, by kernel_rfl, by kernel_rfl⟩, by kernel_rfl⟩
theorem tabOkT : TrAll (FtOk Tryz.prog) FTab (fun j => j) := ⟨trivial, ⟨trivial, ⟨trivial, ⟨fok7, ⟨fok15, ⟨fok31, ⟨fok63, trivial, trivial⟩, trivial⟩, ⟨fok47, ⟨fok79, trivial, trivial⟩, trivial⟩⟩, ⟨fok23, ⟨fok39, trivial, trivial⟩, ⟨fok55, ⟨fok87, trivial, trivial⟩, trivial⟩⟩⟩, ⟨fok11, ⟨fok19, ⟨fok35, ⟨fok67, trivial, trivial⟩, trivial⟩, ⟨fok51, trivial, trivial⟩⟩, ⟨fok27, ⟨fok43, ⟨fok75, trivial, trivial⟩, trivial⟩, ⟨fok59, trivial, trivial⟩⟩⟩⟩, ⟨fok5, ⟨trivial, ⟨fok17, ⟨fok33, ⟨fok65, trivial, trivial⟩, trivial⟩, ⟨fok49, trivial, trivial⟩⟩, ⟨fok25, ⟨fok41, trivial, trivial⟩, ⟨fok57, trivial, trivial⟩⟩⟩, ⟨fok13, ⟨fok21, ⟨fok37, trivial, ⟨fok101, trivial, trivial⟩⟩, ⟨fok53, trivial, trivial⟩⟩, ⟨fok29, ⟨fok45, ⟨fok77, trivial, trivial⟩, trivial⟩, ⟨fok61, trivial, trivial⟩⟩⟩⟩⟩, ⟨trivial, ⟨fok4, ⟨trivial, ⟨fok16, ⟨fok32, ⟨fok64, trivial, trivial⟩, trivial⟩, ⟨fok48, trivial, trivial⟩⟩, ⟨fok24, ⟨fok40, trivial, trivial⟩, ⟨fok56, ⟨fok88, trivial, trivial⟩, trivial⟩⟩⟩, ⟨fok12, ⟨fok20, ⟨fok36, trivial, trivial⟩, ⟨fok52, trivial, trivial⟩⟩, ⟨fok28, ⟨fok44, ⟨fok76, trivial, trivial⟩, trivial⟩, ⟨fok60, trivial, trivial⟩⟩⟩⟩, ⟨trivial, ⟨fok10, ⟨trivial, ⟨fok34, ⟨fok66, trivial, trivial⟩, trivial⟩, ⟨fok50, trivial, trivial⟩⟩, ⟨fok26, ⟨fok42, trivial, trivial⟩, ⟨fok58, trivial, trivial⟩⟩⟩, ⟨fok14, ⟨fok22, ⟨fok38, trivial, trivial⟩, ⟨fok54, trivial, trivial⟩⟩, ⟨fok30, ⟨fok46, ⟨fok78, trivial, trivial⟩, trivial⟩, ⟨fok62, trivial, trivial⟩⟩⟩⟩⟩⟩
theorem tabOk : TabOk Tryz.prog FN := tabOf_ok tabOkT
theorem layOkT : TrAll (fun t (i : Option TI) => ∀ x, i = some x → TOk Tryz.prog t x) TTab (fun j => j) := ⟨(fun _ h => by cases h), ⟨(fun _ h => by cases h), ⟨(fun _ h => by cases h; exact tok3), ⟨(fun _ h => by cases h), ⟨(fun _ h => by cases h), ⟨(fun _ h => by cases h; exact tok31), ⟨(fun _ h => by cases h; exact tok63), trivial, trivial⟩, trivial⟩, ⟨(fun _ h => by cases h), ⟨(fun _ h => by cases h; exact tok79), trivial, trivial⟩, trivial⟩⟩, ⟨(fun _ h => by cases h; exact tok23), trivial, ⟨(fun _ h => by cases h; exact tok55), ⟨(fun _ h => by cases h; exact tok87), trivial, trivial⟩, trivial⟩⟩⟩, ⟨(fun _ h => by cases h), ⟨(fun _ h => by cases h; exact tok19), ⟨(fun _ h => by cases h; exact tok35), trivial, ⟨(fun _ h => by cases h; exact tok99), trivial, trivial⟩⟩, ⟨(fun _ h => by cases h; exact tok51), trivial, trivial⟩⟩, ⟨(fun _ h => by cases h; exact tok27), ⟨(fun _ h => by cases h), ⟨(fun _ h => by cases h; exact tok75), trivial, trivial⟩, trivial⟩, ⟨(fun _ h => by cases h), ⟨(fun _ h => by cases h), ⟨(fun _ h => by cases h; exact tok155), trivial, trivial⟩, trivial⟩, trivial⟩⟩⟩⟩, ⟨(fun _ h => by cases h; exact tok5), ⟨(fun _ h => by cases h; exact tok9), ⟨(fun _ h => by cases h), ⟨(fun _ h => by cases h; exact tok33), trivial, trivial⟩, ⟨(fun _ h => by cases h), ⟨(fun _ h => by cases h; exact tok81), trivial, trivial⟩, trivial⟩⟩, ⟨(fun _ h => by cases h; exact tok25), ⟨(fun _ h => by cases h), ⟨(fun _ h => by cases h; exact tok73), trivial, trivial⟩, trivial⟩, trivial⟩⟩, ⟨(fun _ h => by cases h; exact tok13), ⟨(fun _ h => by cases h; exact tok21), ⟨(fun _ h => by cases h), trivial, ⟨(fun _ h => by cases h; exact tok101), trivial, trivial⟩⟩, trivial⟩, ⟨(fun _ h => by cases h; exact tok29), ⟨(fun _ h => by cases h), ⟨(fun _ h => by cases h; exact tok77), trivial, trivial⟩, trivial⟩, ⟨(fun _ h => by cases h), ⟨(fun _ h => by cases h; exact tok93), trivial, trivial⟩, trivial⟩⟩⟩⟩⟩, ⟨(fun _ h => by cases h; exact tok2), ⟨(fun _ h => by cases h; exact tok4), ⟨(fun _ h => by cases h), ⟨(fun _ h => by cases h), ⟨(fun _ h => by cases h; exact tok32), trivial, ⟨(fun _ h => by cases h), ⟨(fun _ h => by cases h; exact tok160), trivial, trivial⟩, trivial⟩⟩, ⟨(fun _ h => by cases h; exact tok48), ⟨(fun _ h => by cases h; exact tok80), ⟨(fun _ h => by cases h; exact tok144), trivial, trivial⟩, trivial⟩, trivial⟩⟩, ⟨(fun _ h => by cases h), ⟨(fun _ h => by cases h), ⟨(fun _ h => by cases h; exact tok72), trivial, trivial⟩, trivial⟩, trivial⟩⟩, ⟨(fun _ h => by cases h; exact tok12), ⟨(fun _ h => by cases h), ⟨(fun _ h => by cases h), trivial, ⟨(fun _ h => by cases h; exact tok100), trivial, trivial⟩⟩, ⟨(fun _ h => by cases h), ⟨(fun _ h => by cases h), ⟨(fun _ h => by cases h; exact tok148), trivial, trivial⟩, trivial⟩, trivial⟩⟩, ⟨(fun _ h => by cases h; exact tok28), ⟨(fun _ h => by cases h), ⟨(fun _ h => by cases h; exact tok76), trivial, trivial⟩, trivial⟩, trivial⟩⟩⟩, ⟨(fun _ h => by cases h), ⟨(fun _ h => by cases h), ⟨(fun _ h => by cases h), ⟨(fun _ h => by cases h; exact tok34), ⟨(fun _ h => by cases h), ⟨(fun _ h => by cases h; exact tok130), trivial, trivial⟩, trivial⟩, trivial⟩, ⟨(fun _ h => by cases h), trivial, ⟨(fun _ h => by cases h), ⟨(fun _ h => by cases h; exact tok178), trivial, trivial⟩, trivial⟩⟩⟩, ⟨(fun _ h => by cases h; exact tok26), trivial, ⟨(fun _ h => by cases h; exact tok58), ⟨(fun _ h => by cases h; exact tok90), trivial, trivial⟩, ⟨(fun _ h => by cases h; exact tok122), trivial, trivial⟩⟩⟩⟩, ⟨(fun _ h => by cases h), ⟨(fun _ h => by cases h; exact tok22), trivial, ⟨(fun _ h => by cases h), ⟨(fun _ h => by cases h; exact tok86), trivial, trivial⟩, trivial⟩⟩, ⟨(fun _ h => by cases h; exact tok30), trivial, ⟨(fun _ h => by cases h; exact tok62), ⟨(fun _ h => by cases h; exact tok94), trivial, trivial⟩, trivial⟩⟩⟩⟩⟩⟩
theorem layOkX : LayOk Tryz.prog LX := layOf_ok layOkT
end Go.VL
end
