/- Proved: TreeOwn: whatever tree, root and item come in (together of bulk at most 1048576), the call returns true and they read as they did; no other condition. This text is part 5 of 18. -/
import Derived.Test.YtghomgiklhbjiaaW04
import Derived.Test.YtghomgiklhbjiaaProg
import Derived.KernelRfl
import Derived.Attr
set_option linter.unusedSimpArgs false
set_option linter.unusedVariables false
set_option maxRecDepth 10000
open List renaming all_cons → Cv,all_nil → Do,append_assoc → AR,append_nil → AK,cons_append → Bq,drop_zero → Ch,getElem?_cons_succ → BH,getElem?_cons_zero → AY,getElem?_toArray → Bn,length_append → AP,length_cons → A5,length_nil → Bj,length_replicate → Br,map_cons → Bf,map_nil → BQ,mem_cons → Bh,nil_append → Be,not_mem_nil → Bw,range' → Dz,replicate → AO,set_cons_zero → Dj,take_zero → CF
open Nat renaming add_assoc → C0,add_zero → Bt,le_trans → Bl,mul_one → Dk,reduceLT → Bv,zero_add → Bc
open Option renaming bind_some → C6,map_some → AW
open Int renaming reduceLT → Cq,toNat → Ce,toNat_natCast → Bg
open Bool renaming and_true → Dc,false_eq_true → Bb,not_false → C3,not_true → DO,true_and → Dd
namespace Go.VL
open Go Go.Proofs
open Nat (reduceAdd reduceEqDiff reduceSub reduceMul reduceLeDiff)
abbrev ti2:TI:=⟨false,1,8,.int .i64,.int .i64 0⟩
theorem info2:(Try.prog.info? 2).map (fun i=>(i.size,i.bytes,i.zero))=some (1,8,some (.int .i64 0)):=by kernel_rfl
theorem tok2:TOk Try.prog 2 ti2:=.of_info info2 ⟨rfl,rfl,rfl⟩ rfl ⟨_,Try.underlying2,rfl⟩
abbrev ti3:TI:=⟨false,1,8,.int .i64,.int .i64 0⟩
theorem info3:(Try.prog.info? 3).map (fun i=>(i.size,i.bytes,i.zero))=some (1,8,some (.int .i64 0)):=by kernel_rfl
theorem tok3:TOk Try.prog 3 ti3:=.of_info info3 ⟨rfl,rfl,rfl⟩ rfl ⟨_,Try.underlying3,rfl⟩
abbrev ti4:TI:=⟨false,1,1,.bool,.bool false⟩
theorem info4:(Try.prog.info? 4).map (fun i=>(i.size,i.bytes,i.zero))=some (1,1,some (.bool false)):=by kernel_rfl
theorem tok4:TOk Try.prog 4 ti4:=.of_info info4 ⟨rfl,rfl,rfl⟩ rfl ⟨_,Try.underlying4,rfl⟩
abbrev ti5:TI:=⟨false,1,1,.int .u8,.int .u8 0⟩
theorem info5:(Try.prog.info? 5).map (fun i=>(i.size,i.bytes,i.zero))=some (1,1,some (.int .u8 0)):=by kernel_rfl
theorem tok5:TOk Try.prog 5 ti5:=.of_info info5 ⟨rfl,rfl,rfl⟩ rfl ⟨_,Try.underlying5,rfl⟩
abbrev ti9:TI:=⟨false,1,16,.str,.str ⟨#[]⟩⟩
theorem info9:(Try.prog.info? 9).map (fun i=>(i.size,i.bytes,i.zero))=some (1,16,some (.string ⟨#[]⟩)):=by kernel_rfl
theorem tok9:TOk Try.prog 9 ti9:=.of_info info9 ⟨rfl,rfl,rfl⟩ rfl ⟨_,Try.underlying9,rfl⟩
abbrev ti12:TI:=⟨false,1,8,.int .u64,.int .u64 0⟩
theorem Ar:(Try.prog.info? 12).map (fun i=>(i.size,i.bytes,i.zero))=some (1,8,some (.int .u64 0)):=by kernel_rfl
theorem tok12:TOk Try.prog 12 ti12:=.of_info Ar ⟨rfl,rfl,rfl⟩ rfl ⟨_,Try.underlying12,rfl⟩
abbrev ti13:TI:=⟨false,2,24,.struct [(0,9),(1,12)],.agg [.str ⟨#[]⟩,.int .u64 0]⟩
theorem Aq:(Try.prog.info? 13).map (fun i=>(i.size,i.bytes,i.zero))=some (2,24,some (.agg #[.string ⟨#[]⟩,.int .u64 0])):=by kernel_rfl
theorem tok13:TOk Try.prog 13 ti13:=.of_info Aq ⟨rfl,rfl,rfl⟩ rfl ⟨_,Try.underlying13,_,rfl,rfl⟩
abbrev ti19:TI:=⟨false,1,8,.struct [(0,17)],.agg [.nilp]⟩
theorem Ap:(Try.prog.info? 19).map (fun i=>(i.size,i.bytes,i.zero))=some (1,8,some (.agg #[.pointer none])):=by kernel_rfl
theorem tok19:TOk Try.prog 19 ti19:=.of_info Ap ⟨rfl,rfl,rfl⟩ rfl ⟨_,Try.underlying19,_,rfl,rfl⟩
abbrev ti21:TI:=⟨false,1,4,.int .i32,.int .i32 0⟩
theorem Ao:(Try.prog.info? 21).map (fun i=>(i.size,i.bytes,i.zero))=some (1,4,some (.int .i32 0)):=by kernel_rfl
theorem tok21:TOk Try.prog 21 ti21:=.of_info Ao ⟨rfl,rfl,rfl⟩ rfl ⟨_,Try.underlying21,rfl⟩
abbrev ti22:TI:=⟨false,1,24,.slice 67,.nils⟩
theorem An:(Try.prog.info? 22).map (fun i=>(i.size,i.bytes,i.zero))=some (1,24,some (.slice none 0 0)):=by kernel_rfl
theorem tok22:TOk Try.prog 22 ti22:=.of_info An ⟨rfl,rfl,rfl⟩ rfl ⟨_,Try.underlying22,rfl⟩
abbrev ti23:TI:=⟨false,1,24,.struct [(0,22)],.agg [.nils]⟩
theorem Am:(Try.prog.info? 23).map (fun i=>(i.size,i.bytes,i.zero))=some (1,24,some (.agg #[.slice none 0 0])):=by kernel_rfl
theorem tok23:TOk Try.prog 23 ti23:=.of_info Am ⟨rfl,rfl,rfl⟩ rfl ⟨_,Try.underlying23,_,rfl,rfl⟩
abbrev ti24:TI:=⟨false,1,24,.struct [(0,22)],.agg [.nils]⟩
theorem Al:(Try.prog.info? 24).map (fun i=>(i.size,i.bytes,i.zero))=some (1,24,some (.agg #[.slice none 0 0])):=by kernel_rfl
theorem tok24:TOk Try.prog 24 ti24:=.of_info Al ⟨rfl,rfl,rfl⟩ rfl ⟨_,Try.underlying24,_,rfl,rfl⟩
abbrev ti25:TI:=⟨false,1,8,.int .u64,.int .u64 0⟩
theorem Ak:(Try.prog.info? 25).map (fun i=>(i.size,i.bytes,i.zero))=some (1,8,some (.int .u64 0)):=by kernel_rfl
theorem tok25:TOk Try.prog 25 ti25:=.of_info Ak ⟨rfl,rfl,rfl⟩ rfl ⟨_,Try.underlying25,rfl⟩
abbrev ti26:TI:=⟨false,2,16,.struct [(0,25),(1,25)],.agg [.int .u64 0,.int .u64 0]⟩
theorem Aj:(Try.prog.info? 26).map (fun i=>(i.size,i.bytes,i.zero))=some (2,16,some (.agg #[.int .u64 0,.int .u64 0])):=by kernel_rfl
theorem tok26:TOk Try.prog 26 ti26:=.of_info Aj ⟨rfl,rfl,rfl⟩ rfl ⟨_,Try.underlying26,_,rfl,rfl⟩
abbrev ti27:TI:=⟨true,2,16,.struct [(0,25),(1,25)],.agg [.int .u64 0,.int .u64 0]⟩
theorem Ai:(Try.prog.info? 27).map (fun i=>(i.size,i.bytes,i.zero))=some (2,16,some (.agg #[.int .u64 0,.int .u64 0])):=by kernel_rfl
theorem tok27:TOk Try.prog 27 ti27:=.of_info Ai ⟨rfl,rfl,rfl⟩ rfl ⟨_,Try.underlying27,_,rfl,rfl⟩ fun _=>wZ (by kernel_rfl) (by kernel_rfl) (by kernel_rfl)
abbrev ti29:TI:=⟨false,1,24,.struct [(0,22)],.agg [.nils]⟩
theorem Ah:(Try.prog.info? 29).map (fun i=>(i.size,i.bytes,i.zero))=some (1,24,some (.agg #[.slice none 0 0])):=by kernel_rfl
theorem tok29:TOk Try.prog 29 ti29:=.of_info Ah ⟨rfl,rfl,rfl⟩ rfl ⟨_,Try.underlying29,_,rfl,rfl⟩
abbrev ti31:TI:=⟨false,1,8,.int .i64,.int .i64 0⟩
theorem Ag:(Try.prog.info? 31).map (fun i=>(i.size,i.bytes,i.zero))=some (1,8,some (.int .i64 0)):=by kernel_rfl
theorem tok31:TOk Try.prog 31 ti31:=.of_info Ag ⟨rfl,rfl,rfl⟩ rfl ⟨_,Try.underlying31,rfl⟩
abbrev ti41:TI:=⟨false,1,24,.slice 27,.nils⟩
theorem Af:(Try.prog.info? 41).map (fun i=>(i.size,i.bytes,i.zero))=some (1,24,some (.slice none 0 0)):=by kernel_rfl
theorem tok41:TOk Try.prog 41 ti41:=.of_info Af ⟨rfl,rfl,rfl⟩ rfl ⟨_,Try.underlying41,rfl⟩
abbrev ti46:TI:=⟨false,1,24,.slice 3,.nils⟩
theorem Ae:(Try.prog.info? 46).map (fun i=>(i.size,i.bytes,i.zero))=some (1,24,some (.slice none 0 0)):=by kernel_rfl
theorem tok46:TOk Try.prog 46 ti46:=.of_info Ae ⟨rfl,rfl,rfl⟩ rfl ⟨_,Try.underlying46,rfl⟩
abbrev ti67:TI:=⟨false,1,24,.slice 5,.nils⟩
theorem Ad:(Try.prog.info? 67).map (fun i=>(i.size,i.bytes,i.zero))=some (1,24,some (.slice none 0 0)):=by kernel_rfl
theorem tok67:TOk Try.prog 67 ti67:=.of_info Ad ⟨rfl,rfl,rfl⟩ rfl ⟨_,Try.underlying67,rfl⟩
abbrev ti68:TI:=⟨false,1,8,.pointer 74,.nilp⟩
theorem Ac:(Try.prog.info? 68).map (fun i=>(i.size,i.bytes,i.zero))=some (1,8,some (.pointer none)):=by kernel_rfl
theorem tok68:TOk Try.prog 68 ti68:=.of_info Ac ⟨rfl,rfl,rfl⟩ rfl ⟨_,Try.underlying68,rfl⟩
abbrev ti72:TI:=⟨false,1,8,.map 3 4,.undef⟩
theorem Ab:(Try.prog.info? 72).map (fun i=>(i.size,i.bytes,i.zero))=some (1,8,some (.map none)):=by kernel_rfl
theorem tok72:TOk Try.prog 72 ti72:=.of_info Ab ⟨rfl,rfl,rfl⟩ rfl ⟨_,Try.underlying72,rfl⟩
abbrev ti73:TI:=⟨false,4,64,.struct [(0,29),(1,72),(2,41),(3,3)],.agg [.nils,.undef,.nils,.int .i64 0]⟩
theorem Aa:(Try.prog.info? 73).map (fun i=>(i.size,i.bytes,i.zero))=some (4,64,some (.agg #[.slice none 0 0,.map none,.slice none 0 0,.int .i64 0])):=by kernel_rfl
theorem tok73:TOk Try.prog 73 ti73:=.of_info Aa ⟨rfl,rfl,rfl⟩ rfl ⟨_,Try.underlying73,_,rfl,rfl⟩
abbrev ti74:TI:=⟨false,4,64,.struct [(0,29),(1,72),(2,41),(3,3)],.agg [.nils,.undef,.nils,.int .i64 0]⟩
theorem z9:(Try.prog.info? 74).map (fun i=>(i.size,i.bytes,i.zero))=some (4,64,some (.agg #[.slice none 0 0,.map none,.slice none 0 0,.int .i64 0])):=by kernel_rfl
theorem tok74:TOk Try.prog 74 ti74:=.of_info z9 ⟨rfl,rfl,rfl⟩ rfl ⟨_,Try.underlying74,_,rfl,rfl⟩
abbrev ti81:TI:=⟨false,1,8,.pointer 31,.nilp⟩
theorem z8:(Try.prog.info? 81).map (fun i=>(i.size,i.bytes,i.zero))=some (1,8,some (.pointer none)):=by kernel_rfl
theorem tok81:TOk Try.prog 81 ti81:=.of_info z8 ⟨rfl,rfl,rfl⟩ rfl ⟨_,Try.underlying81,rfl⟩
abbrev ti82:TI:=⟨false,1,8,.pointer 85,.nilp⟩
theorem zZ:(Try.prog.info? 82).map (fun i=>(i.size,i.bytes,i.zero))=some (1,8,some (.pointer none)):=by kernel_rfl
theorem tok82:TOk Try.prog 82 ti82:=.of_info zZ ⟨rfl,rfl,rfl⟩ rfl ⟨_,Try.underlying82,rfl⟩
abbrev ti84:TI:=⟨false,2,32,.struct [(0,29),(1,3)],.agg [.nils,.int .i64 0]⟩
theorem zY:(Try.prog.info? 84).map (fun i=>(i.size,i.bytes,i.zero))=some (2,32,some (.agg #[.slice none 0 0,.int .i64 0])):=by kernel_rfl
theorem tok84:TOk Try.prog 84 ti84:=.of_info zY ⟨rfl,rfl,rfl⟩ rfl ⟨_,Try.underlying84,_,rfl,rfl⟩
abbrev ti85:TI:=⟨false,2,32,.struct [(0,29),(1,3)],.agg [.nils,.int .i64 0]⟩
theorem zX:(Try.prog.info? 85).map (fun i=>(i.size,i.bytes,i.zero))=some (2,32,some (.agg #[.slice none 0 0,.int .i64 0])):=by kernel_rfl
theorem tok85:TOk Try.prog 85 ti85:=.of_info zX ⟨rfl,rfl,rfl⟩ rfl ⟨_,Try.underlying85,_,rfl,rfl⟩
abbrev ti86:TI:=⟨false,1,24,.slice 91,.nils⟩
theorem zW:(Try.prog.info? 86).map (fun i=>(i.size,i.bytes,i.zero))=some (1,24,some (.slice none 0 0)):=by kernel_rfl
theorem tok86:TOk Try.prog 86 ti86:=.of_info zW ⟨rfl,rfl,rfl⟩ rfl ⟨_,Try.underlying86,rfl⟩
abbrev ti90:TI:=⟨false,2,16,.struct [(0,3),(1,25)],.agg [.int .i64 0,.int .u64 0]⟩
theorem zV:(Try.prog.info? 90).map (fun i=>(i.size,i.bytes,i.zero))=some (2,16,some (.agg #[.int .i64 0,.int .u64 0])):=by kernel_rfl
theorem tok90:TOk Try.prog 90 ti90:=.of_info zV ⟨rfl,rfl,rfl⟩ rfl ⟨_,Try.underlying90,_,rfl,rfl⟩
abbrev ti91:TI:=⟨true,2,16,.struct [(0,3),(1,25)],.agg [.int .i64 0,.int .u64 0]⟩
theorem zU:(Try.prog.info? 91).map (fun i=>(i.size,i.bytes,i.zero))=some (2,16,some (.agg #[.int .i64 0,.int .u64 0])):=by kernel_rfl
theorem tok91:TOk Try.prog 91 ti91:=.of_info zU ⟨rfl,rfl,rfl⟩ rfl ⟨_,Try.underlying91,_,rfl,rfl⟩ fun _=>wZ (by kernel_rfl) (by kernel_rfl) (by kernel_rfl)
abbrev ti94:TI:=⟨false,2,48,.struct [(0,41),(1,46)],.agg [.nils,.nils]⟩
theorem zT:(Try.prog.info? 94).map (fun i=>(i.size,i.bytes,i.zero))=some (2,48,some (.agg #[.slice none 0 0,.slice none 0 0])):=by kernel_rfl
theorem tok94:TOk Try.prog 94 ti94:=.of_info zT ⟨rfl,rfl,rfl⟩ rfl ⟨_,Try.underlying94,_,rfl,rfl⟩
abbrev ti95:TI:=⟨false,2,48,.struct [(0,41),(1,46)],.agg [.nils,.nils]⟩
theorem zS:(Try.prog.info? 95).map (fun i=>(i.size,i.bytes,i.zero))=some (2,48,some (.agg #[.slice none 0 0,.slice none 0 0])):=by kernel_rfl
theorem tok95:TOk Try.prog 95 ti95:=.of_info zS ⟨rfl,rfl,rfl⟩ rfl ⟨_,Try.underlying95,_,rfl,rfl⟩
abbrev ti100:TI:=⟨false,1,8,.int .u64,.int .u64 0⟩
theorem yG:(Try.prog.info? 100).map (fun i=>(i.size,i.bytes,i.zero))=some (1,8,some (.int .u64 0)):=by kernel_rfl
theorem tok100:TOk Try.prog 100 ti100:=.of_info yG ⟨rfl,rfl,rfl⟩ rfl ⟨_,Try.underlying100,rfl⟩
abbrev ti101:TI:=⟨false,1,8,.pointer 104,.nilp⟩
theorem yF:(Try.prog.info? 101).map (fun i=>(i.size,i.bytes,i.zero))=some (1,8,some (.pointer none)):=by kernel_rfl
theorem tok101:TOk Try.prog 101 ti101:=.of_info yF ⟨rfl,rfl,rfl⟩ rfl ⟨_,Try.underlying101,rfl⟩
abbrev ti102:TI:=⟨false,1,24,.slice 4,.nils⟩
theorem yE:(Try.prog.info? 102).map (fun i=>(i.size,i.bytes,i.zero))=some (1,24,some (.slice none 0 0)):=by kernel_rfl
theorem tok102:TOk Try.prog 102 ti102:=.of_info yE ⟨rfl,rfl,rfl⟩ rfl ⟨_,Try.underlying102,rfl⟩
abbrev ti103:TI:=⟨false,5,88,.struct [(0,24),(1,102),(2,41),(3,3),(4,4)],.agg [.nils,.nils,.nils,.int .i64 0,.bool false]⟩
theorem yD:(Try.prog.info? 103).map (fun i=>(i.size,i.bytes,i.zero))=some (5,88,some (.agg #[.slice none 0 0,.slice none 0 0,.slice none 0 0,.int .i64 0,.bool false])):=by kernel_rfl
theorem tok103:TOk Try.prog 103 ti103:=.of_info yD ⟨rfl,rfl,rfl⟩ rfl ⟨_,Try.underlying103,_,rfl,rfl⟩
abbrev ti104:TI:=⟨false,5,88,.struct [(0,24),(1,102),(2,41),(3,3),(4,4)],.agg [.nils,.nils,.nils,.int .i64 0,.bool false]⟩
theorem yC:(Try.prog.info? 104).map (fun i=>(i.size,i.bytes,i.zero))=some (5,88,some (.agg #[.slice none 0 0,.slice none 0 0,.slice none 0 0,.int .i64 0,.bool false])):=by kernel_rfl
theorem tok104:TOk Try.prog 104 ti104:=.of_info yC ⟨rfl,rfl,rfl⟩ rfl ⟨_,Try.underlying104,_,rfl,rfl⟩
abbrev ti118:TI:=⟨false,1,8,.pointer 27,.nilp⟩
theorem yB:(Try.prog.info? 118).map (fun i=>(i.size,i.bytes,i.zero))=some (1,8,some (.pointer none)):=by kernel_rfl
theorem tok118:TOk Try.prog 118 ti118:=.of_info yB ⟨rfl,rfl,rfl⟩ rfl ⟨_,Try.underlying118,rfl⟩
abbrev ti119:TI:=⟨false,1,8,.pointer 25,.nilp⟩
theorem yA:(Try.prog.info? 119).map (fun i=>(i.size,i.bytes,i.zero))=some (1,8,some (.pointer none)):=by kernel_rfl
theorem tok119:TOk Try.prog 119 ti119:=.of_info yA ⟨rfl,rfl,rfl⟩ rfl ⟨_,Try.underlying119,rfl⟩
abbrev ti122:TI:=⟨false,1,24,.slice 25,.nils⟩
theorem yz:(Try.prog.info? 122).map (fun i=>(i.size,i.bytes,i.zero))=some (1,24,some (.slice none 0 0)):=by kernel_rfl
theorem tok122:TOk Try.prog 122 ti122:=.of_info yz ⟨rfl,rfl,rfl⟩ rfl ⟨_,Try.underlying122,rfl⟩
abbrev ti123:TI:=⟨false,2,48,.struct [(0,41),(1,46)],.agg [.nils,.nils]⟩
theorem yy:(Try.prog.info? 123).map (fun i=>(i.size,i.bytes,i.zero))=some (2,48,some (.agg #[.slice none 0 0,.slice none 0 0])):=by kernel_rfl
theorem tok123:TOk Try.prog 123 ti123:=.of_info yy ⟨rfl,rfl,rfl⟩ rfl ⟨_,Try.underlying123,_,rfl,rfl⟩
abbrev ti143:TI:=⟨false,1,8,.pointer 91,.nilp⟩
theorem yx:(Try.prog.info? 143).map (fun i=>(i.size,i.bytes,i.zero))=some (1,8,some (.pointer none)):=by kernel_rfl
theorem tok143:TOk Try.prog 143 ti143:=.of_info yx ⟨rfl,rfl,rfl⟩ rfl ⟨_,Try.underlying143,rfl⟩
abbrev ti146:TI:=⟨false,1,4,.int .u32,.int .u32 0⟩
theorem yw:(Try.prog.info? 146).map (fun i=>(i.size,i.bytes,i.zero))=some (1,4,some (.int .u32 0)):=by kernel_rfl
theorem tok146:TOk Try.prog 146 ti146:=.of_info yw ⟨rfl,rfl,rfl⟩ rfl ⟨_,Try.underlying146,rfl⟩
abbrev ti161:TI:=⟨false,1,24,.slice 46,.nils⟩
theorem yv:(Try.prog.info? 161).map (fun i=>(i.size,i.bytes,i.zero))=some (1,24,some (.slice none 0 0)):=by kernel_rfl
theorem tok161:TOk Try.prog 161 ti161:=.of_info yv ⟨rfl,rfl,rfl⟩ rfl ⟨_,Try.underlying161,rfl⟩
abbrev ti165:TI:=⟨false,16,64,.array 16 146,.agg [.int .u32 0,.int .u32 0,.int .u32 0,.int .u32 0,.int .u32 0,.int .u32 0,.int .u32 0,.int .u32 0,.int .u32 0,.int .u32 0,.int .u32 0,.int .u32 0,.int .u32 0,.int .u32 0,.int .u32 0,.int .u32 0]⟩
theorem yu:(Try.prog.info? 165).map (fun i=>(i.size,i.bytes,i.zero))=some (16,64,some (.agg #[.int .u32 0,.int .u32 0,.int .u32 0,.int .u32 0,.int .u32 0,.int .u32 0,.int .u32 0,.int .u32 0,.int .u32 0,.int .u32 0,.int .u32 0,.int .u32 0,.int .u32 0,.int .u32 0,.int .u32 0,.int .u32 0])):=by kernel_rfl
theorem tok165:TOk Try.prog 165 ti165:=.of_info yu ⟨rfl,rfl,rfl⟩ rfl ⟨_,Try.underlying165,rfl⟩
abbrev ti181:TI:=⟨false,1,8,.pointer 5,.nilp⟩
theorem yr:(Try.prog.info? 181).map (fun i=>(i.size,i.bytes,i.zero))=some (1,8,some (.pointer none)):=by kernel_rfl
theorem tok181:TOk Try.prog 181 ti181:=.of_info yr ⟨rfl,rfl,rfl⟩ rfl ⟨_,Try.underlying181,rfl⟩
def L:Lay:=fun t=>match t with
 |2=>some ti2
 |3=>some ti3
 |4=>some ti4
 |5=>some ti5
 |9=>some ti9
 |12=>some ti12
 |13=>some ti13
 |19=>some ti19
 |21=>some ti21
 |22=>some ti22
 |23=>some ti23
 |24=>some ti24
 |25=>some ti25
 |26=>some ti26
 |27=>some ti27
 |29=>some ti29
 |31=>some ti31
 |41=>some ti41
 |46=>some ti46
 |67=>some ti67
 |68=>some ti68
 |72=>some ti72
 |73=>some ti73
 |74=>some ti74
 |81=>some ti81
 |82=>some ti82
 |84=>some ti84
 |85=>some ti85
 |86=>some ti86
 |90=>some ti90
 |91=>some ti91
 |94=>some ti94
 |95=>some ti95
 |100=>some ti100
 |101=>some ti101
 |102=>some ti102
 |103=>some ti103
 |104=>some ti104
 |118=>some ti118
 |119=>some ti119
 |122=>some ti122
 |123=>some ti123
 |143=>some ti143
 |146=>some ti146
 |161=>some ti161
 |165=>some ti165
 |181=>some ti181
 |_=>none
theorem L2:L 2=some ⟨false,1,8,.int .i64,.int .i64 0⟩:=rfl
theorem L3:L 3=some ⟨false,1,8,.int .i64,.int .i64 0⟩:=rfl
theorem L4:L 4=some ⟨false,1,1,.bool,.bool false⟩:=rfl
theorem L5:L 5=some ⟨false,1,1,.int .u8,.int .u8 0⟩:=rfl
theorem L9:L 9=some ⟨false,1,16,.str,.str ⟨#[]⟩⟩:=rfl
theorem L12:L 12=some ⟨false,1,8,.int .u64,.int .u64 0⟩:=rfl
theorem L13:L 13=some ⟨false,2,24,.struct [(0,9),(1,12)],.agg [.str ⟨#[]⟩,.int .u64 0]⟩:=rfl
theorem L19:L 19=some ⟨false,1,8,.struct [(0,17)],.agg [.nilp]⟩:=rfl
theorem L21:L 21=some ⟨false,1,4,.int .i32,.int .i32 0⟩:=rfl
theorem L22:L 22=some ⟨false,1,24,.slice 67,.nils⟩:=rfl
theorem L23:L 23=some ⟨false,1,24,.struct [(0,22)],.agg [.nils]⟩:=rfl
theorem L24:L 24=some ⟨false,1,24,.struct [(0,22)],.agg [.nils]⟩:=rfl
theorem L25:L 25=some ⟨false,1,8,.int .u64,.int .u64 0⟩:=rfl
theorem L26:L 26=some ⟨false,2,16,.struct [(0,25),(1,25)],.agg [.int .u64 0,.int .u64 0]⟩:=rfl
theorem L27:L 27=some ⟨true,2,16,.struct [(0,25),(1,25)],.agg [.int .u64 0,.int .u64 0]⟩:=rfl
theorem L29:L 29=some ⟨false,1,24,.struct [(0,22)],.agg [.nils]⟩:=rfl
theorem L31:L 31=some ⟨false,1,8,.int .i64,.int .i64 0⟩:=rfl
theorem L41:L 41=some ⟨false,1,24,.slice 27,.nils⟩:=rfl
theorem L46:L 46=some ⟨false,1,24,.slice 3,.nils⟩:=rfl
theorem L67:L 67=some ⟨false,1,24,.slice 5,.nils⟩:=rfl
theorem L68:L 68=some ⟨false,1,8,.pointer 74,.nilp⟩:=rfl
theorem L72:L 72=some ⟨false,1,8,.map 3 4,.undef⟩:=rfl
theorem L73:L 73=some ⟨false,4,64,.struct [(0,29),(1,72),(2,41),(3,3)],.agg [.nils,.undef,.nils,.int .i64 0]⟩:=rfl
theorem L74:L 74=some ⟨false,4,64,.struct [(0,29),(1,72),(2,41),(3,3)],.agg [.nils,.undef,.nils,.int .i64 0]⟩:=rfl
theorem L81:L 81=some ⟨false,1,8,.pointer 31,.nilp⟩:=rfl
theorem L82:L 82=some ⟨false,1,8,.pointer 85,.nilp⟩:=rfl
theorem L84:L 84=some ⟨false,2,32,.struct [(0,29),(1,3)],.agg [.nils,.int .i64 0]⟩:=rfl
theorem L85:L 85=some ⟨false,2,32,.struct [(0,29),(1,3)],.agg [.nils,.int .i64 0]⟩:=rfl
theorem L86:L 86=some ⟨false,1,24,.slice 91,.nils⟩:=rfl
theorem L90:L 90=some ⟨false,2,16,.struct [(0,3),(1,25)],.agg [.int .i64 0,.int .u64 0]⟩:=rfl
theorem L91:L 91=some ⟨true,2,16,.struct [(0,3),(1,25)],.agg [.int .i64 0,.int .u64 0]⟩:=rfl
theorem L94:L 94=some ⟨false,2,48,.struct [(0,41),(1,46)],.agg [.nils,.nils]⟩:=rfl
theorem L95:L 95=some ⟨false,2,48,.struct [(0,41),(1,46)],.agg [.nils,.nils]⟩:=rfl
theorem L100:L 100=some ⟨false,1,8,.int .u64,.int .u64 0⟩:=rfl
theorem L101:L 101=some ⟨false,1,8,.pointer 104,.nilp⟩:=rfl
theorem L102:L 102=some ⟨false,1,24,.slice 4,.nils⟩:=rfl
theorem L103:L 103=some ⟨false,5,88,.struct [(0,24),(1,102),(2,41),(3,3),(4,4)],.agg [.nils,.nils,.nils,.int .i64 0,.bool false]⟩:=rfl
theorem L104:L 104=some ⟨false,5,88,.struct [(0,24),(1,102),(2,41),(3,3),(4,4)],.agg [.nils,.nils,.nils,.int .i64 0,.bool false]⟩:=rfl
theorem L118:L 118=some ⟨false,1,8,.pointer 27,.nilp⟩:=rfl
theorem L119:L 119=some ⟨false,1,8,.pointer 25,.nilp⟩:=rfl
theorem L122:L 122=some ⟨false,1,24,.slice 25,.nils⟩:=rfl
theorem L123:L 123=some ⟨false,2,48,.struct [(0,41),(1,46)],.agg [.nils,.nils]⟩:=rfl
theorem L143:L 143=some ⟨false,1,8,.pointer 91,.nilp⟩:=rfl
theorem L146:L 146=some ⟨false,1,4,.int .u32,.int .u32 0⟩:=rfl
theorem L161:L 161=some ⟨false,1,24,.slice 46,.nils⟩:=rfl
theorem L165:L 165=some ⟨false,16,64,.array 16 146,.agg [.int .u32 0,.int .u32 0,.int .u32 0,.int .u32 0,.int .u32 0,.int .u32 0,.int .u32 0,.int .u32 0,.int .u32 0,.int .u32 0,.int .u32 0,.int .u32 0,.int .u32 0,.int .u32 0,.int .u32 0,.int .u32 0]⟩:=rfl
theorem L181:L 181=some ⟨false,1,8,.pointer 5,.nilp⟩:=rfl
theorem ae:af Try.prog L:=by
 intro t i h
 unfold L at h
 split at h<;>first
  |(cases h;done)
  |(cases h;exact tok2)
  |(cases h;exact tok3)
  |(cases h;exact tok4)
  |(cases h;exact tok5)
  |(cases h;exact tok9)
  |(cases h;exact tok12)
  |(cases h;exact tok13)
  |(cases h;exact tok19)
  |(cases h;exact tok21)
  |(cases h;exact tok22)
  |(cases h;exact tok23)
  |(cases h;exact tok24)
  |(cases h;exact tok25)
  |(cases h;exact tok26)
  |(cases h;exact tok27)
  |(cases h;exact tok29)
  |(cases h;exact tok31)
  |(cases h;exact tok41)
  |(cases h;exact tok46)
  |(cases h;exact tok67)
  |(cases h;exact tok68)
  |(cases h;exact tok72)
  |(cases h;exact tok73)
  |(cases h;exact tok74)
  |(cases h;exact tok81)
  |(cases h;exact tok82)
  |(cases h;exact tok84)
  |(cases h;exact tok85)
  |(cases h;exact tok86)
  |(cases h;exact tok90)
  |(cases h;exact tok91)
  |(cases h;exact tok94)
  |(cases h;exact tok95)
  |(cases h;exact tok100)
  |(cases h;exact tok101)
  |(cases h;exact tok102)
  |(cases h;exact tok103)
  |(cases h;exact tok104)
  |(cases h;exact tok118)
  |(cases h;exact tok119)
  |(cases h;exact tok122)
  |(cases h;exact tok123)
  |(cases h;exact tok143)
  |(cases h;exact tok146)
  |(cases h;exact tok161)
  |(cases h;exact tok165)
  |(cases h;exact tok181)
theorem ao:Try.prog.follows .mixedOrders=true:=by kernel_rfl
attribute [go_sem] og mQ vn List.range_zero rng1 rng2 rng3 rng4 beq_self_eq_true Dc Dd fi gd Op.plain sop bU mop eqM fp dh kc ne gt taM gp vo nc ju qP jf bV ev eX ji lk up upo io ci un AW Option.map_none C6 if_true if_false Bn AY BH Bool.true_beq Bool.false_beq DO C3 Bb ap aY cx bP bL decide_true decide_false Bf BQ and_self and_true true_and Bool.and_self Bc Bt Dk Ch CF TD.isAgg bg dQ e9 en dD ck bi gD cF bA Cv Do ak aL ay gV AR AP C0 List.set_cons_succ Dj AK List.drop_succ_cons List.drop_nil List.take_succ_cons List.take_nil Bg DV.cells DV.full DV.one A5 Bj Be Bq lC qu rst List.getD_cons_zero List.getD_cons_succ Bh Bw or_false false_or forall_eq forall_eq_or_imp List.isEmpty_cons List.isEmpty_nil false_imp_iff imp_self implies_true
abbrev rg:=Dz
theorem sA{C:Ctx}{L:Lay}{N:Nat}{st:St}{K:XE→St→Prop} (hL:af C.P L) (hn:C.n=N){id:Nat}{ops:Array Oper}{y:Code} (hd:cm N ops.toList=true)
 (h:match fi L ops ops.toList st with|some ([],st')=>SW C y st' K|some (o::r,st')=>aa C ops (o::r) st' (ap C y K)|none=>False):SW C (.seq (.region id ops false) y) st K:=SW.rs hL (by rw[hn];exact hd) h
theorem sB{C:Ctx}{L:Lay}{N:Nat}{st:St}{K:XE→St→Prop} (hL:af C.P L) (hn:C.n=N){id:Nat}{ops:Array Oper} (hd:cm N ops.toList=true)
 (h:match fi L ops ops.toList st with|some ([],st')=>K .normal st'|some (o::r,st')=>aa C ops (o::r) st' K|none=>False):SW C (.region id ops false) st K:=SW.re hL (by rw[hn];exact hd) h
theorem sC{C:Ctx}{ops:Array Oper}{st:St}{K:XE→St→Prop} (h:K .normal st):aa C ops [] st K:=aa.nil h
theorem sD{C:Ctx}{x y:Code}{st:St}{K:XE→St→Prop} (h:SW C x st (ap C y K)):SW C (.seq x y) st K:=SW.seq h
theorem sE{C:Ctx}{id:Nat}{c:Code}{st:St}{K:XE→St→Prop} (h:SW C c st (aY id K)):SW C (.block id c) st K:=SW.block h
theorem sF{C:Ctx}{st:St}{K:XE→St→Prop}{c:Operand}{x y:Code} (hc:ev st.env c=.bool true) (h:SW C x st K):SW C (.cond c x y) st K:=SW.ct hc h
theorem sG{C:Ctx}{st:St}{K:XE→St→Prop}{c:Operand}{x y:Code} (hc:ev st.env c=.bool false) (h:SW C y st K):SW C (.cond c x y) st K:=SW.cf hc h
theorem sH{C:Ctx}{st:St}{K:XE→St→Prop} (h:K .normal st):SW C .skip st K:=SW.skip h
theorem sI{C:Ctx}{id:Nat}{st:St}{K:XE→St→Prop} (h:K (.exit id) st):SW C (.exit id) st K:=SW.exit h
theorem sJ{C:Ctx}{st:St}{K:XE→St→Prop} (h:K .ret st):SW C .ret st K:=SW.ret h
def nrm (C:Ctx) (st:St) (K:XE→St→Prop):Code→Option Prop
 |.seq x y=>some (SW C x st (ap C y K))
 |.block id c=>some (SW C c st (aY id K))
 |.cond o x y=>match ev st.env o with
  |.bool true=>some (SW C x st K)
  |.bool false=>some (SW C y st K)
  |_=>none
 |.skip=>some (K .normal st)
 |.exit id=>some (K (.exit id) st)
 |.ret=>some (K .ret st)
 |_=>none
theorem sN{C:Ctx}{c:Code}{st:St}{K:XE→St→Prop}{P:Prop} (e:nrm C st K c=some P) (h:P):SW C c st K:=by
 cases c with
 |seq x y=>cases e;exact SW.seq h
 |block id c=>cases e;exact SW.block h
 |cond o x y=>
  simp only[nrm] at e
  split at e
  ·cases e;exact SW.ct (by assumption) h
  ·cases e;exact SW.cf (by assumption) h
  ·cases e
 |skip=>cases e;exact SW.skip h
 |exit id=>cases e;exact SW.exit h
 |ret=>cases e;exact SW.ret h
 |_=>cases e
theorem sK{C:Ctx}{P:Program}{L:Lay}{N:Nat}{ops:Array Oper}{rest:List Oper}{o:Oper}{st:St}{K:XE→St→Prop}{g:Operand}{xs:Array Operand}{ts:Array TypeId}{f:FuncId}{args caps:List DV}{d:DV}{σ':List Ob}
  (hP:C.P=P) (hL:af C.P L) (hn:C.n=N) (h1:cm N [o]=true) (h2:cm N rest=true) (hok:Ok P f args st.ob (.ret d) σ') (hg:gd ops st.env o=some true) (ho:o.op=.call {callee:=.value g,args:=xs,argTypes:=ts}) (hf:ev st.env g=.fn f caps)
  (ha:xs.toList.map (ev st.env)++caps=args) (h:match fi L ops rest ⟨upo st.env o.dst d,σ'⟩ with|some (r,st')=>aa C ops r st' K|none=>False):aa C ops (o::rest) st K:=
 aa.callx hP (by rw[hn];exact h1) hok hg ho hf ha (aa.go hL (by rw[hn];exact h2) h)
theorem sM{C:Ctx}{L:Lay}{N:Nat} (hL:af C.P L) (hm:C.P.follows .mixedOrders=true) (hn:C.n=N){id:Nat}{l:List Oper}{st:St}{K:XE→St→Prop} (I:List DI) (φ:List (List Ob)) (hφ:φ.getD 0 []=st.ob)
 (hA:l.map (fun o=>(o.dst,fc o))=I.map fun D:DI=>(D.dst,D.dir)) (hF:m8 I N=true) (h:dgo C L l.toArray φ K I 0 l st.env):SW C (.region id l.toArray true) st K:=SW.draw hL hm I φ hφ hA (by rw[hn];exact hF) h
theorem sL{C:Ctx}{L:Lay}{N:Nat} (hL:af C.P L) (hm:C.P.follows .mixedOrders=true) (hn:C.n=N){id:Nat}{l:List Oper}{st:St}{K:XE→St→Prop}{y:Code} (I:List DI) (φ:List (List Ob)) (hφ:φ.getD 0 []=st.ob)
 (hA:l.map (fun o=>(o.dst,fc o))=I.map fun D:DI=>(D.dst,D.dir)) (hF:m8 I N=true) (h:dgo C L l.toArray φ (ap C y K) I 0 l st.env):SW C (.seq (.region id l.toArray true) y) st K:=SW.dr hL hm I φ hφ hA (by rw[hn];exact hF) h
attribute [go_sem] L2 L3 L4 L5 L9 L12 L13 L19 L21 L22 L23 L24 L25 L26 L27 L29 L31 L41 L46 L67 L68 L72 L73 L74 L81 L82 L84 L85 L86 L90 L91 L94 L95 L100 L101 L102 L103 L104 L118 L119 L122 L123 L143 L146 L161 L165 L181
def TTab:Tr (Option TI):=(.n none (.n none (.n (some ti3) (.n none (.n none (.n (some ti31) .e (.n (some ti95) .e .e)) (.n none (.n none (.n (some ti143) .e .e) .e) .e)) (.n (some ti23) (.n none .e (.n (some ti103) .e .e)) (.n none .e (.n (some ti119) .e .e)))) (.n none (.n (some ti19) (.n none (.n (some ti67) .e .e) .e) .e) (.n (some ti27) .e (.n none (.n (some ti91) .e .e) (.n (some ti123) .e .e))))) (.n (some ti5) (.n (some ti9) (.n none (.n none .e (.n none (.n (some ti161) .e .e) .e)) (.n none (.n (some ti81) .e .e) .e)) (.n (some ti25) (.n (some ti41) (.n (some ti73) .e .e) .e) .e)) (.n (some ti13) (.n (some ti21) (.n none .e (.n (some ti101) (.n (some ti165) .e .e) .e)) (.n none (.n (some ti85) .e .e) (.n none (.n (some ti181) .e .e) .e))) (.n (some ti29) .e .e)))) (.n (some ti2) (.n (some ti4) (.n none .e (.n (some ti24) (.n none (.n (some ti72) .e .e) (.n (some ti104) .e .e)) .e)) (.n (some ti12) (.n none (.n none (.n (some ti68) .e .e) (.n (some ti100) .e .e)) (.n none (.n (some ti84) .e .e) .e)) .e)) (.n none (.n none (.n none .e (.n none (.n (some ti82) (.n (some ti146) .e .e) .e) .e)) (.n (some ti26) (.n none (.n (some ti74) .e .e) .e) (.n none (.n (some ti90) .e .e) (.n (some ti122) .e .e)))) (.n none (.n (some ti22) (.n none .e (.n (some ti102) .e .e)) (.n none (.n (some ti86) .e .e) (.n (some ti118) .e .e))) (.n none (.n (some ti46) .e .e) (.n none (.n (some ti94) .e .e) .e))))))
noncomputable def LX:Lay:=wJ TTab
noncomputable def fx5:FX:=⟨134223871,58,Try.f5.body.getD .skip,Try.f5.results.toList,[],false,5⟩
noncomputable def fx7:FX:=⟨17391,26,Try.f7.body.getD .skip,Try.f7.results.toList,[],false,7⟩
noncomputable def fx12:FX:=⟨1141962202911,51,Try.f12.body.getD .skip,Try.f12.results.toList,[],false,12⟩
noncomputable def fx14:FX:=⟨2162295799,39,Try.f14.body.getD .skip,Try.f14.results.toList,[],false,14⟩
noncomputable def fx17:FX:=⟨5,4,Try.f17.body.getD .skip,Try.f17.results.toList,[],false,17⟩
noncomputable def fx20:FX:=⟨87,14,Try.f20.body.getD .skip,Try.f20.results.toList,[],false,20⟩
noncomputable def fx23:FX:=⟨2233383526175,51,Try.f23.body.getD .skip,Try.f23.results.toList,[(11,[⟨[11],[],false,[0],some 46,[]⟩,⟨[46],[0],false,[0],some 47,[0]⟩,⟨[47],[0,1],false,[0],some 48,[1]⟩,⟨[48],[0,1,2],false,[0],some 49,[2]⟩,⟨[9],[],false,[0,1],some 50,[]⟩,⟨[8,49],[0,1,2,3],true,[],none,[3,0,1,2,3]⟩,⟨[9,50],[0,1,2,3,4,5],true,[],none,[4,5,0,1,2,3,4,5]⟩,⟨[10],[0,1,2,3,4,5,6],true,[],none,[6,0,1,2,3,4,5,6]⟩])],false,23⟩
noncomputable def fx24:FX:=⟨8251,26,Try.f24.body.getD .skip,Try.f24.results.toList,[],false,24⟩
noncomputable def fx25:FX:=⟨4194419,26,Try.f25.body.getD .skip,Try.f25.results.toList,[],false,25⟩
noncomputable def fx26:FX:=⟨383123885930096062271794698053396311827682563515776783,224,Try.f26.body.getD .skip,Try.f26.results.toList,[(9,[⟨[0],[],false,[0],some 45,[]⟩,⟨[1],[],false,[0],some 46,[]⟩,⟨[45,46],[0,1],false,[0],some 47,[0,1]⟩,⟨[47],[0,1,2],false,[0],some 48,[2]⟩,⟨[3],[],false,[0],some 49,[]⟩,⟨[49],[4],false,[0],some 50,[4]⟩,⟨[48,50],[0,1,2,3,4,5],false,[0],some 51,[3,5]⟩,⟨[0],[],false,[0],some 52,[]⟩,⟨[2],[],false,[0],some 53,[]⟩,⟨[52,53],[7,8],false,[0],some 54,[7,8]⟩,⟨[54],[7,8,9],false,[0],some 55,[9]⟩,⟨[51,55],[0,1,2,3,4,5,6,7,8,9,10],false,[0],some 56,[6,10]⟩,⟨[56],[0,1,2,3,4,5,6,7,8,9,10,11],false,[0],some 10,[11,0,1,2,3,4,5,6,7,8,9,10,11]⟩]),
 (13,[⟨[11],[],false,[0],some 73,[]⟩,⟨[1],[],false,[0],some 74,[]⟩,⟨[3],[],false,[0],some 75,[]⟩,⟨[75],[2],false,[0],some 76,[2]⟩,⟨[74,76],[1,2,3],false,[0],some 77,[1,3]⟩,⟨[73,77],[0,1,2,3,4],false,[0],some 78,[0,4]⟩,⟨[0],[],false,[0],some 79,[]⟩,⟨[2],[],false,[0],some 80,[]⟩,⟨[79,80],[6,7],false,[0],some 81,[6,7]⟩,⟨[78,81],[0,1,2,3,4,5,6,7,8],true,[],some 82,[5,8]⟩]),
 (18,[⟨[12],[],false,[0],some 98,[]⟩,⟨[1],[],false,[0],some 99,[]⟩,⟨[3],[],false,[0],some 100,[]⟩,⟨[100],[2],false,[0],some 101,[2]⟩,⟨[99,101],[1,2,3],false,[0],some 102,[1,3]⟩,⟨[98,102],[0,1,2,3,4],false,[0],some 103,[0,4]⟩,⟨[0],[],false,[0],some 104,[]⟩,⟨[2],[],false,[0],some 105,[]⟩,⟨[104,105],[6,7],false,[0],some 106,[6,7]⟩,⟨[103,106],[0,1,2,3,4,5,6,7,8],true,[],some 107,[5,8]⟩]),
 (22,[⟨[12],[],false,[0],some 121,[]⟩,⟨[1],[],false,[0],some 122,[]⟩,⟨[3],[],false,[0],some 123,[]⟩,⟨[123],[2],false,[0],some 124,[2]⟩,⟨[122,124],[1,2,3],false,[0],some 125,[1,3]⟩,⟨[121,125],[0,1,2,3,4],false,[0],some 126,[0,4]⟩,⟨[0],[],false,[0],some 127,[]⟩,⟨[2],[],false,[0],some 128,[]⟩,⟨[127,128],[6,7],false,[0],some 129,[6,7]⟩,⟨[126,129],[0,1,2,3,4,5,6,7,8],true,[],some 130,[5,8]⟩]),
 (27,[⟨[12],[],false,[0],some 150,[]⟩,⟨[1],[],false,[0],some 151,[]⟩,⟨[2],[],false,[0],some 152,[]⟩,⟨[150,151,152],[0,1,2],false,[0],some 153,[0,1,2]⟩,⟨[3],[],false,[0],some 154,[]⟩,⟨[13],[],false,[0],some 155,[]⟩,⟨[154,155],[4,5],false,[0],some 156,[4,5]⟩,⟨[153,156],[0,1,2,3,4,5,6],true,[],some 157,[3,6]⟩]),
 (28,[⟨[12],[],false,[0],some 158,[]⟩,⟨[0],[],false,[0],some 159,[]⟩,⟨[159],[1],false,[0],some 160,[1]⟩,⟨[158,160],[0,1,2],false,[0],some 161,[0,2]⟩,⟨[3],[],false,[0],some 162,[]⟩,⟨[13],[],false,[0],some 163,[]⟩,⟨[162,163],[4,5],false,[0],some 164,[4,5]⟩,⟨[161,164],[0,1,2,3,4,5,6],true,[],some 165,[3,6]⟩]),
 (32,[⟨[12],[],false,[0],some 179,[]⟩,⟨[0],[],false,[0],some 180,[]⟩,⟨[180],[1],false,[0],some 181,[1]⟩,⟨[179,181],[0,1,2],false,[0],some 182,[0,2]⟩,⟨[3],[],false,[0],some 183,[]⟩,⟨[13],[],false,[0],some 184,[]⟩,⟨[183,184],[4,5],false,[0],some 185,[4,5]⟩,⟨[182,185],[0,1,2,3,4,5,6],true,[],some 186,[3,6]⟩]),
 (33,[⟨[12],[],false,[0],some 187,[]⟩,⟨[1],[],false,[0],some 188,[]⟩,⟨[2],[],false,[0],some 189,[]⟩,⟨[187,188,189],[0,1,2],false,[0],some 190,[0,1,2]⟩,⟨[3],[],false,[0],some 191,[]⟩,⟨[13],[],false,[0],some 192,[]⟩,⟨[191,192],[4,5],false,[0],some 193,[4,5]⟩,⟨[190,193],[0,1,2,3,4,5,6],true,[],some 194,[3,6]⟩]),
 (38,[⟨[12],[],false,[0],some 211,[]⟩,⟨[1],[],false,[0],some 212,[]⟩,⟨[3],[],false,[0],some 213,[]⟩,⟨[213],[2],false,[0],some 214,[2]⟩,⟨[212,214],[1,2,3],false,[0],some 215,[1,3]⟩,⟨[211,215],[0,1,2,3,4],false,[0],some 216,[0,4]⟩,⟨[12],[],false,[0],some 217,[]⟩,⟨[1],[],false,[0],some 218,[]⟩,⟨[14],[],false,[0],some 219,[]⟩,⟨[218,219],[7,8],false,[0],some 220,[7,8]⟩,⟨[217,220],[6,7,8,9],false,[0],some 221,[6,9]⟩,⟨[216,221],[0,1,2,3,4,5,6,7,8,9,10],true,[],some 222,[5,10]⟩])],false,26⟩
noncomputable def fx27:FX:=⟨295147905181504570311,95,Try.f27.body.getD .skip,Try.f27.results.toList,[(11,[⟨[9],[],false,[0],some 46,[]⟩,⟨[1],[],false,[0],some 47,[]⟩,⟨[7],[],false,[0],some 48,[]⟩,⟨[47,48],[1,2],false,[0],some 49,[1,2]⟩,⟨[46,49],[0,1,2,3],false,[0],some 50,[0,3]⟩,⟨[0],[],false,[0],some 51,[]⟩,⟨[1],[],false,[0],some 52,[]⟩,⟨[51,52],[5,6],false,[0],some 53,[5,6]⟩,⟨[50,53],[0,1,2,3,4,5,6,7],true,[],some 54,[4,7]⟩]),
 (15,[⟨[0],[],false,[0],some 69,[]⟩,⟨[1],[],false,[0],some 70,[]⟩,⟨[7],[],false,[0],some 71,[]⟩,⟨[70,71],[1,2],false,[0],some 72,[1,2]⟩,⟨[69,72],[0,1,2,3],false,[0],some 73,[0,3]⟩,⟨[0],[],false,[0],some 74,[]⟩,⟨[1],[],false,[0],some 75,[]⟩,⟨[74,75],[5,6],false,[0],some 76,[5,6]⟩,⟨[73,76],[0,1,2,3,4,5,6,7],true,[],some 77,[4,7]⟩])],false,27⟩
noncomputable def fx29:FX:=⟨131127,22,Try.f29.body.getD .skip,Try.f29.results.toList,[],false,29⟩
noncomputable def fx35:FX:=⟨23,6,Try.f35.body.getD .skip,Try.f35.results.toList,[],false,35⟩
noncomputable def fx36:FX:=⟨4211,17,Try.f36.body.getD .skip,Try.f36.results.toList,[],false,36⟩
noncomputable def fx37:FX:=⟨15391,25,Try.f37.body.getD .skip,Try.f37.results.toList,[(5,[⟨[1],[],false,[0,1],some 17,[]⟩,⟨[17],[0],false,[0,1],some 18,[0]⟩,⟨[3],[],false,[0,1],some 19,[]⟩,⟨[4],[],false,[0],some 20,[]⟩,⟨[20],[3],true,[],some 21,[3]⟩,⟨[18,19],[0,1,2,3,4],false,[1],some 22,[1,2,0,1,2,3,4]⟩,⟨[21,22],[0,1,2,3,4,5],true,[],none,[5,4,4,0,1,2,3,4]⟩])],false,37⟩
noncomputable def fx38:FX:=⟨255,21,Try.f38.body.getD .skip,Try.f38.results.toList,[(3,[⟨[4],[],false,[0,1,2],some 8,[]⟩,⟨[2],[],false,[0],some 9,[]⟩,⟨[5],[],false,[0],some 10,[]⟩,⟨[10],[2],false,[0],some 11,[2]⟩,⟨[9,11],[1,2,3],true,[],some 12,[1,3]⟩,⟨[5],[],false,[0,1],some 13,[]⟩,⟨[13],[5],false,[0,1],some 14,[5]⟩,⟨[14],[5,6],false,[0,1],some 15,[6]⟩,⟨[15],[5,6,7],false,[0,1],some 16,[7]⟩,⟨[12,16],[1,2,3,4,5,6,7,8],false,[1],some 17,[4,8]⟩,⟨[17],[1,2,3,4,5,6,7,8,9],true,[],some 18,[9]⟩,⟨[8,18],[0,1,2,3,4,5,6,7,8,9,10],true,[],some 19,[0,10,4]⟩,⟨[4,19],[0,1,2,3,4,5,6,7,8,9,10,11],true,[],none,[11,11,0,1,2,3,4,5,6,7,8,9,10,11]⟩])],false,38⟩
noncomputable def fx39:FX:=⟨4797306451037836558127,80,Try.f39.body.getD .skip,Try.f39.results.toList,[],false,39⟩
noncomputable def fx40:FX:=⟨67141631,48,Try.f40.body.getD .skip,Try.f40.results.toList,[(11,[⟨[4],[],false,[0,1,2],some 36,[]⟩,⟨[2],[],false,[0],some 37,[]⟩,⟨[6],[],false,[0],some 38,[]⟩,⟨[37,38],[1,2],true,[],some 39,[1,2]⟩,⟨[5],[],false,[0,1],some 40,[]⟩,⟨[40],[4],false,[0,1],some 41,[4]⟩,⟨[41],[4,5],false,[0,1],some 42,[5]⟩,⟨[42],[4,5,6],false,[0,1],some 43,[6]⟩,⟨[39,43],[1,2,3,4,5,6,7],false,[1],some 44,[3,7]⟩,⟨[44],[1,2,3,4,5,6,7,8],true,[],some 45,[8]⟩,⟨[36,45],[0,1,2,3,4,5,6,7,8,9],true,[],some 46,[0,9,3]⟩,⟨[4,46],[0,1,2,3,4,5,6,7,8,9,10],true,[],none,[10,10,0,1,2,3,4,5,6,7,8,9,10]⟩])],false,40⟩
noncomputable def fx41:FX:=⟨270007,23,Try.f41.body.getD .skip,Try.f41.results.toList,[],false,41⟩
noncomputable def fx43:FX:=⟨3,10,Try.f43.body.getD .skip,Try.f43.results.toList,[],false,43⟩
noncomputable def fx44:FX:=⟨269427,22,Try.f44.body.getD .skip,Try.f44.results.toList,[],false,44⟩
noncomputable def fx45:FX:=⟨11,4,Try.f45.body.getD .skip,Try.f45.results.toList,[],false,45⟩
noncomputable def fx46:FX:=⟨35,8,Try.f46.body.getD .skip,Try.f46.results.toList,[],false,46⟩
noncomputable def fx47:FX:=⟨1427954799464422225010664082803083521651108895,164,Try.f47.body.getD .skip,Try.f47.results.toList,[(7,[⟨[3],[],false,[0],some 72,[]⟩,⟨[72],[0],false,[0],some 73,[0]⟩,⟨[73],[0,1],false,[0],some 74,[1]⟩,⟨[13,74],[0,1,2],false,[0],some 75,[2]⟩,⟨[74,75],[0,1,2,3],false,[0],some 76,[3,2]⟩,⟨[3,74],[0,1,2],false,[0],some 77,[2]⟩,⟨[74,77],[0,1,2,5],false,[0],some 78,[5,2]⟩,⟨[74,78],[0,1,2,5,6],false,[0],some 79,[6,2]⟩,⟨[74,76,79],[0,1,2,3,4,5,6,7],false,[0],some 80,[4,7,2]⟩,⟨[74,80],[0,1,2,3,4,5,6,7,8],false,[0],some 81,[2,8]⟩,⟨[81],[0,1,2,3,4,5,6,7,8,9],false,[0],some 82,[9,2]⟩,⟨[4,82],[0,1,2,3,4,5,6,7,8,9,10],false,[0],some 83,[10]⟩,⟨[82,83],[0,1,2,3,4,5,6,7,8,9,10,11],false,[0],some 84,[11,10]⟩,⟨[82,84],[0,1,2,3,4,5,6,7,8,9,10,11,12],false,[0],some 85,[12,10,10]⟩,⟨[13,85],[0,1,2,3,4,5,6,7,8,9,10,11,12,13],false,[0],some 86,[13]⟩,⟨[85,86],[0,1,2,3,4,5,6,7,8,9,10,11,12,13,14],false,[0],some 87,[14,13]⟩,⟨[4,85],[0,1,2,3,4,5,6,7,8,9,10,11,12,13],false,[0],some 88,[13]⟩,⟨[85,88],[0,1,2,3,4,5,6,7,8,9,10,11,12,13,16],false,[0],some 89,[16,13]⟩,⟨[85,89],[0,1,2,3,4,5,6,7,8,9,10,11,12,13,16,17],false,[0],some 90,[17,13]⟩,⟨[85,87,90],[0,1,2,3,4,5,6,7,8,9,10,11,12,13,14,15,16,17,18],false,[0],some 91,[15,18,13]⟩,⟨[82,85,91],[0,1,2,3,4,5,6,7,8,9,10,11,12,13,14,15,16,17,18,19],false,[0],some 92,[13,19,10]⟩,⟨[82,92],[0,1,2,3,4,5,6,7,8,9,10,11,12,13,14,15,16,17,18,19,20],false,[0],some 93,[10,20]⟩,⟨[93],[0,1,2,3,4,5,6,7,8,9,10,11,12,13,14,15,16,17,18,19,20,21],true,[],some 94,[21,13]⟩]),
 (12,[⟨[0],[],false,[0,1],some 118,[]⟩,⟨[0],[],false,[0],some 119,[]⟩,⟨[119],[1],false,[0],some 120,[1]⟩,⟨[120],[1,2],false,[0],some 121,[2]⟩,⟨[121],[1,2,3],false,[0],some 122,[3]⟩,⟨[10],[],false,[0],some 123,[]⟩,⟨[123],[5],false,[0],some 124,[5]⟩,⟨[122,124],[1,2,3,4,5,6],true,[],some 125,[4,6]⟩,⟨[118],[0,1,2,3,4,5,6,7],false,[1],some 126,[0,0,1,2,3,4,5,6,7]⟩,⟨[126],[0,1,2,3,4,5,6,7,8],false,[1],some 127,[8,0,1,2,3,4,5,6,7]⟩,⟨[125,127],[0,1,2,3,4,5,6,7,8,9],true,[],none,[9,7,7,0,1,2,3,4,5,6,7]⟩])],false,47⟩
noncomputable def fx49:FX:=⟨21,8,Try.f49.body.getD .skip,Try.f49.results.toList,[],false,49⟩
noncomputable def fx50:FX:=⟨21,8,Try.f50.body.getD .skip,Try.f50.results.toList,[],false,50⟩
noncomputable def fx51:FX:=⟨3,6,Try.f51.body.getD .skip,Try.f51.results.toList,[],false,51⟩
noncomputable def fx52:FX:=⟨67371591,30,Try.f52.body.getD .skip,Try.f52.results.toList,[],false,52⟩
noncomputable def fx53:FX:=⟨281476050452507,88,Try.f53.body.getD .skip,Try.f53.results.toList,[(1,[⟨[0],[],false,[0],some 5,[]⟩,⟨[5],[0],false,[0],some 6,[0]⟩,⟨[6],[0,1],false,[0],some 7,[1]⟩,⟨[7],[0,1,2],false,[0],some 8,[2]⟩,⟨[0],[],false,[0],some 9,[]⟩,⟨[9],[4],false,[0],some 10,[4]⟩,⟨[10],[4,5],false,[0],some 11,[5]⟩,⟨[11],[4,5,6],false,[0],some 12,[6]⟩,⟨[12],[4,5,6,7],false,[0],some 13,[7]⟩,⟨[13],[4,5,6,7,8],false,[0],some 14,[8]⟩,⟨[8,14],[0,1,2,3,4,5,6,7,8,9],false,[0],some 15,[3,9]⟩,⟨[15],[0,1,2,3,4,5,6,7,8,9,10],false,[0],some 16,[10]⟩,⟨[0,16],[0,1,2,3,4,5,6,7,8,9,10,11],false,[0],some 17,[11]⟩,⟨[16,17],[0,1,2,3,4,5,6,7,8,9,10,11,12],false,[0],some 18,[12,11]⟩,⟨[16,18],[0,1,2,3,4,5,6,7,8,9,10,11,12,13],false,[0],some 19,[13,11]⟩,⟨[16,19],[0,1,2,3,4,5,6,7,8,9,10,11,12,13,14],false,[0],some 20,[14,11]⟩,⟨[16,20],[0,1,2,3,4,5,6,7,8,9,10,11,12,13,14,15],false,[0],some 21,[15,11]⟩,⟨[0,16],[0,1,2,3,4,5,6,7,8,9,10,11],false,[0],some 22,[11]⟩,⟨[16,22],[0,1,2,3,4,5,6,7,8,9,10,11,17],false,[0],some 23,[17,11]⟩,⟨[16,23],[0,1,2,3,4,5,6,7,8,9,10,11,17,18],false,[0],some 24,[18,11]⟩,⟨[16,24],[0,1,2,3,4,5,6,7,8,9,10,11,17,18,19],false,[0],some 25,[19,11]⟩,⟨[16,21,25],[0,1,2,3,4,5,6,7,8,9,10,11,12,13,14,15,16,17,18,19,20],false,[0],some 26,[16,20,11]⟩,⟨[16,26],[0,1,2,3,4,5,6,7,8,9,10,11,12,13,14,15,16,17,18,19,20,21],false,[0],some 27,[21,11]⟩,⟨[16,27],[0,1,2,3,4,5,6,7,8,9,10,11,12,13,14,15,16,17,18,19,20,21,22],false,[0],some 28,[22,11]⟩,⟨[16,28],[0,1,2,3,4,5,6,7,8,9,10,11,12,13,14,15,16,17,18,19,20,21,22,23],false,[0],some 29,[23,11]⟩,⟨[16,29],[0,1,2,3,4,5,6,7,8,9,10,11,12,13,14,15,16,17,18,19,20,21,22,23,24],false,[0],some 30,[11,24]⟩]),
 (3,[⟨[0],[],false,[0],some 38,[]⟩,⟨[38],[0],false,[0],some 39,[0]⟩,⟨[39],[0,1],false,[0],some 40,[1]⟩,⟨[40],[0,1,2],false,[0],some 41,[2]⟩,⟨[0],[],false,[0],some 42,[]⟩,⟨[42],[4],false,[0],some 43,[4]⟩,⟨[43],[4,5],false,[0],some 44,[5]⟩,⟨[44],[4,5,6],false,[0],some 45,[6]⟩,⟨[45],[4,5,6,7],false,[0],some 46,[7]⟩,⟨[46],[4,5,6,7,8],false,[0],some 47,[8]⟩,⟨[41,47],[0,1,2,3,4,5,6,7,8,9],false,[0],some 48,[3,9]⟩]),
 (6,[⟨[0],[],false,[0,1],some 69,[]⟩,⟨[69],[0],false,[0,1],some 70,[0]⟩,⟨[70],[0,1],false,[0,1],some 71,[1]⟩,⟨[71],[0,1,2],false,[0,1],some 72,[2]⟩,⟨[72],[0,1,2,3],false,[0,1],some 73,[3]⟩,⟨[0],[],false,[0,1],some 74,[]⟩,⟨[74],[5],false,[0,1],some 75,[5]⟩,⟨[75],[5,6],false,[0,1],some 76,[6]⟩,⟨[76],[5,6,7],false,[0,1],some 77,[7]⟩,⟨[3],[],false,[0],some 78,[]⟩,⟨[78],[9],true,[],some 79,[9]⟩,⟨[79],[9,10],false,[1],some 68,[10]⟩,⟨[68],[9,10,11],false,[1],some 80,[11]⟩,⟨[68],[9,10,11],false,[1,2],some 81,[11]⟩,⟨[73,77],[0,1,2,3,4,5,6,7,8,9,10,11,12],false,[1],some 82,[4,8,0,1,2,3,4,5,6,7,8,9,10,11,12]⟩,⟨[80,82],[0,1,2,3,4,5,6,7,8,9,10,11,12,14],true,[],none,[14,12,10,0,1,2,3,4,5,6,7,8,9,10,11,12]⟩])],false,53⟩
noncomputable def fx54:FX:=⟨51,21,Try.f54.body.getD .skip,Try.f54.results.toList,[],false,54⟩
noncomputable def fx55:FX:=⟨69495,32,Try.f55.body.getD .skip,Try.f55.results.toList,[],false,55⟩
noncomputable def fx56:FX:=⟨5903,57,Try.f56.body.getD .skip,Try.f56.results.toList,[(2,[⟨[0],[],false,[0],some 13,[]⟩,⟨[1],[],false,[0],some 14,[]⟩,⟨[2],[],false,[0],some 15,[]⟩,⟨[15],[2],false,[0],some 16,[2]⟩,⟨[14,16],[1,2,3],false,[0],some 17,[1,3]⟩,⟨[17],[1,2,3,4],false,[0],some 18,[4]⟩,⟨[18],[1,2,3,4,5],false,[0],some 19,[5]⟩,⟨[13,19],[0,1,2,3,4,5,6],true,[],some 20,[0,6]⟩,⟨[1],[],false,[0,1],some 21,[]⟩,⟨[2],[],false,[0,1],some 22,[]⟩,⟨[22],[9],false,[0,1],some 23,[9]⟩,⟨[21,23],[8,9,10],false,[0,1],some 24,[8,10]⟩,⟨[24],[8,9,10,11],false,[0,1],some 25,[11]⟩,⟨[25],[8,9,10,11,12],false,[0,1],some 26,[12]⟩,⟨[20,26],[0,1,2,3,4,5,6,7,8,9,10,11,12,13],true,[],some 27,[7,13,7]⟩,⟨[27],[0,1,2,3,4,5,6,7,8,9,10,11,12,13,14],false,[2],some 9,[14,14,0,1,2,3,4,5,6,7,8,9,10,11,12,13,14]⟩]),
 (4,[⟨[0],[],false,[0],some 39,[]⟩,⟨[1],[],false,[0],some 40,[]⟩,⟨[40],[1],false,[0],some 41,[1]⟩,⟨[41],[1,2],false,[0],some 42,[2]⟩,⟨[42],[1,2,3],false,[0],some 43,[3]⟩,⟨[39,43],[0,1,2,3,4],true,[],some 44,[0,4]⟩,⟨[1],[],false,[0,1],some 45,[]⟩,⟨[45],[6],false,[0,1],some 46,[6]⟩,⟨[46],[6,7],false,[0,1],some 47,[7]⟩,⟨[47],[6,7,8],false,[0,1],some 48,[8]⟩,⟨[44,48],[0,1,2,3,4,5,6,7,8,9],true,[],some 49,[5,9,5]⟩,⟨[49],[0,1,2,3,4,5,6,7,8,9,10],false,[2],some 10,[10,10,0,1,2,3,4,5,6,7,8,9,10]⟩])],false,56⟩
noncomputable def fx57:FX:=⟨383123885930096062271794698053396311827682563515776783,224,Try.f57.body.getD .skip,Try.f57.results.toList,[(9,[⟨[0],[],false,[0],some 45,[]⟩,⟨[1],[],false,[0],some 46,[]⟩,⟨[45,46],[0,1],false,[0],some 47,[0,1]⟩,⟨[47],[0,1,2],false,[0],some 48,[2]⟩,⟨[3],[],false,[0],some 49,[]⟩,⟨[49],[4],false,[0],some 50,[4]⟩,⟨[48,50],[0,1,2,3,4,5],false,[0],some 51,[3,5]⟩,⟨[0],[],false,[0],some 52,[]⟩,⟨[2],[],false,[0],some 53,[]⟩,⟨[52,53],[7,8],false,[0],some 54,[7,8]⟩,⟨[54],[7,8,9],false,[0],some 55,[9]⟩,⟨[51,55],[0,1,2,3,4,5,6,7,8,9,10],false,[0],some 56,[6,10]⟩,⟨[56],[0,1,2,3,4,5,6,7,8,9,10,11],false,[0],some 10,[11,0,1,2,3,4,5,6,7,8,9,10,11]⟩]),
 (13,[⟨[11],[],false,[0],some 73,[]⟩,⟨[1],[],false,[0],some 74,[]⟩,⟨[3],[],false,[0],some 75,[]⟩,⟨[75],[2],false,[0],some 76,[2]⟩,⟨[74,76],[1,2,3],false,[0],some 77,[1,3]⟩,⟨[73,77],[0,1,2,3,4],false,[0],some 78,[0,4]⟩,⟨[0],[],false,[0],some 79,[]⟩,⟨[2],[],false,[0],some 80,[]⟩,⟨[79,80],[6,7],false,[0],some 81,[6,7]⟩,⟨[78,81],[0,1,2,3,4,5,6,7,8],true,[],some 82,[5,8]⟩]),
 (18,[⟨[12],[],false,[0],some 98,[]⟩,⟨[1],[],false,[0],some 99,[]⟩,⟨[3],[],false,[0],some 100,[]⟩,⟨[100],[2],false,[0],some 101,[2]⟩,⟨[99,101],[1,2,3],false,[0],some 102,[1,3]⟩,⟨[98,102],[0,1,2,3,4],false,[0],some 103,[0,4]⟩,⟨[0],[],false,[0],some 104,[]⟩,⟨[2],[],false,[0],some 105,[]⟩,⟨[104,105],[6,7],false,[0],some 106,[6,7]⟩,⟨[103,106],[0,1,2,3,4,5,6,7,8],true,[],some 107,[5,8]⟩]),
 (22,[⟨[12],[],false,[0],some 121,[]⟩,⟨[1],[],false,[0],some 122,[]⟩,⟨[3],[],false,[0],some 123,[]⟩,⟨[123],[2],false,[0],some 124,[2]⟩,⟨[122,124],[1,2,3],false,[0],some 125,[1,3]⟩,⟨[121,125],[0,1,2,3,4],false,[0],some 126,[0,4]⟩,⟨[0],[],false,[0],some 127,[]⟩,⟨[2],[],false,[0],some 128,[]⟩,⟨[127,128],[6,7],false,[0],some 129,[6,7]⟩,⟨[126,129],[0,1,2,3,4,5,6,7,8],true,[],some 130,[5,8]⟩]),
 (27,[⟨[12],[],false,[0],some 150,[]⟩,⟨[1],[],false,[0],some 151,[]⟩,⟨[2],[],false,[0],some 152,[]⟩,⟨[150,151,152],[0,1,2],false,[0],some 153,[0,1,2]⟩,⟨[3],[],false,[0],some 154,[]⟩,⟨[13],[],false,[0],some 155,[]⟩,⟨[154,155],[4,5],false,[0],some 156,[4,5]⟩,⟨[153,156],[0,1,2,3,4,5,6],true,[],some 157,[3,6]⟩]),
 (28,[⟨[12],[],false,[0],some 158,[]⟩,⟨[0],[],false,[0],some 159,[]⟩,⟨[159],[1],false,[0],some 160,[1]⟩,⟨[158,160],[0,1,2],false,[0],some 161,[0,2]⟩,⟨[3],[],false,[0],some 162,[]⟩,⟨[13],[],false,[0],some 163,[]⟩,⟨[162,163],[4,5],false,[0],some 164,[4,5]⟩,⟨[161,164],[0,1,2,3,4,5,6],true,[],some 165,[3,6]⟩]),
 (32,[⟨[12],[],false,[0],some 179,[]⟩,⟨[0],[],false,[0],some 180,[]⟩,⟨[180],[1],false,[0],some 181,[1]⟩,⟨[179,181],[0,1,2],false,[0],some 182,[0,2]⟩,⟨[3],[],false,[0],some 183,[]⟩,⟨[13],[],false,[0],some 184,[]⟩,⟨[183,184],[4,5],false,[0],some 185,[4,5]⟩,⟨[182,185],[0,1,2,3,4,5,6],true,[],some 186,[3,6]⟩]),
 (33,[⟨[12],[],false,[0],some 187,[]⟩,⟨[1],[],false,[0],some 188,[]⟩,⟨[2],[],false,[0],some 189,[]⟩,⟨[187,188,189],[0,1,2],false,[0],some 190,[0,1,2]⟩,⟨[3],[],false,[0],some 191,[]⟩,⟨[13],[],false,[0],some 192,[]⟩,⟨[191,192],[4,5],false,[0],some 193,[4,5]⟩,⟨[190,193],[0,1,2,3,4,5,6],true,[],some 194,[3,6]⟩]),
 (38,[⟨[12],[],false,[0],some 211,[]⟩,⟨[1],[],false,[0],some 212,[]⟩,⟨[3],[],false,[0],some 213,[]⟩,⟨[213],[2],false,[0],some 214,[2]⟩,⟨[212,214],[1,2,3],false,[0],some 215,[1,3]⟩,⟨[211,215],[0,1,2,3,4],false,[0],some 216,[0,4]⟩,⟨[12],[],false,[0],some 217,[]⟩,⟨[1],[],false,[0],some 218,[]⟩,⟨[14],[],false,[0],some 219,[]⟩,⟨[218,219],[7,8],false,[0],some 220,[7,8]⟩,⟨[217,220],[6,7,8,9],false,[0],some 221,[6,9]⟩,⟨[216,221],[0,1,2,3,4,5,6,7,8,9,10],true,[],some 222,[5,10]⟩])],false,57⟩
noncomputable def fx58:FX:=⟨3,6,Try.f58.body.getD .skip,Try.f58.results.toList,[],false,58⟩
noncomputable def fx59:FX:=⟨67371591,30,Try.f59.body.getD .skip,Try.f59.results.toList,[],false,59⟩
noncomputable def fx60:FX:=⟨3,14,Try.f60.body.getD .skip,Try.f60.results.toList,[],false,60⟩
noncomputable def fx61:FX:=⟨140739636365821,50,Try.f61.body.getD .skip,Try.f61.results.toList,[],false,61⟩
noncomputable def fx63:FX:=⟨18447007988716805503,92,Try.f63.body.getD .skip,Try.f63.results.toList,[],false,63⟩
noncomputable def fx64:FX:=⟨295147905181504570311,95,Try.f64.body.getD .skip,Try.f64.results.toList,[(11,[⟨[9],[],false,[0],some 46,[]⟩,⟨[1],[],false,[0],some 47,[]⟩,⟨[7],[],false,[0],some 48,[]⟩,⟨[47,48],[1,2],false,[0],some 49,[1,2]⟩,⟨[46,49],[0,1,2,3],false,[0],some 50,[0,3]⟩,⟨[0],[],false,[0],some 51,[]⟩,⟨[1],[],false,[0],some 52,[]⟩,⟨[51,52],[5,6],false,[0],some 53,[5,6]⟩,⟨[50,53],[0,1,2,3,4,5,6,7],true,[],some 54,[4,7]⟩]),
 (15,[⟨[0],[],false,[0],some 69,[]⟩,⟨[1],[],false,[0],some 70,[]⟩,⟨[7],[],false,[0],some 71,[]⟩,⟨[70,71],[1,2],false,[0],some 72,[1,2]⟩,⟨[69,72],[0,1,2,3],false,[0],some 73,[0,3]⟩,⟨[0],[],false,[0],some 74,[]⟩,⟨[1],[],false,[0],some 75,[]⟩,⟨[74,75],[5,6],false,[0],some 76,[5,6]⟩,⟨[73,76],[0,1,2,3,4,5,6,7],true,[],some 77,[4,7]⟩])],false,64⟩
noncomputable def fx66:FX:=⟨3,10,Try.f66.body.getD .skip,Try.f66.results.toList,[],false,66⟩
noncomputable def fx67:FX:=⟨269427,22,Try.f67.body.getD .skip,Try.f67.results.toList,[],false,67⟩
noncomputable def fx68:FX:=⟨525,28,Try.f68.body.getD .skip,Try.f68.results.toList,[(3,[⟨[0],[],false,[0],some 14,[]⟩,⟨[2],[],false,[0],some 15,[]⟩,⟨[0],[],false,[0,1],some 16,[]⟩,⟨[3],[],false,[0,1],some 17,[]⟩,⟨[0],[],false,[0],some 18,[]⟩,⟨[3],[],false,[0],some 19,[]⟩,⟨[18,19],[4,5],false,[0],some 20,[4,5]⟩,⟨[20],[4,5,6],false,[0],some 21,[6]⟩,⟨[0],[],false,[0],some 22,[]⟩,⟨[2],[],false,[0],some 23,[]⟩,⟨[22,23],[8,9],false,[0],some 24,[8,9]⟩,⟨[24],[8,9,10],false,[0],some 25,[10]⟩,⟨[14,15],[0,1,4,5,6,7,8,9,10,11],false,[0],some 26,[0,1,0,1,4,5,6,7,11]⟩,⟨[21,26],[0,1,4,5,6,7,8,9,10,11,12],true,[],none,[12,7,0,1,4,5,6,7,11]⟩,⟨[16,17],[0,1,2,3,4,5,6,7,8,9,10,11,12,13],false,[1],some 27,[2,3,0,1,2,3,4,5,6,7,8,9,10,11,12,13]⟩,⟨[25,27],[0,1,2,3,4,5,6,7,8,9,10,11,12,13,14],true,[],none,[14,11,13,0,1,2,3,4,5,6,7,8,9,10,11,12,13]⟩])],false,68⟩
noncomputable def fx69:FX:=⟨2228349,33,Try.f69.body.getD .skip,Try.f69.results.toList,[],false,69⟩
noncomputable def fx70:FX:=⟨126108623704162815,67,Try.f70.body.getD .skip,Try.f70.results.toList,[(1,[⟨[1],[],false,[0],some 9,[]⟩,⟨[9],[0],false,[0],some 10,[0]⟩,⟨[10],[0,1],false,[0],some 11,[1]⟩,⟨[11],[0,1,2],false,[0],some 12,[2]⟩,⟨[1],[],false,[0],some 13,[]⟩,⟨[13],[4],false,[0],some 14,[4]⟩,⟨[14],[4,5],false,[0],some 15,[5]⟩,⟨[15],[4,5,6],false,[0],some 16,[6]⟩,⟨[16],[4,5,6,7],false,[0],some 17,[7]⟩,⟨[12],[0,1,2,3],false,[0],some 3,[3,0,1,2,3]⟩,⟨[17],[0,1,2,3,4,5,6,7,8,9],false,[0],some 4,[8,9,0,1,2,3,4,5,6,7,8,9]⟩]),
 (8,[⟨[2],[],false,[0,1],some 28,[]⟩,⟨[28],[0],false,[0,1],some 29,[0]⟩,⟨[7],[],false,[0,1],some 30,[]⟩,⟨[6],[],false,[0],some 31,[]⟩,⟨[31],[3],true,[],some 32,[3]⟩,⟨[29,30],[0,1,2,3,4],false,[1],some 33,[1,2,0,1,2,3,4]⟩,⟨[33],[0,1,2,3,4,5],false,[1],some 34,[5,0,1,2,3,4]⟩,⟨[32,34],[0,1,2,3,4,5,6],true,[],none,[6,4,4,0,1,2,3,4]⟩]),
 (14,[⟨[2],[],false,[0,1],some 44,[]⟩,⟨[44],[0],false,[0,1],some 45,[0]⟩,⟨[8],[],false,[0,1],some 46,[]⟩,⟨[6],[],false,[0],some 47,[]⟩,⟨[47],[3],true,[],some 48,[3]⟩,⟨[45,46],[0,1,2,3,4],false,[1],some 49,[1,2,0,1,2,3,4]⟩,⟨[49],[0,1,2,3,4,5],false,[1],some 50,[5,0,1,2,3,4]⟩,⟨[48,50],[0,1,2,3,4,5,6],true,[],none,[6,4,4,0,1,2,3,4]⟩]),
 (19,[⟨[2],[],false,[0,1,2],some 57,[]⟩,⟨[57],[0],false,[0,1,2],some 58,[0]⟩,⟨[6],[],false,[0],some 59,[]⟩,⟨[59],[2],true,[],some 60,[2]⟩,⟨[60],[2,3],false,[1],some 61,[3]⟩,⟨[61],[2,3,4],true,[],some 62,[4]⟩,⟨[58,62],[0,1,2,3,4,5],true,[],some 63,[1,5,3]⟩,⟨[2],[0,1,2,3,4,5,6],false,[3],some 64,[0,1,2,3,4,5,6]⟩,⟨[63,64],[0,1,2,3,4,5,6,7],true,[],none,[7,6,6,0,1,2,3,4,5,6]⟩])],false,70⟩
noncomputable def fx71:FX:=⟨19,10,Try.f71.body.getD .skip,Try.f71.results.toList,[],false,71⟩
noncomputable def fx75:FX:=⟨77372368483352792107319551,88,Try.f75.body.getD .skip,Try.f75.results.toList,[(7,[⟨[4],[],false,[0],some 39,[]⟩,⟨[39],[0],false,[0],some 40,[0]⟩,⟨[40],[0,1],false,[0],some 41,[1]⟩,⟨[5,41],[0,1,2],false,[0],some 42,[2]⟩,⟨[41,42],[0,1,2,3],false,[0],some 43,[3,2]⟩,⟨[1,41],[0,1,2],false,[0],some 44,[2]⟩,⟨[41,44],[0,1,2,5],false,[0],some 45,[5,2]⟩,⟨[4,41],[0,1,2],false,[0],some 46,[2]⟩,⟨[41,46],[0,1,2,7],false,[0],some 47,[7,2]⟩,⟨[41,45,47],[0,1,2,5,6,7,8],false,[0],some 48,[6,8,2]⟩,⟨[41,48],[0,1,2,5,6,7,8,9],false,[0],some 49,[9,2]⟩,⟨[41,49],[0,1,2,5,6,7,8,9,10],false,[0],some 50,[10,2]⟩,⟨[41,43,50],[0,1,2,3,4,5,6,7,8,9,10,11],false,[0],some 51,[4,11,2]⟩,⟨[41,51],[0,1,2,3,4,5,6,7,8,9,10,11,12],false,[0],some 52,[2,12]⟩,⟨[52],[0,1,2,3,4,5,6,7,8,9,10,11,12,13],false,[0],some 53,[13,2]⟩,⟨[1,53],[0,1,2,3,4,5,6,7,8,9,10,11,12,13,14],false,[0],some 54,[14]⟩,⟨[53,54],[0,1,2,3,4,5,6,7,8,9,10,11,12,13,14,15],false,[0],some 55,[15,14]⟩,⟨[53,55],[0,1,2,3,4,5,6,7,8,9,10,11,12,13,14,15,16],false,[0],some 56,[16,14]⟩,⟨[53,56],[0,1,2,3,4,5,6,7,8,9,10,11,12,13,14,15,16,17],false,[0],some 57,[17,14]⟩,⟨[53,57],[0,1,2,3,4,5,6,7,8,9,10,11,12,13,14,15,16,17,18],false,[0],some 58,[18,14,14]⟩,⟨[5,58],[0,1,2,3,4,5,6,7,8,9,10,11,12,13,14,15,16,17,18,19],false,[0],some 59,[19]⟩,⟨[58,59],[0,1,2,3,4,5,6,7,8,9,10,11,12,13,14,15,16,17,18,19,20],false,[0],some 60,[20,19]⟩,⟨[58,60],[0,1,2,3,4,5,6,7,8,9,10,11,12,13,14,15,16,17,18,19,20,21],false,[0],some 61,[21,19]⟩,⟨[53,58,61],[0,1,2,3,4,5,6,7,8,9,10,11,12,13,14,15,16,17,18,19,20,21,22],false,[0],some 62,[19,22,14]⟩,⟨[53,62],[0,1,2,3,4,5,6,7,8,9,10,11,12,13,14,15,16,17,18,19,20,21,22,23],false,[0],some 63,[14,23]⟩])],false,75⟩
noncomputable def fx76:FX:=⟨274910414835,45,Try.f76.body.getD .skip,Try.f76.results.toList,[],false,76⟩
noncomputable def fx77:FX:=⟨8243,27,Try.f77.body.getD .skip,Try.f77.results.toList,[],false,77⟩
noncomputable def fx78:FX:=⟨13,16,Try.f78.body.getD .skip,Try.f78.results.toList,[],false,78⟩
noncomputable def fx79:FX:=⟨3,14,Try.f79.body.getD .skip,Try.f79.results.toList,[],false,79⟩
noncomputable def fx80:FX:=⟨4123169785799,54,Try.f80.body.getD .skip,Try.f80.results.toList,[],false,80⟩
noncomputable def fx81:FX:=⟨5,5,Try.f81.body.getD .skip,Try.f81.results.toList,[],false,81⟩
noncomputable def fx82:FX:=⟨55,18,Try.f82.body.getD .skip,Try.f82.results.toList,[],false,82⟩
noncomputable def fx88:FX:=⟨19,9,Try.f88.body.getD .skip,Try.f88.results.toList,[],false,88⟩
noncomputable def fx89:FX:=⟨473964787,40,Try.f89.body.getD .skip,Try.f89.results.toList,[],false,89⟩
noncomputable def fx90:FX:=⟨504373101,36,Try.f90.body.getD .skip,Try.f90.results.toList,[],false,90⟩
noncomputable def fx91:FX:=⟨137506063859,48,Try.f91.body.getD .skip,Try.f91.results.toList,[(9,[⟨[8],[],false,[0,1],some 38,[]⟩,⟨[7],[],false,[0],some 39,[]⟩,⟨[8],[],false,[0],some 40,[]⟩,⟨[39,40],[1,2],false,[0],some 41,[1,2]⟩,⟨[7],[],false,[0],some 42,[]⟩,⟨[8],[],false,[0],some 43,[]⟩,⟨[42,43],[4,5],false,[0],some 44,[4,5]⟩,⟨[41,44],[1,2,3,4,5,6],true,[],some 45,[3,6]⟩,⟨[38,45],[0,1,2,3,4,5,6,7],false,[1],some 46,[0,7]⟩,⟨[46],[0,1,2,3,4,5,6,7,8],false,[1],some 8,[8,7,0,1,2,3,4,5,6,7,8]⟩])],false,91⟩
noncomputable def fx92:FX:=⟨504373101,36,Try.f92.body.getD .skip,Try.f92.results.toList,[],false,92⟩
noncomputable def fx93:FX:=⟨525,28,Try.f93.body.getD .skip,Try.f93.results.toList,[(3,[⟨[0],[],false,[0],some 14,[]⟩,⟨[2],[],false,[0],some 15,[]⟩,⟨[0],[],false,[0,1],some 16,[]⟩,⟨[3],[],false,[0,1],some 17,[]⟩,⟨[0],[],false,[0],some 18,[]⟩,⟨[3],[],false,[0],some 19,[]⟩,⟨[18,19],[4,5],false,[0],some 20,[4,5]⟩,⟨[20],[4,5,6],false,[0],some 21,[6]⟩,⟨[0],[],false,[0],some 22,[]⟩,⟨[2],[],false,[0],some 23,[]⟩,⟨[22,23],[8,9],false,[0],some 24,[8,9]⟩,⟨[24],[8,9,10],false,[0],some 25,[10]⟩,⟨[14,15],[0,1,4,5,6,7,8,9,10,11],false,[0],some 26,[0,1,0,1,4,5,6,7,11]⟩,⟨[21,26],[0,1,4,5,6,7,8,9,10,11,12],true,[],none,[12,7,0,1,4,5,6,7,11]⟩,⟨[16,17],[0,1,2,3,4,5,6,7,8,9,10,11,12,13],false,[1],some 27,[2,3,0,1,2,3,4,5,6,7,8,9,10,11,12,13]⟩,⟨[25,27],[0,1,2,3,4,5,6,7,8,9,10,11,12,13,14],true,[],none,[14,11,13,0,1,2,3,4,5,6,7,8,9,10,11,12,13]⟩])],false,93⟩
noncomputable def fx94:FX:=⟨30899,38,Try.f94.body.getD .skip,Try.f94.results.toList,[],false,94⟩
noncomputable def fx96:FX:=⟨66483,19,Try.f96.body.getD .skip,Try.f96.results.toList,[],false,96⟩
noncomputable def fx98:FX:=⟨1011,30,Try.f98.body.getD .skip,Try.f98.results.toList,[],false,98⟩
noncomputable def fx100:FX:=⟨799,23,Try.f100.body.getD .skip,Try.f100.results.toList,[],false,100⟩
noncomputable def fx102:FX:=⟨115,17,Try.f102.body.getD .skip,Try.f102.results.toList,[],false,102⟩
noncomputable def fx103:FX:=⟨16371,51,Try.f103.body.getD .skip,Try.f103.results.toList,[],false,103⟩
noncomputable def FTab:Tr FT:=(.n .none (.n .none (.n .none (.n (.code fx7) (.n .none (.n .none (.n (.code fx63) .e .e) .e) (.n (.code fx47) (.n (.code fx79) .e .e) .e)) (.n (.code fx23) (.n (.code fx39) (.n (.code fx71) .e .e) (.n (.code fx103) .e .e)) (.n (.code fx55) .e .e))) (.n .none (.n .none (.n (.code fx35) (.n (.code fx67) .e .e) (.n (.nat (tX 5)) .e .e)) (.n (.code fx51) .e .e)) (.n (.code fx27) (.n (.code fx43) (.n (.code fx75) .e .e) .e) (.n (.code fx59) (.n (.code fx91) .e .e) .e)))) (.n (.code fx5) (.n .none (.n (.code fx17) (.n .none .e (.n (.nat (tX 3)) .e .e)) (.n (.code fx49) (.n (.code fx81) .e .e) .e)) (.n (.code fx25) (.n (.code fx41) .e .e) (.n (.code fx57) (.n (.code fx89) .e .e) .e))) (.n .none (.n .none (.n (.code fx37) (.n (.code fx69) .e .e) .e) (.n (.code fx53) .e .e)) (.n (.code fx29) (.n (.code fx45) (.n (.code fx77) .e .e) .e) (.n (.code fx61) (.n (.code fx93) .e .e) .e))))) (.n .none (.n .none (.n .none (.n .none (.n .none (.n (.code fx64) .e .e) (.n (.code fx96) .e .e)) (.n .none (.n (.code fx80) .e .e) .e)) (.n (.code fx24) (.n (.code fx40) .e .e) (.n (.code fx56) (.n (.code fx88) .e .e) .e))) (.n (.code fx12) (.n (.code fx20) (.n (.code fx36) (.n (.code fx68) .e .e) (.n (.code fx100) .e .e)) (.n (.code fx52) .e .e)) (.n .none (.n (.code fx44) (.n (.code fx76) .e .e) .e) (.n (.code fx60) (.n (.code fx92) .e .e) .e)))) (.n .none (.n .none (.n .none (.n .none (.n (.code fx66) .e .e) (.n (.code fx98) .e .e)) (.n (.code fx50) (.n (.code fx82) .e .e) .e)) (.n (.code fx26) .e (.n (.code fx58) (.n (.code fx90) .e .e) .e))) (.n (.code fx14) (.n .none (.n (.code fx38) (.n (.code fx70) .e .e) (.n (.code fx102) .e .e)) (.n (.code fx54) .e .e)) (.n .none (.n (.code fx46) (.n (.code fx78) .e .e) .e) (.n .none (.n (.code fx94) .e .e) .e))))))
noncomputable def FN:Nat→FT:=tw FTab
theorem uV (σ:List Ob):Ok Try.prog 99 [.nils,.int .i64 0] σ (.ret .nils) σ:=by
 refine Ok.of_body ae Try.func99 rfl (by decide) (by simp[Try.ntmps99]) fun C hP hn hσ hfix hdd=>?_
 rw[show Try.f99.ntmps=27 from rfl] at hn
 have hL:af C.P L:=hP▸ae
 have hm:C.P.follows .mixedOrders=true:=hP▸ao
 repeat(first|((first|refine sA hL hn rfl ?_|refine sB hL hn rfl ?_);simp only[go_sem,Cq,reduceEqDiff,reduceCtorEq])|((first|refine sC ?_|refine sH ?_|refine sI ?_|refine sJ ?_);try simp only[ap])|refine sD ?_|refine sE ?_|refine sF rfl ?_|refine sG rfl ?_)
 refine aa.op (d:=.int .i64 0) (ob':=σ) rfl (by rw[hn];decide) (ar.capNil hL rfl L67 rfl) ?_
 refine aa.go hL (by rw[hn];rfl) ?_
 simp only[go_sem,reduceEqDiff,reduceCtorEq]
 repeat(first|((first|refine sA hL hn rfl ?_|refine sB hL hn rfl ?_);simp only[go_sem,reduceEqDiff,reduceCtorEq])|((first|refine sC ?_|refine sH ?_|refine sI ?_|refine sJ ?_);try simp only[ap])|refine sD ?_|refine sE ?_|refine sF rfl ?_|refine sG rfl ?_)
 exact⟨_,_,_,ai.refl _ _,rfl,ag.refl _ _ _,rfl⟩
theorem ra (n:Nat) (σ:List Ob) (h0:0<n) (h1:n≤134217728):Ok Try.prog 99 [.nils,.int .i64 (n:Int)] σ (.ret (.sl σ.length 0 0 0)) (σ++[.arr 5 1 []]):=by
 refine Ok.of_body ae Try.func99 rfl (by decide) (by simp[Try.ntmps99]) fun C hP hn hσ hfix hdd=>?_
 rw[show Try.f99.ntmps=27 from rfl] at hn
 have hL:af C.P L:=hP▸ae
 have hm:C.P.follows .mixedOrders=true:=hP▸ao
 have d1:decide ((n:Int)<0)=false:=by simp
 have w0:IntKind.i64.wrap (0-0)=0:=rfl
 have w1:IntKind.i64.wrap ((n:Int)-0)=(n:Int):=wi (by omega) (by omega)
 have d2:decide ((n:Int)>0)=true:=by simp;omega
 have z0:((0:Nat):Int)=0:=rfl
 have z1:((1:Nat):Int)=1:=rfl
 have z2:((0:Int)≤0)=True:=by simp
 have c1:((n:Int)*1≤1073741824)=True:=by simp;omega
 have c2:(0≤(n:Int))=True:=by simp
 have c3:(n≤140737488355328)=True:=by simp;omega
 have n0:(n=0)=False:=by simp;omega
 have a1:(AO n (DV.int .u8 0)).all (fun y=>y.cells.all DV.one)=true:=by simp[DV.cells,DV.one]
 have a2:((AO n (DV.int .u8 0)).all fun y=>(match y with|.agg cs=>cs|x=> [x]).all DV.one)=true:=a1
 have t0:Ce 0=0:=rfl
 have w2:(0≤(n:Int)∧(n:Int)≤(n:Int))=True:=by simp
 repeat(first|((first|refine sA hL hn rfl ?_|refine sB hL hn rfl ?_);simp only[go_sem,reduceEqDiff,reduceCtorEq,d1])|((first|refine sC ?_|refine sH ?_|refine sI ?_|refine sJ ?_);try simp only[ap])|refine sD ?_|refine sE ?_|refine sF rfl ?_|refine sG rfl ?_)
 refine aa.op (d:=.int .i64 0) (ob':=σ) rfl (by rw[hn];decide) (ar.capNil hL rfl L67 rfl) ?_
 refine aa.go hL (by rw[hn];rfl) ?_
 simp only[go_sem,reduceEqDiff,reduceCtorEq,w0,w1]
 repeat(first|((first|refine sA hL hn rfl ?_|refine sB hL hn rfl ?_);simp only[go_sem,reduceEqDiff,reduceCtorEq,d2])|((first|refine sC ?_|refine sH ?_|refine sI ?_|refine sJ ?_);try simp only[ap])|refine sD ?_|refine sE ?_|refine sF rfl ?_|refine sG rfl ?_)
 refine aa.op (d:=.int .i64 0) (ob':=σ) rfl (by rw[hn];decide) (ar.capNil hL rfl L67 rfl) ?_
 refine aa.go hL (by rw[hn];rfl) ?_
 simp only[go_sem,reduceEqDiff,reduceSub,Bv,reduceCtorEq,z0,z1,z2,c1,c2,c3,a1,t0,aw,au,aG,Bg,Br,n0]
 repeat(first|((first|refine sA hL hn rfl ?_|refine sB hL hn rfl ?_);simp only[go_sem,reduceEqDiff,reduceCtorEq])|((first|refine sC ?_|refine sH ?_|refine sI ?_|refine sJ ?_);try simp only[ap])|refine sD ?_|refine sE ?_|refine sF rfl ?_|refine sG rfl ?_)
 exact⟨_,_,_,ai.refl _ _,rfl,by have h:=ag.trunc (t:=5) (k:=1) (xs:=AO n (DV.int .u8 0)) hσ hfix;rw[Br] at h;exact h,rfl⟩
theorem uU (σ:List Ob):Ok Try.prog 97 [.nils,.int .i64 0] σ (.ret .nils) σ:=by
 refine Ok.of_body ae Try.func97 rfl (by decide) (by simp[Try.ntmps97]) fun C hP hn hσ hfix hdd=>?_
 rw[show Try.f97.ntmps=27 from rfl] at hn
 have hL:af C.P L:=hP▸ae
 have hm:C.P.follows .mixedOrders=true:=hP▸ao
 repeat(first|((first|refine sA hL hn rfl ?_|refine sB hL hn rfl ?_);simp only[go_sem,Cq,reduceEqDiff,reduceCtorEq])|((first|refine sC ?_|refine sH ?_|refine sI ?_|refine sJ ?_);try simp only[ap])|refine sD ?_|refine sE ?_|refine sF rfl ?_|refine sG rfl ?_)
 refine aa.op (d:=.int .i64 0) (ob':=σ) rfl (by rw[hn];decide) (ar.capNil hL rfl L46 rfl) ?_
 refine aa.go hL (by rw[hn];rfl) ?_
 simp only[go_sem,reduceEqDiff,reduceCtorEq]
 repeat(first|((first|refine sA hL hn rfl ?_|refine sB hL hn rfl ?_);simp only[go_sem,reduceEqDiff,reduceCtorEq])|((first|refine sC ?_|refine sH ?_|refine sI ?_|refine sJ ?_);try simp only[ap])|refine sD ?_|refine sE ?_|refine sF rfl ?_|refine sG rfl ?_)
 exact⟨_,_,_,ai.refl _ _,rfl,ag.refl _ _ _,rfl⟩
theorem wU (n:Nat) (σ:List Ob) (h0:0<n) (h1:n≤134217728):Ok Try.prog 97 [.nils,.int .i64 (n:Int)] σ (.ret (.sl σ.length 0 0 0)) (σ++[.arr 3 1 []]):=by
 refine Ok.of_body ae Try.func97 rfl (by decide) (by simp[Try.ntmps97]) fun C hP hn hσ hfix hdd=>?_
 rw[show Try.f97.ntmps=27 from rfl] at hn
 have hL:af C.P L:=hP▸ae
 have hm:C.P.follows .mixedOrders=true:=hP▸ao
 have d1:decide ((n:Int)<0)=false:=by simp
 have w0:IntKind.i64.wrap (0-0)=0:=rfl
 have w1:IntKind.i64.wrap ((n:Int)-0)=(n:Int):=wi (by omega) (by omega)
 have d2:decide ((n:Int)>0)=true:=by simp;omega
 have z0:((0:Nat):Int)=0:=rfl
 have z1:((8:Nat):Int)=8:=rfl
 have z2:((0:Int)≤0)=True:=by simp
 have c1:((n:Int)*8≤1073741824)=True:=by simp;omega
 have c2:(0≤(n:Int))=True:=by simp
 have c3:(n*8≤140737488355328)=True:=by simp;omega
 have n0:(n=0)=False:=by simp;omega
 have a1:(AO n (DV.int .i64 0)).all (fun y=>y.cells.all DV.one)=true:=by simp[DV.cells,DV.one]
 have a2:((AO n (DV.int .i64 0)).all fun y=>(match y with|.agg cs=>cs|x=> [x]).all DV.one)=true:=a1
 have t0:Ce 0=0:=rfl
 have w2:(0≤(n:Int)∧(n:Int)≤(n:Int))=True:=by simp
 repeat(first|((first|refine sA hL hn rfl ?_|refine sB hL hn rfl ?_);simp only[go_sem,reduceEqDiff,reduceCtorEq,d1])|((first|refine sC ?_|refine sH ?_|refine sI ?_|refine sJ ?_);try simp only[ap])|refine sD ?_|refine sE ?_|refine sF rfl ?_|refine sG rfl ?_)
 refine aa.op (d:=.int .i64 0) (ob':=σ) rfl (by rw[hn];decide) (ar.capNil hL rfl L46 rfl) ?_
 refine aa.go hL (by rw[hn];rfl) ?_
 simp only[go_sem,reduceEqDiff,reduceCtorEq,w0,w1]
 repeat(first|((first|refine sA hL hn rfl ?_|refine sB hL hn rfl ?_);simp only[go_sem,reduceEqDiff,reduceCtorEq,d2])|((first|refine sC ?_|refine sH ?_|refine sI ?_|refine sJ ?_);try simp only[ap])|refine sD ?_|refine sE ?_|refine sF rfl ?_|refine sG rfl ?_)
 refine aa.op (d:=.int .i64 0) (ob':=σ) rfl (by rw[hn];decide) (ar.capNil hL rfl L46 rfl) ?_
 refine aa.go hL (by rw[hn];rfl) ?_
 simp only[go_sem,reduceEqDiff,reduceSub,Bv,reduceCtorEq,z0,z1,z2,c1,c2,c3,a1,t0,aw,au,aG,Bg,Br,n0]
 repeat(first|((first|refine sA hL hn rfl ?_|refine sB hL hn rfl ?_);simp only[go_sem,reduceEqDiff,reduceCtorEq])|((first|refine sC ?_|refine sH ?_|refine sI ?_|refine sJ ?_);try simp only[ap])|refine sD ?_|refine sE ?_|refine sF rfl ?_|refine sG rfl ?_)
 exact⟨_,_,_,ai.refl _ _,rfl,by have h:=ag.trunc (t:=3) (k:=1) (xs:=AO n (DV.int .i64 0)) hσ hfix;rw[Br] at h;exact h,rfl⟩
theorem fok5:FnOk Try.prog 5 fx5:=⟨⟨Try.f5,Try.func5,by kernel_rfl,by kernel_rfl,by kernel_rfl,by kernel_rfl⟩,by kernel_rfl⟩
theorem fok7:FnOk Try.prog 7 fx7:=⟨⟨Try.f7,Try.func7,by kernel_rfl,by kernel_rfl,by kernel_rfl,by kernel_rfl⟩,by kernel_rfl⟩
theorem fok12:FnOk Try.prog 12 fx12:=⟨⟨Try.f12,Try.func12,by kernel_rfl,by kernel_rfl,by kernel_rfl,by kernel_rfl⟩,by kernel_rfl⟩
theorem fok14:FnOk Try.prog 14 fx14:=⟨⟨Try.f14,Try.func14,by kernel_rfl,by kernel_rfl,by kernel_rfl,by kernel_rfl⟩,by kernel_rfl⟩
theorem fok17:FnOk Try.prog 17 fx17:=⟨⟨Try.f17,Try.func17,by kernel_rfl,by kernel_rfl,by kernel_rfl,by kernel_rfl⟩,by kernel_rfl⟩
theorem fok20:FnOk Try.prog 20 fx20:=⟨⟨Try.f20,Try.func20,by kernel_rfl,by kernel_rfl,by kernel_rfl,by kernel_rfl⟩,by kernel_rfl⟩
theorem fok23:FnOk Try.prog 23 fx23:=⟨⟨Try.f23,Try.func23,by kernel_rfl,by kernel_rfl,by kernel_rfl,by kernel_rfl⟩,by kernel_rfl⟩
theorem fok24:FnOk Try.prog 24 fx24:=⟨⟨Try.f24,Try.func24,by kernel_rfl,by kernel_rfl,by kernel_rfl,by kernel_rfl⟩,by kernel_rfl⟩
theorem fok25:FnOk Try.prog 25 fx25:=⟨⟨Try.f25,Try.func25,by kernel_rfl,by kernel_rfl,by kernel_rfl,by kernel_rfl⟩,by kernel_rfl⟩
theorem fok26:FnOk Try.prog 26 fx26:=⟨⟨Try.f26,Try.func26,by kernel_rfl,by kernel_rfl,by kernel_rfl,by kernel_rfl⟩,by kernel_rfl⟩
theorem fok27:FnOk Try.prog 27 fx27:=⟨⟨Try.f27,Try.func27,by kernel_rfl,by kernel_rfl,by kernel_rfl,by kernel_rfl⟩,by kernel_rfl⟩
theorem fok29:FnOk Try.prog 29 fx29:=⟨⟨Try.f29,Try.func29,by kernel_rfl,by kernel_rfl,by kernel_rfl,by kernel_rfl⟩,by kernel_rfl⟩
theorem fok35:FnOk Try.prog 35 fx35:=⟨⟨Try.f35,Try.func35,by kernel_rfl,by kernel_rfl,by kernel_rfl,by kernel_rfl⟩,by kernel_rfl⟩
theorem fok36:FnOk Try.prog 36 fx36:=⟨⟨Try.f36,Try.func36,by kernel_rfl,by kernel_rfl,by kernel_rfl,by kernel_rfl⟩,by kernel_rfl⟩
theorem fok37:FnOk Try.prog 37 fx37:=⟨⟨Try.f37,Try.func37,by kernel_rfl,by kernel_rfl,by kernel_rfl,by kernel_rfl⟩,by kernel_rfl⟩
theorem fok38:FnOk Try.prog 38 fx38:=⟨⟨Try.f38,Try.func38,by kernel_rfl,by kernel_rfl,by kernel_rfl,by kernel_rfl⟩,by kernel_rfl⟩
theorem fok39:FnOk Try.prog 39 fx39:=⟨⟨Try.f39,Try.func39,by kernel_rfl,by kernel_rfl,by kernel_rfl,by kernel_rfl⟩,by kernel_rfl⟩
theorem fok40:FnOk Try.prog 40 fx40:=⟨⟨Try.f40,Try.func40,by kernel_rfl,by kernel_rfl,by kernel_rfl,by kernel_rfl⟩,by kernel_rfl⟩
theorem fok41:FnOk Try.prog 41 fx41:=⟨⟨Try.f41,Try.func41,by kernel_rfl,by kernel_rfl,by kernel_rfl,by kernel_rfl⟩,by kernel_rfl⟩
theorem fok43:FnOk Try.prog 43 fx43:=⟨⟨Try.f43,Try.func43,by kernel_rfl,by kernel_rfl,by kernel_rfl,by kernel_rfl⟩,by kernel_rfl⟩
theorem fok44:FnOk Try.prog 44 fx44:=⟨⟨Try.f44,Try.func44,by kernel_rfl,by kernel_rfl,by kernel_rfl,by kernel_rfl⟩,by kernel_rfl⟩
theorem fok45:FnOk Try.prog 45 fx45:=⟨⟨Try.f45,Try.func45,by kernel_rfl,by kernel_rfl,by kernel_rfl,by kernel_rfl⟩,by kernel_rfl⟩
theorem fok46:FnOk Try.prog 46 fx46:=⟨⟨Try.f46,Try.func46,by kernel_rfl,by kernel_rfl,by kernel_rfl,by kernel_rfl⟩,by kernel_rfl⟩
theorem fok47:FnOk Try.prog 47 fx47:=⟨⟨Try.f47,Try.func47,by kernel_rfl,by kernel_rfl,by kernel_rfl,by kernel_rfl⟩,by kernel_rfl⟩
theorem fok49:FnOk Try.prog 49 fx49:=⟨⟨Try.f49,Try.func49,by kernel_rfl,by kernel_rfl,by kernel_rfl,by kernel_rfl⟩,by kernel_rfl⟩
theorem fok50:FnOk Try.prog 50 fx50:=⟨⟨Try.f50,Try.func50,by kernel_rfl,by kernel_rfl,by kernel_rfl,by kernel_rfl⟩,by kernel_rfl⟩
theorem fok51:FnOk Try.prog 51 fx51:=⟨⟨Try.f51,Try.func51,by kernel_rfl,by kernel_rfl,by kernel_rfl,by kernel_rfl⟩,by kernel_rfl⟩
theorem fok52:FnOk Try.prog 52 fx52:=⟨⟨Try.f52,Try.func52,by kernel_rfl,by kernel_rfl,by kernel_rfl,by kernel_rfl⟩,by kernel_rfl⟩
theorem fok53:FnOk Try.prog 53 fx53:=⟨⟨Try.f53,Try.func53,by kernel_rfl,by kernel_rfl,by kernel_rfl,by kernel_rfl⟩,by kernel_rfl⟩
theorem fok54:FnOk Try.prog 54 fx54:=⟨⟨Try.f54,Try.func54,by kernel_rfl,by kernel_rfl,by kernel_rfl,by kernel_rfl⟩,by kernel_rfl⟩
theorem fok55:FnOk Try.prog 55 fx55:=⟨⟨Try.f55,Try.func55,by kernel_rfl,by kernel_rfl,by kernel_rfl,by kernel_rfl⟩,by kernel_rfl⟩
theorem fok56:FnOk Try.prog 56 fx56:=⟨⟨Try.f56,Try.func56,by kernel_rfl,by kernel_rfl,by kernel_rfl,by kernel_rfl⟩,by kernel_rfl⟩
theorem fok57:FnOk Try.prog 57 fx57:=⟨⟨Try.f57,Try.func57,by kernel_rfl,by kernel_rfl,by kernel_rfl,by kernel_rfl⟩,by kernel_rfl⟩
theorem fok58:FnOk Try.prog 58 fx58:=⟨⟨Try.f58,Try.func58,by kernel_rfl,by kernel_rfl,by kernel_rfl,by kernel_rfl⟩,by kernel_rfl⟩
theorem fok59:FnOk Try.prog 59 fx59:=⟨⟨Try.f59,Try.func59,by kernel_rfl,by kernel_rfl,by kernel_rfl,by kernel_rfl⟩,by kernel_rfl⟩
theorem fok60:FnOk Try.prog 60 fx60:=⟨⟨Try.f60,Try.func60,by kernel_rfl,by kernel_rfl,by kernel_rfl,by kernel_rfl⟩,by kernel_rfl⟩
theorem fok61:FnOk Try.prog 61 fx61:=⟨⟨Try.f61,Try.func61,by kernel_rfl,by kernel_rfl,by kernel_rfl,by kernel_rfl⟩,by kernel_rfl⟩
theorem fok63:FnOk Try.prog 63 fx63:=⟨⟨Try.f63,Try.func63,by kernel_rfl,by kernel_rfl,by kernel_rfl,by kernel_rfl⟩,by kernel_rfl⟩
theorem fok64:FnOk Try.prog 64 fx64:=⟨⟨Try.f64,Try.func64,by kernel_rfl,by kernel_rfl,by kernel_rfl,by kernel_rfl⟩,by kernel_rfl⟩
theorem fok66:FnOk Try.prog 66 fx66:=⟨⟨Try.f66,Try.func66,by kernel_rfl,by kernel_rfl,by kernel_rfl,by kernel_rfl⟩,by kernel_rfl⟩
theorem fok67:FnOk Try.prog 67 fx67:=⟨⟨Try.f67,Try.func67,by kernel_rfl,by kernel_rfl,by kernel_rfl,by kernel_rfl⟩,by kernel_rfl⟩
theorem fok68:FnOk Try.prog 68 fx68:=⟨⟨Try.f68,Try.func68,by kernel_rfl,by kernel_rfl,by kernel_rfl,by kernel_rfl⟩,by kernel_rfl⟩
theorem fok69:FnOk Try.prog 69 fx69:=⟨⟨Try.f69,Try.func69,by kernel_rfl,by kernel_rfl,by kernel_rfl,by kernel_rfl⟩,by kernel_rfl⟩
theorem fok70:FnOk Try.prog 70 fx70:=⟨⟨Try.f70,Try.func70,by kernel_rfl,by kernel_rfl,by kernel_rfl,by kernel_rfl⟩,by kernel_rfl⟩
theorem fok71:FnOk Try.prog 71 fx71:=⟨⟨Try.f71,Try.func71,by kernel_rfl,by kernel_rfl,by kernel_rfl,by kernel_rfl⟩,by kernel_rfl⟩
theorem fok75:FnOk Try.prog 75 fx75:=⟨⟨Try.f75,Try.func75,by kernel_rfl,by kernel_rfl,by kernel_rfl,by kernel_rfl⟩,by kernel_rfl⟩
theorem fok76:FnOk Try.prog 76 fx76:=⟨⟨Try.f76,Try.func76,by kernel_rfl,by kernel_rfl,by kernel_rfl,by kernel_rfl⟩,by kernel_rfl⟩
theorem fok77:FnOk Try.prog 77 fx77:=⟨⟨Try.f77,Try.func77,by kernel_rfl,by kernel_rfl,by kernel_rfl,by kernel_rfl⟩,by kernel_rfl⟩
theorem fok78:FnOk Try.prog 78 fx78:=⟨⟨Try.f78,Try.func78,by kernel_rfl,by kernel_rfl,by kernel_rfl,by kernel_rfl⟩,by kernel_rfl⟩
theorem fok79:FnOk Try.prog 79 fx79:=⟨⟨Try.f79,Try.func79,by kernel_rfl,by kernel_rfl,by kernel_rfl,by kernel_rfl⟩,by kernel_rfl⟩
theorem fok80:FnOk Try.prog 80 fx80:=⟨⟨Try.f80,Try.func80,by kernel_rfl,by kernel_rfl,by kernel_rfl,by kernel_rfl⟩,by kernel_rfl⟩
theorem fok81:FnOk Try.prog 81 fx81:=⟨⟨Try.f81,Try.func81,by kernel_rfl,by kernel_rfl,by kernel_rfl,by kernel_rfl⟩,by kernel_rfl⟩
theorem fok82:FnOk Try.prog 82 fx82:=⟨⟨Try.f82,Try.func82,by kernel_rfl,by kernel_rfl,by kernel_rfl,by kernel_rfl⟩,by kernel_rfl⟩
theorem fok88:FnOk Try.prog 88 fx88:=⟨⟨Try.f88,Try.func88,by kernel_rfl,by kernel_rfl,by kernel_rfl,by kernel_rfl⟩,by kernel_rfl⟩
theorem fok89:FnOk Try.prog 89 fx89:=⟨⟨Try.f89,Try.func89,by kernel_rfl,by kernel_rfl,by kernel_rfl,by kernel_rfl⟩,by kernel_rfl⟩
theorem fok90:FnOk Try.prog 90 fx90:=⟨⟨Try.f90,Try.func90,by kernel_rfl,by kernel_rfl,by kernel_rfl,by kernel_rfl⟩,by kernel_rfl⟩
theorem fok91:FnOk Try.prog 91 fx91:=⟨⟨Try.f91,Try.func91,by kernel_rfl,by kernel_rfl,by kernel_rfl,by kernel_rfl⟩,by kernel_rfl⟩
theorem fok92:FnOk Try.prog 92 fx92:=⟨⟨Try.f92,Try.func92,by kernel_rfl,by kernel_rfl,by kernel_rfl,by kernel_rfl⟩,by kernel_rfl⟩
theorem fok93:FnOk Try.prog 93 fx93:=⟨⟨Try.f93,Try.func93,by kernel_rfl,by kernel_rfl,by kernel_rfl,by kernel_rfl⟩,by kernel_rfl⟩
theorem fok94:FnOk Try.prog 94 fx94:=⟨⟨Try.f94,Try.func94,by kernel_rfl,by kernel_rfl,by kernel_rfl,by kernel_rfl⟩,by kernel_rfl⟩
theorem fok96:FnOk Try.prog 96 fx96:=⟨⟨Try.f96,Try.func96,by kernel_rfl,by kernel_rfl,by kernel_rfl,by kernel_rfl⟩,by kernel_rfl⟩
theorem fok98:FnOk Try.prog 98 fx98:=⟨⟨Try.f98,Try.func98,by kernel_rfl,by kernel_rfl,by kernel_rfl,by kernel_rfl⟩,by kernel_rfl⟩
theorem fok100:FnOk Try.prog 100 fx100:=⟨⟨Try.f100,Try.func100,by kernel_rfl,by kernel_rfl,by kernel_rfl,by kernel_rfl⟩,by kernel_rfl⟩
theorem fok102:FnOk Try.prog 102 fx102:=⟨⟨Try.f102,Try.func102,by kernel_rfl,by kernel_rfl,by kernel_rfl,by kernel_rfl⟩,by kernel_rfl⟩
theorem fok103:FnOk Try.prog 103 fx103:=⟨⟨Try.f103,Try.func103,by kernel_rfl,by kernel_rfl,by kernel_rfl,by kernel_rfl⟩,by kernel_rfl⟩
theorem zr:fV (FtOk Try.prog) FTab (fun j=>j):=⟨trivial,⟨trivial,⟨trivial,⟨fok7,⟨trivial,⟨trivial,⟨fok63,trivial,trivial⟩,trivial⟩,⟨fok47,⟨fok79,trivial,trivial⟩,trivial⟩⟩,⟨fok23,⟨fok39,⟨fok71,trivial,trivial⟩,⟨fok103,trivial,trivial⟩⟩,⟨fok55,trivial,trivial⟩⟩⟩,⟨trivial,⟨trivial,⟨fok35,⟨fok67,trivial,trivial⟩,⟨(fun args m out m' h hm=>q9 uV (fun n σ a b=>ra n σ a (Bl b (by decide))) h hm),trivial,trivial⟩⟩,⟨fok51,trivial,trivial⟩⟩,⟨fok27,⟨fok43,⟨fok75,trivial,trivial⟩,trivial⟩,⟨fok59,⟨fok91,trivial,trivial⟩,trivial⟩⟩⟩⟩,⟨fok5,⟨trivial,⟨fok17,⟨trivial,trivial,⟨(fun args m out m' h hm=>q9 uU (fun n σ a b=>wU n σ a (Bl b (by decide))) h hm),trivial,trivial⟩⟩,⟨fok49,⟨fok81,trivial,trivial⟩,trivial⟩⟩,⟨fok25,⟨fok41,trivial,trivial⟩,⟨fok57,⟨fok89,trivial,trivial⟩,trivial⟩⟩⟩,⟨trivial,⟨trivial,⟨fok37,⟨fok69,trivial,trivial⟩,trivial⟩,⟨fok53,trivial,trivial⟩⟩,⟨fok29,⟨fok45,⟨fok77,trivial,trivial⟩,trivial⟩,⟨fok61,⟨fok93,trivial,trivial⟩,trivial⟩⟩⟩⟩⟩,⟨trivial,⟨trivial,⟨trivial,⟨trivial,⟨trivial,⟨fok64,trivial,trivial⟩,⟨fok96,trivial,trivial⟩⟩,⟨trivial,⟨fok80,trivial,trivial⟩,trivial⟩⟩,⟨fok24,⟨fok40,trivial,trivial⟩,⟨fok56,⟨fok88,trivial,trivial⟩,trivial⟩⟩⟩,⟨fok12,⟨fok20,⟨fok36,⟨fok68,trivial,trivial⟩,⟨fok100,trivial,trivial⟩⟩,⟨fok52,trivial,trivial⟩⟩,⟨trivial,⟨fok44,⟨fok76,trivial,trivial⟩,trivial⟩,⟨fok60,⟨fok92,trivial,trivial⟩,trivial⟩⟩⟩⟩,⟨trivial,⟨trivial,⟨trivial,⟨trivial,⟨fok66,trivial,trivial⟩,⟨fok98,trivial,trivial⟩⟩,⟨fok50,⟨fok82,trivial,trivial⟩,trivial⟩⟩,⟨fok26,trivial,⟨fok58,⟨fok90,trivial,trivial⟩,trivial⟩⟩⟩,⟨fok14,⟨trivial,⟨fok38,⟨fok70,trivial,trivial⟩,⟨fok102,trivial,trivial⟩⟩,⟨fok54,trivial,trivial⟩⟩,⟨trivial,⟨fok46,⟨fok78,trivial,trivial⟩,trivial⟩,⟨trivial,⟨fok94,trivial,trivial⟩,trivial⟩⟩⟩⟩⟩⟩
theorem mh:TabOk Try.prog FN:=vS zr
theorem zQ:fV (fun t (i:Option TI)=>∀x,i=some x→TOk Try.prog t x) TTab (fun j=>j):=⟨(fun _ h=>by cases h),⟨(fun _ h=>by cases h),⟨(fun _ h=>by cases h;exact tok3),⟨(fun _ h=>by cases h),⟨(fun _ h=>by cases h),⟨(fun _ h=>by cases h;exact tok31),trivial,⟨(fun _ h=>by cases h;exact tok95),trivial,trivial⟩⟩,⟨(fun _ h=>by cases h),⟨(fun _ h=>by cases h),⟨(fun _ h=>by cases h;exact tok143),trivial,trivial⟩,trivial⟩,trivial⟩⟩,⟨(fun _ h=>by cases h;exact tok23),⟨(fun _ h=>by cases h),trivial,⟨(fun _ h=>by cases h;exact tok103),trivial,trivial⟩⟩,⟨(fun _ h=>by cases h),trivial,⟨(fun _ h=>by cases h;exact tok119),trivial,trivial⟩⟩⟩⟩,⟨(fun _ h=>by cases h),⟨(fun _ h=>by cases h;exact tok19),⟨(fun _ h=>by cases h),⟨(fun _ h=>by cases h;exact tok67),trivial,trivial⟩,trivial⟩,trivial⟩,⟨(fun _ h=>by cases h;exact tok27),trivial,⟨(fun _ h=>by cases h),⟨(fun _ h=>by cases h;exact tok91),trivial,trivial⟩,⟨(fun _ h=>by cases h;exact tok123),trivial,trivial⟩⟩⟩⟩⟩,⟨(fun _ h=>by cases h;exact tok5),⟨(fun _ h=>by cases h;exact tok9),⟨(fun _ h=>by cases h),⟨(fun _ h=>by cases h),trivial,⟨(fun _ h=>by cases h),⟨(fun _ h=>by cases h;exact tok161),trivial,trivial⟩,trivial⟩⟩,⟨(fun _ h=>by cases h),⟨(fun _ h=>by cases h;exact tok81),trivial,trivial⟩,trivial⟩⟩,⟨(fun _ h=>by cases h;exact tok25),⟨(fun _ h=>by cases h;exact tok41),⟨(fun _ h=>by cases h;exact tok73),trivial,trivial⟩,trivial⟩,trivial⟩⟩,⟨(fun _ h=>by cases h;exact tok13),⟨(fun _ h=>by cases h;exact tok21),⟨(fun _ h=>by cases h),trivial,⟨(fun _ h=>by cases h;exact tok101),⟨(fun _ h=>by cases h;exact tok165),trivial,trivial⟩,trivial⟩⟩,⟨(fun _ h=>by cases h),⟨(fun _ h=>by cases h;exact tok85),trivial,trivial⟩,⟨(fun _ h=>by cases h),⟨(fun _ h=>by cases h;exact tok181),trivial,trivial⟩,trivial⟩⟩⟩,⟨(fun _ h=>by cases h;exact tok29),trivial,trivial⟩⟩⟩⟩,⟨(fun _ h=>by cases h;exact tok2),⟨(fun _ h=>by cases h;exact tok4),⟨(fun _ h=>by cases h),trivial,⟨(fun _ h=>by cases h;exact tok24),⟨(fun _ h=>by cases h),⟨(fun _ h=>by cases h;exact tok72),trivial,trivial⟩,⟨(fun _ h=>by cases h;exact tok104),trivial,trivial⟩⟩,trivial⟩⟩,⟨(fun _ h=>by cases h;exact tok12),⟨(fun _ h=>by cases h),⟨(fun _ h=>by cases h),⟨(fun _ h=>by cases h;exact tok68),trivial,trivial⟩,⟨(fun _ h=>by cases h;exact tok100),trivial,trivial⟩⟩,⟨(fun _ h=>by cases h),⟨(fun _ h=>by cases h;exact tok84),trivial,trivial⟩,trivial⟩⟩,trivial⟩⟩,⟨(fun _ h=>by cases h),⟨(fun _ h=>by cases h),⟨(fun _ h=>by cases h),trivial,⟨(fun _ h=>by cases h),⟨(fun _ h=>by cases h;exact tok82),⟨(fun _ h=>by cases h;exact tok146),trivial,trivial⟩,trivial⟩,trivial⟩⟩,⟨(fun _ h=>by cases h;exact tok26),⟨(fun _ h=>by cases h),⟨(fun _ h=>by cases h;exact tok74),trivial,trivial⟩,trivial⟩,⟨(fun _ h=>by cases h),⟨(fun _ h=>by cases h;exact tok90),trivial,trivial⟩,⟨(fun _ h=>by cases h;exact tok122),trivial,trivial⟩⟩⟩⟩,⟨(fun _ h=>by cases h),⟨(fun _ h=>by cases h;exact tok22),⟨(fun _ h=>by cases h),trivial,⟨(fun _ h=>by cases h;exact tok102),trivial,trivial⟩⟩,⟨(fun _ h=>by cases h),⟨(fun _ h=>by cases h;exact tok86),trivial,trivial⟩,⟨(fun _ h=>by cases h;exact tok118),trivial,trivial⟩⟩⟩,⟨(fun _ h=>by cases h),⟨(fun _ h=>by cases h;exact tok46),trivial,trivial⟩,⟨(fun _ h=>by cases h),⟨(fun _ h=>by cases h;exact tok94),trivial,trivial⟩,trivial⟩⟩⟩⟩⟩⟩
theorem jm:af Try.prog LX:=wH zQ
end Go.VL
