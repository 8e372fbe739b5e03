/- Proved: the card of CheckOwn: whatever octets come in, the call returns true and they read as they did; no condition beside those the row itself lists. This text is part 17 of 17. -/
import Derived.Test.YtjfcmanopkhdkaaGreatDoorW16
import Derived.Carry
import Derived.ChangeSlices
import Derived.Lib.LaidIn
import Derived.Test.YtjfcmanopkhdkaaGreatDoorCards
import Derived.Test.YtjfcmanopkhdkaaGreatDoorTie
import Derived.Test.YtjfcmanopkhdkaaGreatDoorChecked
import Derived.ProofKit
import Derived.OpenShut
import Derived.Deep.DeepHandedRow
import Derived.Deep.DeepWitnessRowRef
import Derived.Lib.LaidU8
import Derived.SizedLaws
section
set_option linter.unusedVariables false
namespace Go.VL
open Go

def oB (b : UInt8) : DV := .int .u8 b.toNat
/-- Blocks that were there when the call began. -/
def oldF (W : World) : Nat → Nat → Prop := fun _ b => b < W.heap.size
def noM : Nat → Option Nat := fun _ => none
theorem hr_start (W : World) : HR W (oldF W) noM [] where
  obj := fun id o h => by cases h
  out := fun _ _ => rfl
  inj := fun i j b h => by cases h
  lt := fun id b h => by cases h
  col := fun c b h => ⟨h, fun id e => by cases e⟩
theorem below_of_fr {w w' : World} {μ' : Nat → Option Nat} (h : Fr w noM w' μ') : RowKit.Below w.heap.size w w' :=
  ⟨h.os, h.tape, h.output, h.size, fun k hk => h.keep k hk (fun id e => by cases e)⟩
theorem u8_of {z : Int} (h : (Lit.int .u8 z).wf = true) : (((UInt8.ofNat z.toNat).toNat : Nat) : Int) = z := by
  have h' : 0 ≤ z ∧ z < 256 := by
    simp [Lit.wf, IntKind.min, IntKind.max, IntKind.signed, IntKind.bits] at h
    omega
  simp only [UInt8.toNat_ofNat']
  omega
/-- Octets that a row reads. -/
theorem rep_bytes2 {H : Type} {enc : TypeId × Value → H} {P : Program} {t e : TypeId} (ht : P.underlying t = some (.slice e)) (he : P.underlying e = some (.int .u8)) (hc : P.cellsOf e = 1) {W : World} {a0 : Option Addr} {len cap : Nat} {d0 : DataW H} {p : List MemPlace}
    (h0 : DataW.Trod enc P W 0 (fun _ => true) true t (.slice a0 len cap) d0 p) (hlt : ∀ x ∈ p, x.block < W.heap.size) :
    ∃ bs : List UInt8, Rep W (oldF W) noM [] (.vec 0 1 (bs.map oB)) (.slice a0 len cap) ∧ (bs = [] ∨ ∃ es sp, d0 = .slice es sp ∧ bs.length ≤ es.length) := by
  obtain ⟨fuel, hf⟩ := h0
  rcases ChangeShapes.open_ints ht he hc hf with ⟨hcs, hx⟩ | ⟨a, len', cap', zs, hcs, _, hl, hm, hz, hx, hcell, hwz⟩
  · simp [Value.cells] at hcs
    obtain ⟨rfl, rfl, rfl⟩ := hcs
    refine ⟨[], ?_, .inl rfl⟩
    exact Rep.vec (xs := []) (fun _ _ => Go.undef) (Nat.le_refl _) (Nat.zero_le _) (fun h => absurd h (Nat.lt_irrefl 0)) (fun x h => by cases h) (fun j i x d h => by cases h)
  · simp [Value.cells] at hcs
    obtain ⟨rfl, rfl, rfl⟩ := hcs
    simp only [Prod.mk.injEq] at hx
    obtain ⟨rfl, rfl⟩ := hx
    simp only [if_true] at hz
    refine ⟨(zs.take len).map fun z => UInt8.ofNat z.toNat, ?_, .inr ⟨_, _, rfl, by simp [ChangeShapes.lits]⟩⟩
    have hlen : (((zs.take len).map fun z => UInt8.ofNat z.toNat).map oB).length = len := by simp; omega
    have hget : ∀ (j : Nat) (x : DV), (((zs.take len).map fun z => UInt8.ofNat z.toNat).map oB)[j]? = some x → x = .int .u8 (zs.getD j 0) := by
      intro j x hx
      have hj : j < len := by
        rw [← hlen]
        exact (List.getElem?_eq_some_iff.1 hx).1
      have hjz : j < zs.length := by omega
      rw [List.map_map, List.getElem?_map, List.getElem?_take, if_pos hj, List.getElem?_eq_getElem hjz] at hx
      simp only [Option.map_some, Option.some.injEq, Function.comp_apply] at hx
      rw [← hx, List.getD_eq_getElem?_getD, List.getElem?_eq_getElem hjz, Option.getD_some]
      unfold oB
      rw [u8_of (hwz _ (List.getElem_mem hjz))]
    have key := Rep.vec (w := W) (F := oldF W) (μ := noM) (σ := []) (c := 0) (k := 1) (xs := ((zs.take len).map fun z => UInt8.ofNat z.toNat).map oB) (A := some a) (cap := cap) (fun j _ => .int .u8 (zs.getD j 0))
      (by rw [hlen]; exact hl) hm
      (fun h => ⟨a, rfl, hlt (.cell a.block a.off) (MemPlace.mem_row.2 ⟨0, by omega, rfl⟩), fun j i hj hi => by
        obtain rfl : i = 0 := by omega
        rw [Nat.mul_one, Nat.add_zero]
        exact hcell j (by omega)⟩)
      (fun x hx => by
        obtain ⟨j, hj⟩ := List.getElem?_of_mem hx
        rw [hget j x hj]; rfl)
      (fun j i x d hx hd => by
        rw [hget j x hx] at hd
        have : i = 0 ∧ d = .int .u8 (zs.getD j 0) := by
          cases i with
          | zero => exact ⟨rfl, by simpa [DV.cells] using hd.symm⟩
          | succ i => simp [DV.cells] at hd
        rw [this.2]
        exact Rep.int)
    rw [hlen] at key
    exact key
theorem rep_bytes {H : Type} {enc : TypeId × Value → H} {P : Program} {t e : TypeId} (ht : P.underlying t = some (.slice e)) (he : P.underlying e = some (.int .u8)) (hc : P.cellsOf e = 1) {W : World} {a0 : Option Addr} {len cap : Nat} {d0 : DataW H} {p : List MemPlace}
    (h0 : DataW.Trod enc P W 0 (fun _ => true) true t (.slice a0 len cap) d0 p) (hlt : ∀ x ∈ p, x.block < W.heap.size) :
    ∃ bs : List UInt8, Rep W (oldF W) noM [] (.vec 0 1 (bs.map oB)) (.slice a0 len cap) := (rep_bytes2 ht he hc h0 hlt).imp fun _ h => h.1
end Go.VL
end
section
set_option linter.unusedSimpArgs false
set_option linter.unusedVariables false
set_option maxRecDepth 100000
namespace Go.VL
open Go Go.Proofs
theorem checkOwn_all (bs : List UInt8) (h : bs.length ≤ 140737488355328) : ∃ σ', Ok Tryz.prog 4 [.vec 0 1 (bs.map eB)] [] (.ret (.bool true)) σ' := by
  by_cases h0 : bs.length = 0
  · rw [List.length_eq_zero_iff.1 h0]
    exact ⟨_, checkOwn_empty⟩
  · by_cases h1 : 4194304 < bs.length
    · exact checkOwnLong_ok 0 bs h1 h
    · exact checkOwn_ok 0 bs ((bs.length - 1) / 64) (by omega) (by omega) (by omega)
end Go.VL
namespace Go.Proofs.YtjfcmanopkhdkaaGreatDoor
open Go.ChangeShapes Go.WideShapes Go.ChangeAt Go.RowKit
theorem own : ownKnob Tryz.prog.godebug = none := by kernel_rfl
theorem laidOut : laidOutB Tryz.prog = true := by kernel_rfl
theorem cells5 : Tryz.prog.cellsOf 5 = 1 := by kernel_rfl
theorem bytes5 : Tryz.prog.bytesOf 5 = 1 := by kernel_rfl
/-- A WORLD FOR THE WITNESS: the two tables hold what their initialisers lay. -/
noncomputable def laidWorld (os : Os) : World :=
  let w0 := World.holding Tryz.prog os ⟨#[], #[], []⟩
  let put (h : Array Obj) (g : Nat) (cs : Array Value) : Array Obj := h.modify g fun
    | .cells _ t frozen => .cells cs t frozen
    | o => o
  let h1 := put w0.heap 0 (Lib.firstTab.map fun z => Value.int .u8 z).toArray
  let h2 := put h1 1 ((List.range 16).flatMap fun i => [Value.int .u8 (Lib.accLo i), Value.int .u8 (Lib.accHi i)]).toArray
  { w0 with heap := h2 }
theorem laid_met (os : Os) (args : Array Value) : laidMet Tryz.prog Rows.checkOwnRow.laid ((laidWorld os).forCall (fun _ _ => 0) ⟨#[], args, []⟩).memory :=
  (LaidIn.of_run (l := Rows.checkOwnRow.laid) [0, 1] 8 (by kernel_rfl) (by kernel_rfl) (by kernel_rfl) (by kernel_rfl)).met
theorem witness_row (os : Os) {H : Type} (enc : TypeId × Value → H) :
    (OpenSpec.ofChange Rows.checkOwnSpec).preRow enc Tryz.prog Tryz.f4 Rows.checkOwnRow.domain false Rows.checkOwnRow.laid ((laidWorld os).forCall (fun _ _ => 0) ⟨#[], #[.slice none 0 0], []⟩).memory #[.slice none 0 0] := by
  have hw : (DataW.whole enc Tryz.prog ((laidWorld os).forCall (fun _ _ => 0) ⟨#[], #[.slice none 0 0], []⟩).memory Tryz.f4.params.toList (OpenSpec.ofChange Rows.checkOwnSpec).vars false #[Value.slice none 0 0].toList 8).map (fun x => (x.1, x.2.1)) =
      some ([.nil], []) := by kernel_rfl
  obtain ⟨⟨x1, x2, x3⟩, hx, hx1⟩ := Option.map_eq_some_iff.1 hw
  simp only [Prod.mk.injEq] at hx1
  obtain ⟨rfl, rfl⟩ := hx1
  exact OpenSpec.preRow_of_cond 8 hx (by kernel_rfl) (fun k hk => by cases hk) (by kernel_rfl) (laid_met os _)

/-- WHAT THE WALK GIVES. -/
theorem contract (H : Type) (enc : TypeId × Value → H) (W : World) (base : Nat) (args : Array Value) (ds gs : List (DataW H)) (before : List MemPlace) (F : Stop.Interp)
    (hval : ∀ (j : Nat) t v, Tryz.f4.params[j]? = some t → args[j]? = some v → Value.okWide Tryz.prog W .any base t v)
    (hW : DataW.Whole enc Tryz.prog Tryz.f4.params.toList Rows.checkOwnSpec.vars false W args.toList ds gs before)
    (hz : (DataW.weightsEach Tryz.prog (Tryz.f4.params.toList ++ (OpenSpec.ofChange Rows.checkOwnSpec).bare.plain.varTypes Tryz.prog) (ds ++ gs)).all (· ≤ reachBytes) = true) :
    Calls Tryz.prog 4 args W fun e W' => ∃ v, e = .returned v ∧ ((OpenSpec.ofChange Rows.checkOwnSpec).at F).post enc Tryz.prog Tryz.f4 false true false false W args v W' := by
  have hW' := hW
  obtain ⟨p, q, hA0, hV, rfl, _, _⟩ := hW
  have hA : DataW.TrodAll enc Tryz.prog W 0 (fun _ => true) true Tryz.f4.params.toList args.toList ds p := hA0
  rw [Tryz.params4] at hA hval hz
  obtain ⟨v0, d0, rfl, rfl, h0⟩ := trodAll_one hA
  obtain ⟨rfl, rfl⟩ := trodVars_none hV
  obtain ⟨a0, len, cap, rfl⟩ := okWide_slice Tryz.underlying22 (hval 0 22 v0 rfl rfl)
  clear hA0
  simp only [List.append_nil] at hW'
  have hlt : ∀ x ∈ p, x.block < W.heap.size := fun x hx => by simpa using hW'.lt x hx
  obtain ⟨bs, hr, hb0⟩ := VL.rep_bytes2 Tryz.underlying22 Tryz.underlying5 cells5 h0 hlt
  have hlen : bs.length ≤ 140737488355328 := by
    rcases hb0 with rfl | ⟨es, sp, hd, hle⟩
    · exact Nat.zero_le _
    · have := sized_slice hz (j := 0) (t := 22) (e := 5) (elems := es) (spare := sp) rfl (by rw [hd]; rfl) Tryz.underlying22
      rw [bytes5, Nat.mul_one] at this
      have h47 : reachBytes < 140737488355328 := reachBytes_lt
      omega
  obtain ⟨σ', ho⟩ := VL.checkOwn_all bs hlen
  refine (ho.calls W (VL.oldF W) VL.noM [.slice a0 len cap] (VL.hr_start W) ⟨rfl, fun i d v hd hv => ?_⟩).mono ?_
  · cases i with
    | zero =>
      simp only [List.getElem?_cons_zero, Option.some.injEq] at hd hv
      rw [← hd, ← hv]; exact hr
    | succ i => simp at hd
  · rintro e W' ⟨F', μ', v, haf, rfl, hv⟩
    have hb := VL.below_of_fr haf.fr
    cases hv
    exact ⟨_, rfl, _, _, _, [], p, [], hW', trodAll_mk1 (shut_bool Tryz.underlying4 _), trodAll_mk1 (Below.trod laidOut (by kernel_rfl) (of_decide_eq_true (by kernel_rfl)) h0 hb hlt), rfl, hb.frame _, fun h => by cases h⟩

set_option maxHeartbeats 2000000 in
theorem lifted (os : Os) (started : os.Started) (H : Type) (enc : TypeId × Value → H) (F : Stop.Interp) :
    ReturnsInHanded {} Tryz.checked os 4 .any ((OpenSpec.ofChange Rows.checkOwnSpec).preRow enc Tryz.prog Tryz.f4 Rows.checkOwnRow.domain false Rows.checkOwnRow.laid) (((OpenSpec.ofChange Rows.checkOwnSpec).at F).post enc Tryz.prog Tryz.f4 false true false false) := by
  refine returnsInHanded_of_row (C := Tryz.checked) (s := OpenSpec.ofChange Rows.checkOwnSpec) own started (by kernel_rfl) Tryz.func4
    (witness_row_atRef (enc := enc) (C := Tryz.checked) false (laidWorld os) #[.slice none 0 0] rfl (by kernel_rfl) (by kernel_rfl) (by kernel_rfl) (witness_row os enc)) ?_
  intro W base args ds gs before hval hW _ _ hz _ _ _
  exact contract H enc W base args ds gs before F hval hW hz

theorem jInPlace : (Rows.checkOwnRow.inPlace == Tryz.prog.inPlace 4) = true := by kernel_rfl
theorem jUnfollowed : (Rows.checkOwnRow.unfollowed == Tryz.prog.unfollowed 4) = true := by kernel_rfl
theorem jRecurses : (Rows.checkOwnRow.recurses == Tryz.prog.recurses 4) = true := by kernel_rfl
theorem jNamed : (Rows.checkOwnRow.named == Tryz.prog.varsNamed 4) = true := by kernel_rfl
theorem closed : joinedFacts Tryz.prog 4 Tryz.f4 (OpenSpec.ofChange Rows.checkOwnSpec).bare Rows.checkOwnRow = true := by
  unfold joinedFacts
  rw [jInPlace, jUnfollowed, jRecurses, jNamed]
  kernel_rfl
theorem said : Rows.CheckOwnSaid :=
  OpenClaim.holds_of_cond 4 Tryz.f4 rfl rfl rfl rfl rfl rfl rfl ⟨rfl, rfl, rfl, rfl, rfl⟩ rfl rfl rfl rfl rfl (by kernel_rfl) Tryz.func4 closed
    (of_decide_eq_true (by kernel_rfl)) (by unfold Func.isWrapper; first | (rw [if_pos (by decide +kernel)]; kernel_rfl) | (rw [if_neg (by decide +kernel)]; exact ⟨rfl, rfl⟩))
    (fun os started H enc _ F => by rw [OpenClaim.pre_eq_preRow]; exact lifted os started H enc F)

theorem plain (f : FuncId) (fn : Func) (hf : Tryz.pinned.checked.prog.funcNamed "flagstone/flagstonelaw18.CheckOwn" = some f) (hfn : Tryz.pinned.checked.prog.funcs[f]? = some fn) :
    true = Tryz.pinned.checked.prog.looks [] ∧ ∀ (j : Nat) t, fn.params[j]? = some t → Tryz.pinned.checked.prog.wantsStandIn t = false := by
  obtain rfl : f = 4 := Option.some.inj ((show Tryz.prog.funcNamed "flagstone/flagstonelaw18.CheckOwn" = some 4 by kernel_rfl).symm.trans hf) |>.symm
  obtain rfl : fn = Tryz.f4 := (Option.some.inj (Tryz.func4.symm.trans hfn)).symm
  refine ⟨by kernel_rfl, fun j t ht => ?_⟩
  rw [Tryz.params4] at ht
  obtain rfl : t = 22 := by simpa using Array.mem_of_getElem? ht
  exact (show Tryz.prog.wantsStandIn 22 = false by kernel_rfl)

/-- ████ THE CARD ████ -/
theorem checkOwn_holds : Rows.CheckOwnCardSaid :=
  Claim7.holds_tied_plain_at .later [] _ _ _ _ said (fun _ h => by cases h) (by kernel_rfl) (fun _ h => by cases h) checkOwn_row_tie rfl ⟨rfl, rfl⟩ (by kernel_rfl) rfl plain (by kernel_rfl)
#print axioms checkOwn_holds
end Go.Proofs.YtjfcmanopkhdkaaGreatDoor
end
