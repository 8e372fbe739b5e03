/-
  DERIVED. GIVEN WITH THE SEED: THE CARDS: each row of YtjfcmanopkhdkaaGreatDoorRows.lean that lists a variable, with what it lists TIED to the program's text (the seventh form; the later family's looks); each row that meets fmt, with fmt's text TOLD by the authors' own Lean function (tested against real Go, not proved from fmt's source: count such statements apart). THE CARD IS WHAT COUNTS. Prove the row's statement (the work); the ties are given (YtjfcmanopkhdkaaGreatDoorTie.lean); close each card by the builder's one call (the guide's Derived/Test/ToyasCard.lean, 'card_holds'). Laid BY PROGRAM, IN A SANDBOX (cutbox-door.mjs). By AI agents, Wed Nov 11 2026. No macro, syntax, notation, axiom, sorry.
-/
import Derived.Test.YtjfcmanopkhdkaaGreatDoorRows
import GoSem.ClaimSeven
namespace Go.Proofs.YtjfcmanopkhdkaaGreatDoor
namespace Rows

/-- THE TIED CARD OF 'flagstonelaw18.CheckRaw'. -/
def checkRawCard : Claim7 := { stood := { row := checkRawRow, standIns := [], harness := (true, "7a757d60cdba93f55e6b3f4be6d25fa011e1824de07b662acdb733bd6011b24a"), looks := true }, kinds := [], alts := [], laidByText := true, laidKinds := [.data, .pinned], laidTests := true, laidLooks := .later }
def CheckRawCardSaid : Prop := Claim7.holds Tryz.pinned (.plain (OpenSpec.ofChange checkRawSpec)) checkRawCard

/-- THE TIED CARD OF 'flagstonelaw18.CheckOwn'. -/
def checkOwnCard : Claim7 := { stood := { row := checkOwnRow, standIns := [], harness := (true, "7a757d60cdba93f55e6b3f4be6d25fa011e1824de07b662acdb733bd6011b24a"), looks := true }, kinds := [], alts := [], laidByText := true, laidKinds := [.data, .pinned], laidTests := true, laidLooks := .later }
def CheckOwnCardSaid : Prop := Claim7.holds Tryz.pinned (.plain (OpenSpec.ofChange checkOwnSpec)) checkOwnCard

/-- THE SECOND FORM's CARD OF 'flagstonelaw18.CheckRaw'. -/
def checkRawUptoCard : Claim7 := { stood := { row := checkRawUptoRow, standIns := [], harness := (true, "7a757d60cdba93f55e6b3f4be6d25fa011e1824de07b662acdb733bd6011b24a"), looks := true }, kinds := [], alts := [], laidByText := true, laidKinds := [.data, .pinned], laidTests := true, laidLooks := .later }
def CheckRawUptoCardSaid : Prop := Claim7.holds Tryz.pinned (.plain (OpenSpec.upto checkRawSpec)) checkRawUptoCard

/-- THE SECOND FORM's CARD OF 'flagstonelaw18.CheckOwn'. -/
def checkOwnUptoCard : Claim7 := { stood := { row := checkOwnUptoRow, standIns := [], harness := (true, "7a757d60cdba93f55e6b3f4be6d25fa011e1824de07b662acdb733bd6011b24a"), looks := true }, kinds := [], alts := [], laidByText := true, laidKinds := [.data, .pinned], laidTests := true, laidLooks := .later }
def CheckOwnUptoCardSaid : Prop := Claim7.holds Tryz.pinned (.plain (OpenSpec.upto checkOwnSpec)) checkOwnUptoCard
end Rows
end Go.Proofs.YtjfcmanopkhdkaaGreatDoor
