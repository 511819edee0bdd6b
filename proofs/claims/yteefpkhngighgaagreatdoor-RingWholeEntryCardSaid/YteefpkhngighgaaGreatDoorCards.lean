/-
  DERIVED. GIVEN WITH THE SEED: THE CARDS: each row of YteefpkhngighgaaGreatDoorRows.lean that lists a variable, with what it lists TIED to the program's text (the seventh form; the later family's looks); each row that meets fmt, with fmt's text TOLD by the authors' own Lean function (tested against real Go, not proved from fmt's source: count such statements apart). THE CARD IS WHAT COUNTS. Prove the row's statement (the work); the ties are given (YteefpkhngighgaaGreatDoorTie.lean); close each card by the builder's one call (the guide's Derived/Test/ToyasCard.lean, 'card_holds'). Laid BY PROGRAM, IN A SANDBOX (cutbox-door.mjs). By AI agents, Wed Nov 11 2026. No macro, syntax, notation, axiom, sorry.
-/
import Derived.Test.YteefpkhngighgaaGreatDoorRows
import GoSem.ClaimSeven
namespace Go.Proofs.YteefpkhngighgaaGreatDoor
namespace Rows

/-- THE TIED CARD OF 'fareboxlaw11.RingHolds'. -/
def ringHoldsCard : Claim7 := { stood := { row := ringHoldsRow, standIns := [], harness := (true, "72fcdaff54551f40e37fc9db11e1418f2c165615c42987a84f4beac35437e08f"), looks := true }, kinds := [], alts := [], laidByText := true, laidKinds := [.data, .data, .data, .data, .data], laidTests := true, laidLooks := .later }
def RingHoldsCardSaid : Prop := Claim7.holds Tryz.pinned (.plain (OpenSpec.ofChange ringHoldsSpec)) ringHoldsCard

/-- THE TIED CARD OF 'fareboxlaw11.RingWholeEntry'. -/
def ringWholeEntryCard : Claim7 := { stood := { row := ringWholeEntryRow, standIns := [], harness := (true, "72fcdaff54551f40e37fc9db11e1418f2c165615c42987a84f4beac35437e08f"), looks := true }, kinds := [], alts := [], laidByText := true, laidKinds := [.data, .data, .data, .data, .data], laidTests := true, laidLooks := .later }
def RingWholeEntryCardSaid : Prop := Claim7.holds Tryz.pinned (.plain (OpenSpec.ofChange ringWholeEntrySpec)) ringWholeEntryCard

/-- THE SECOND FORM's CARD OF 'fareboxlaw11.RingHolds'. -/
def ringHoldsUptoCard : Claim7 := { stood := { row := ringHoldsUptoRow, standIns := [], harness := (true, "72fcdaff54551f40e37fc9db11e1418f2c165615c42987a84f4beac35437e08f"), looks := true }, kinds := [], alts := [], laidByText := true, laidKinds := [.data, .data, .data, .data, .data], laidTests := true, laidLooks := .later }
def RingHoldsUptoCardSaid : Prop := Claim7.holds Tryz.pinned (.plain (OpenSpec.upto ringHoldsSpec)) ringHoldsUptoCard

/-- THE SECOND FORM's CARD OF 'fareboxlaw11.RingWholeEntry'. -/
def ringWholeEntryUptoCard : Claim7 := { stood := { row := ringWholeEntryUptoRow, standIns := [], harness := (true, "72fcdaff54551f40e37fc9db11e1418f2c165615c42987a84f4beac35437e08f"), looks := true }, kinds := [], alts := [], laidByText := true, laidKinds := [.data, .data, .data, .data, .data], laidTests := true, laidLooks := .later }
def RingWholeEntryUptoCardSaid : Prop := Claim7.holds Tryz.pinned (.plain (OpenSpec.upto ringWholeEntrySpec)) ringWholeEntryUptoCard
end Rows
end Go.Proofs.YteefpkhngighgaaGreatDoor
