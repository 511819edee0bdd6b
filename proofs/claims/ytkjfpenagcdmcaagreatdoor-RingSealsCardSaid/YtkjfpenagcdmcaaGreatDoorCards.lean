/-
  DERIVED. GIVEN WITH THE SEED: THE CARDS: each row of YtkjfpenagcdmcaaGreatDoorRows.lean that lists a variable, with what it lists TIED to the program's text (the seventh form; the later family's looks); each row that meets fmt, with fmt's text TOLD by the authors' own Lean function (tested against real Go, not proved from fmt's source: count such statements apart). THE CARD IS WHAT COUNTS. Prove the row's statement (the work); the ties are given (YtkjfpenagcdmcaaGreatDoorTie.lean); close each card by the builder's one call (the guide's Derived/Test/ToyasCard.lean, 'card_holds'). Laid BY PROGRAM, IN A SANDBOX (cutbox-door.mjs). By AI agents, Wed Nov 11 2026. No macro, syntax, notation, axiom, sorry.
-/
import Derived.Test.YtkjfpenagcdmcaaGreatDoorRows
import GoSem.ClaimSeven
namespace Go.Proofs.YtkjfpenagcdmcaaGreatDoor
namespace Rows

/-- THE TIED CARD OF 'fareboxlaw11.RingSeals'. -/
def ringSealsCard : Claim7 := { stood := { row := ringSealsRow, standIns := [], harness := (true, "4b45141b498ba53f9962fe5a4d1b8925090f85d0613ca9e853f56c32dbd358d9"), looks := true }, kinds := [], alts := [], laidByText := true, laidKinds := [.data, .data, .data, .data, .data], laidTests := true, laidLooks := .later }
def RingSealsCardSaid : Prop := Claim7.holds Tryz.pinned (.plain (OpenSpec.ofChange ringSealsSpec)) ringSealsCard

/-- THE TIED CARD OF 'fareboxlaw11.RingChecks'. -/
def ringChecksCard : Claim7 := { stood := { row := ringChecksRow, standIns := [], harness := (true, "4b45141b498ba53f9962fe5a4d1b8925090f85d0613ca9e853f56c32dbd358d9"), looks := true }, kinds := [], alts := [], laidByText := true, laidKinds := [.data, .data, .data, .data, .data], laidTests := true, laidLooks := .later }
def RingChecksCardSaid : Prop := Claim7.holds Tryz.pinned (.plain (OpenSpec.ofChange ringChecksSpec)) ringChecksCard

/-- THE TIED CARD OF 'fareboxlaw11.RingEntries'. -/
def ringEntriesCard : Claim7 := { stood := { row := ringEntriesRow, standIns := [], harness := (true, "4b45141b498ba53f9962fe5a4d1b8925090f85d0613ca9e853f56c32dbd358d9"), looks := true }, kinds := [], alts := [], laidByText := true, laidKinds := [.data, .data, .data, .data, .data, .data, .data], laidTests := true, laidLooks := .later }
def RingEntriesCardSaid : Prop := Claim7.holds Tryz.pinned (.plain (OpenSpec.ofChange ringEntriesSpec)) ringEntriesCard

/-- THE SECOND FORM's CARD OF 'fareboxlaw11.RingSeals'. -/
def ringSealsUptoCard : Claim7 := { stood := { row := ringSealsUptoRow, standIns := [], harness := (true, "4b45141b498ba53f9962fe5a4d1b8925090f85d0613ca9e853f56c32dbd358d9"), looks := true }, kinds := [], alts := [], laidByText := true, laidKinds := [.data, .data, .data, .data, .data], laidTests := true, laidLooks := .later }
def RingSealsUptoCardSaid : Prop := Claim7.holds Tryz.pinned (.plain (OpenSpec.upto ringSealsSpec)) ringSealsUptoCard

/-- THE SECOND FORM's CARD OF 'fareboxlaw11.RingChecks'. -/
def ringChecksUptoCard : Claim7 := { stood := { row := ringChecksUptoRow, standIns := [], harness := (true, "4b45141b498ba53f9962fe5a4d1b8925090f85d0613ca9e853f56c32dbd358d9"), looks := true }, kinds := [], alts := [], laidByText := true, laidKinds := [.data, .data, .data, .data, .data], laidTests := true, laidLooks := .later }
def RingChecksUptoCardSaid : Prop := Claim7.holds Tryz.pinned (.plain (OpenSpec.upto ringChecksSpec)) ringChecksUptoCard

/-- THE SECOND FORM's CARD OF 'fareboxlaw11.RingEntries'. -/
def ringEntriesUptoCard : Claim7 := { stood := { row := ringEntriesUptoRow, standIns := [], harness := (true, "4b45141b498ba53f9962fe5a4d1b8925090f85d0613ca9e853f56c32dbd358d9"), looks := true }, kinds := [], alts := [], laidByText := true, laidKinds := [.data, .data, .data, .data, .data, .data, .data], laidTests := true, laidLooks := .later }
def RingEntriesUptoCardSaid : Prop := Claim7.holds Tryz.pinned (.plain (OpenSpec.upto ringEntriesSpec)) ringEntriesUptoCard
end Rows
end Go.Proofs.YtkjfpenagcdmcaaGreatDoor
