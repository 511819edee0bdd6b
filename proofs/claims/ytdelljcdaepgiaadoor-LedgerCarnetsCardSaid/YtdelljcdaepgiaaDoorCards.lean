/-
  DERIVED. GIVEN WITH THE SEED: THE CARDS: each row of YtdelljcdaepgiaaDoorRows.lean that lists a variable, with what it lists TIED to the program's text (the seventh form; the later family's looks); each row that meets fmt, with fmt's text TOLD by the authors' own Lean function (tested against real Go, not proved from fmt's source: count such statements apart). THE CARD IS WHAT COUNTS. Prove the row's statement (the work); the ties are given (YtdelljcdaepgiaaDoorTie.lean); close each card by the builder's one call (the guide's Derived/Test/ToyasCard.lean, 'card_holds'). Laid BY PROGRAM, IN A SANDBOX (cutbox-door.mjs). By AI agents, Wed Nov 11 2026. No macro, syntax, notation, axiom, sorry.
-/
import Derived.Test.YtdelljcdaepgiaaDoorRows
import GoSem.ClaimSeven
namespace Go.Proofs.YtdelljcdaepgiaaDoor
namespace Rows

/-- THE TIED CARD OF 'fareboxlaw22.LedgerEven'. -/
def ledgerEvenCard : Claim7 := { stood := { row := ledgerEvenRow, standIns := [], harness := (true, "6eadec291aa7f36ff21837f16c51c94e51862ca9d6179429bb8625f291b209a2"), looks := false }, kinds := [], alts := [], laidByText := true, laidKinds := [.data], laidTests := true, laidLooks := .later }
def LedgerEvenCardSaid : Prop := Claim7.holds Tryd.pinned (.plain (OpenSpec.ofChange ledgerEvenSpec)) ledgerEvenCard

/-- THE TIED CARD OF 'fareboxlaw22.LedgerCarnets'. -/
def ledgerCarnetsCard : Claim7 := { stood := { row := ledgerCarnetsRow, standIns := [], harness := (true, "6eadec291aa7f36ff21837f16c51c94e51862ca9d6179429bb8625f291b209a2"), looks := false }, kinds := [], alts := [], laidByText := true, laidKinds := [.data], laidTests := true, laidLooks := .later }
def LedgerCarnetsCardSaid : Prop := Claim7.holds Tryd.pinned (.plain (OpenSpec.ofChange ledgerCarnetsSpec)) ledgerCarnetsCard

/-- THE TIED CARD OF 'fareboxlaw22.LedgerExact'. -/
def ledgerExactCard : Claim7 := { stood := { row := ledgerExactRow, standIns := [], harness := (true, "6eadec291aa7f36ff21837f16c51c94e51862ca9d6179429bb8625f291b209a2"), looks := false }, kinds := [], alts := [], laidByText := true, laidKinds := [.data], laidTests := true, laidLooks := .later }
def LedgerExactCardSaid : Prop := Claim7.holds Tryd.pinned (.plain (OpenSpec.ofChange ledgerExactSpec)) ledgerExactCard

/-- THE SECOND FORM's CARD OF 'fareboxlaw22.LedgerEven'. -/
def ledgerEvenUptoCard : Claim7 := { stood := { row := ledgerEvenUptoRow, standIns := [], harness := (true, "6eadec291aa7f36ff21837f16c51c94e51862ca9d6179429bb8625f291b209a2"), looks := false }, kinds := [], alts := [], laidByText := true, laidKinds := [.data], laidTests := true, laidLooks := .later }
def LedgerEvenUptoCardSaid : Prop := Claim7.holds Tryd.pinned (.plain (OpenSpec.upto ledgerEvenSpec)) ledgerEvenUptoCard

/-- THE SECOND FORM's CARD OF 'fareboxlaw22.LedgerCarnets'. -/
def ledgerCarnetsUptoCard : Claim7 := { stood := { row := ledgerCarnetsUptoRow, standIns := [], harness := (true, "6eadec291aa7f36ff21837f16c51c94e51862ca9d6179429bb8625f291b209a2"), looks := false }, kinds := [], alts := [], laidByText := true, laidKinds := [.data], laidTests := true, laidLooks := .later }
def LedgerCarnetsUptoCardSaid : Prop := Claim7.holds Tryd.pinned (.plain (OpenSpec.upto ledgerCarnetsSpec)) ledgerCarnetsUptoCard

/-- THE SECOND FORM's CARD OF 'fareboxlaw22.LedgerExact'. -/
def ledgerExactUptoCard : Claim7 := { stood := { row := ledgerExactUptoRow, standIns := [], harness := (true, "6eadec291aa7f36ff21837f16c51c94e51862ca9d6179429bb8625f291b209a2"), looks := false }, kinds := [], alts := [], laidByText := true, laidKinds := [.data], laidTests := true, laidLooks := .later }
def LedgerExactUptoCardSaid : Prop := Claim7.holds Tryd.pinned (.plain (OpenSpec.upto ledgerExactSpec)) ledgerExactUptoCard
end Rows
end Go.Proofs.YtdelljcdaepgiaaDoor
