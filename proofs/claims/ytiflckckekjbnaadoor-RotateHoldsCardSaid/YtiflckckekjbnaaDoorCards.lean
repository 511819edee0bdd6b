/-
  DERIVED. GIVEN WITH THE SEED: THE CARDS: each row of YtiflckckekjbnaaDoorRows.lean that lists a variable, with what it lists TIED to the program's text (the seventh form; the later family's looks); each row that meets fmt, with fmt's text TOLD by the authors' own Lean function (tested against real Go, not proved from fmt's source: count such statements apart). THE CARD IS WHAT COUNTS. Prove the row's statement (the work); the ties are given (YtiflckckekjbnaaDoorTie.lean); close each card by the builder's one call (the guide's Derived/Test/ToyasCard.lean, 'card_holds'). Laid BY PROGRAM, IN A SANDBOX (cutbox-door.mjs). By AI agents, Wed Nov 11 2026. No macro, syntax, notation, axiom, sorry.
-/
import Derived.Test.YtiflckckekjbnaaDoorRows
import GoSem.ClaimSeven
namespace Go.Proofs.YtiflckckekjbnaaDoor
namespace Rows

/-- THE TIED CARD OF 'fareboxlaw08.SignEach'. -/
def signEachCard : Claim7 := { stood := { row := signEachRow, standIns := [], harness := (true, "bf32618f76c4df2abd3bf3890172ce253f595848c50419bf7240a6be9f031777"), looks := false }, kinds := [], alts := [], laidByText := true, laidKinds := [.data, .data, .data], laidTests := true, laidLooks := .later }
def SignEachCardSaid : Prop := Claim7.holds Tryd.pinned (.plain (OpenSpec.ofChange signEachSpec)) signEachCard

/-- THE TIED CARD OF 'fareboxlaw08.SignHolds'. -/
def signHoldsCard : Claim7 := { stood := { row := signHoldsRow, standIns := [], harness := (true, "bf32618f76c4df2abd3bf3890172ce253f595848c50419bf7240a6be9f031777"), looks := false }, kinds := [], alts := [], laidByText := true, laidKinds := [.data, .data, .data], laidTests := true, laidLooks := .later }
def SignHoldsCardSaid : Prop := Claim7.holds Tryd.pinned (.plain (OpenSpec.ofChange signHoldsSpec)) signHoldsCard

/-- THE TIED CARD OF 'fareboxlaw08.SignOnce'. -/
def signOnceCard : Claim7 := { stood := { row := signOnceRow, standIns := [], harness := (true, "bf32618f76c4df2abd3bf3890172ce253f595848c50419bf7240a6be9f031777"), looks := false }, kinds := [], alts := [], laidByText := true, laidKinds := [.data, .data, .data], laidTests := true, laidLooks := .later }
def SignOnceCardSaid : Prop := Claim7.holds Tryd.pinned (.plain (OpenSpec.ofChange signOnceSpec)) signOnceCard

/-- THE TIED CARD OF 'fareboxlaw30.RotateHolds'. -/
def rotateHoldsCard : Claim7 := { stood := { row := rotateHoldsRow, standIns := [], harness := (true, "bf32618f76c4df2abd3bf3890172ce253f595848c50419bf7240a6be9f031777"), looks := false }, kinds := [], alts := [], laidByText := true, laidKinds := [.data, .data, .data], laidTests := true, laidLooks := .later }
def RotateHoldsCardSaid : Prop := Claim7.holds Tryd.pinned (.plain (OpenSpec.ofChange rotateHoldsSpec)) rotateHoldsCard

/-- THE SECOND FORM's CARD OF 'fareboxlaw08.SignEach'. -/
def signEachUptoCard : Claim7 := { stood := { row := signEachUptoRow, standIns := [], harness := (true, "bf32618f76c4df2abd3bf3890172ce253f595848c50419bf7240a6be9f031777"), looks := false }, kinds := [], alts := [], laidByText := true, laidKinds := [.data, .data, .data], laidTests := true, laidLooks := .later }
def SignEachUptoCardSaid : Prop := Claim7.holds Tryd.pinned (.plain (OpenSpec.upto signEachSpec)) signEachUptoCard

/-- THE SECOND FORM's CARD OF 'fareboxlaw08.SignHolds'. -/
def signHoldsUptoCard : Claim7 := { stood := { row := signHoldsUptoRow, standIns := [], harness := (true, "bf32618f76c4df2abd3bf3890172ce253f595848c50419bf7240a6be9f031777"), looks := false }, kinds := [], alts := [], laidByText := true, laidKinds := [.data, .data, .data], laidTests := true, laidLooks := .later }
def SignHoldsUptoCardSaid : Prop := Claim7.holds Tryd.pinned (.plain (OpenSpec.upto signHoldsSpec)) signHoldsUptoCard

/-- THE SECOND FORM's CARD OF 'fareboxlaw08.SignOnce'. -/
def signOnceUptoCard : Claim7 := { stood := { row := signOnceUptoRow, standIns := [], harness := (true, "bf32618f76c4df2abd3bf3890172ce253f595848c50419bf7240a6be9f031777"), looks := false }, kinds := [], alts := [], laidByText := true, laidKinds := [.data, .data, .data], laidTests := true, laidLooks := .later }
def SignOnceUptoCardSaid : Prop := Claim7.holds Tryd.pinned (.plain (OpenSpec.upto signOnceSpec)) signOnceUptoCard

/-- THE SECOND FORM's CARD OF 'fareboxlaw30.RotateHolds'. -/
def rotateHoldsUptoCard : Claim7 := { stood := { row := rotateHoldsUptoRow, standIns := [], harness := (true, "bf32618f76c4df2abd3bf3890172ce253f595848c50419bf7240a6be9f031777"), looks := false }, kinds := [], alts := [], laidByText := true, laidKinds := [.data, .data, .data], laidTests := true, laidLooks := .later }
def RotateHoldsUptoCardSaid : Prop := Claim7.holds Tryd.pinned (.plain (OpenSpec.upto rotateHoldsSpec)) rotateHoldsUptoCard
end Rows
end Go.Proofs.YtiflckckekjbnaaDoor
