/-
  DERIVED. GIVEN WITH THE SEED: THE CARDS: each row of YtiflckckekjbnaaGreatDoorRows.lean that lists a variable, with what it lists TIED to the program's text (the seventh form; the later family's looks); each row that meets fmt, with fmt's text TOLD by the authors' own Lean function (tested against real Go, not proved from fmt's source: count such statements apart). THE CARD IS WHAT COUNTS. Prove the row's statement (the work); the ties are given (YtiflckckekjbnaaGreatDoorTie.lean); close each card by the builder's one call (the guide's Derived/Test/ToyasCard.lean, 'card_holds'). Laid BY PROGRAM, IN A SANDBOX (cutbox-door.mjs). By AI agents, Wed Nov 11 2026. No macro, syntax, notation, axiom, sorry.
-/
import Derived.Test.YtiflckckekjbnaaGreatDoorRows
import GoSem.ClaimSeven
namespace Go.Proofs.YtiflckckekjbnaaGreatDoor
namespace Rows

/-- THE TIED CARD OF 'fareboxlaw08.SignSigns'. -/
def signSignsCard : Claim7 := { stood := { row := signSignsRow, standIns := [], harness := (true, "1d8087243e415c7bcaf2b694f10484aae6c10c0460a221fe3f96c1b367ade8be"), looks := false }, kinds := [], alts := [], laidByText := true, laidKinds := [.data, .data, .data, .data, .data], laidTests := true, laidLooks := .later }
def SignSignsCardSaid : Prop := Claim7.holds Tryz.pinned (.plain (OpenSpec.ofChange signSignsSpec)) signSignsCard

/-- THE TIED CARD OF 'fareboxlaw11.RingKeys'. -/
def ringKeysCard : Claim7 := { stood := { row := ringKeysRow, standIns := [], harness := (true, "1d8087243e415c7bcaf2b694f10484aae6c10c0460a221fe3f96c1b367ade8be"), looks := false }, kinds := [], alts := [], laidByText := true, laidKinds := [.data, .data, .data, .data, .data, .data], laidTests := true, laidLooks := .later }
def RingKeysCardSaid : Prop := Claim7.holds Tryz.pinned (.plain (OpenSpec.ofChange ringKeysSpec)) ringKeysCard

/-- THE TIED CARD OF 'fareboxlaw08.SignVerifies'. -/
def signVerifiesCard : Claim7 := { stood := { row := signVerifiesRow, standIns := [], harness := (true, "1d8087243e415c7bcaf2b694f10484aae6c10c0460a221fe3f96c1b367ade8be"), looks := false }, kinds := [], alts := [], laidByText := true, laidKinds := [.data, .data, .data, .data, .data], laidTests := true, laidLooks := .later }
def SignVerifiesCardSaid : Prop := Claim7.holds Tryz.pinned (.plain (OpenSpec.ofChange signVerifiesSpec)) signVerifiesCard

/-- THE TIED CARD OF 'fareboxlaw30.RotateSeals'. -/
def rotateSealsCard : Claim7 := { stood := { row := rotateSealsRow, standIns := [], harness := (true, "1d8087243e415c7bcaf2b694f10484aae6c10c0460a221fe3f96c1b367ade8be"), looks := false }, kinds := [], alts := [], laidByText := true, laidKinds := [.data, .data, .data, .data, .data], laidTests := true, laidLooks := .later }
def RotateSealsCardSaid : Prop := Claim7.holds Tryz.pinned (.plain (OpenSpec.ofChange rotateSealsSpec)) rotateSealsCard

/-- THE TIED CARD OF 'fareboxlaw30.RotateFollows'. -/
def rotateFollowsCard : Claim7 := { stood := { row := rotateFollowsRow, standIns := [], harness := (true, "1d8087243e415c7bcaf2b694f10484aae6c10c0460a221fe3f96c1b367ade8be"), looks := false }, kinds := [], alts := [], laidByText := true, laidKinds := [.data, .data, .data, .data, .data], laidTests := true, laidLooks := .later }
def RotateFollowsCardSaid : Prop := Claim7.holds Tryz.pinned (.plain (OpenSpec.ofChange rotateFollowsSpec)) rotateFollowsCard

/-- THE TIED CARD OF 'fareboxlaw30.RotateMerges'. -/
def rotateMergesCard : Claim7 := { stood := { row := rotateMergesRow, standIns := [], harness := (true, "1d8087243e415c7bcaf2b694f10484aae6c10c0460a221fe3f96c1b367ade8be"), looks := false }, kinds := [], alts := [], laidByText := true, laidKinds := [.data, .data, .data, .data, .data], laidTests := true, laidLooks := .later }
def RotateMergesCardSaid : Prop := Claim7.holds Tryz.pinned (.plain (OpenSpec.ofChange rotateMergesSpec)) rotateMergesCard

/-- THE TIED CARD OF 'fareboxlaw30.RotateOneWay'. -/
def rotateOneWayCard : Claim7 := { stood := { row := rotateOneWayRow, standIns := [], harness := (true, "1d8087243e415c7bcaf2b694f10484aae6c10c0460a221fe3f96c1b367ade8be"), looks := false }, kinds := [], alts := [], laidByText := true, laidKinds := [.data, .data, .data], laidTests := true, laidLooks := .later }
def RotateOneWayCardSaid : Prop := Claim7.holds Tryz.pinned (.plain (OpenSpec.ofChange rotateOneWaySpec)) rotateOneWayCard

/-- THE SECOND FORM's CARD OF 'fareboxlaw08.SignSigns'. -/
def signSignsUptoCard : Claim7 := { stood := { row := signSignsUptoRow, standIns := [], harness := (true, "1d8087243e415c7bcaf2b694f10484aae6c10c0460a221fe3f96c1b367ade8be"), looks := false }, kinds := [], alts := [], laidByText := true, laidKinds := [.data, .data, .data, .data, .data], laidTests := true, laidLooks := .later }
def SignSignsUptoCardSaid : Prop := Claim7.holds Tryz.pinned (.plain (OpenSpec.upto signSignsSpec)) signSignsUptoCard

/-- THE SECOND FORM's CARD OF 'fareboxlaw11.RingKeys'. -/
def ringKeysUptoCard : Claim7 := { stood := { row := ringKeysUptoRow, standIns := [], harness := (true, "1d8087243e415c7bcaf2b694f10484aae6c10c0460a221fe3f96c1b367ade8be"), looks := false }, kinds := [], alts := [], laidByText := true, laidKinds := [.data, .data, .data, .data, .data, .data], laidTests := true, laidLooks := .later }
def RingKeysUptoCardSaid : Prop := Claim7.holds Tryz.pinned (.plain (OpenSpec.upto ringKeysSpec)) ringKeysUptoCard

/-- THE SECOND FORM's CARD OF 'fareboxlaw08.SignVerifies'. -/
def signVerifiesUptoCard : Claim7 := { stood := { row := signVerifiesUptoRow, standIns := [], harness := (true, "1d8087243e415c7bcaf2b694f10484aae6c10c0460a221fe3f96c1b367ade8be"), looks := false }, kinds := [], alts := [], laidByText := true, laidKinds := [.data, .data, .data, .data, .data], laidTests := true, laidLooks := .later }
def SignVerifiesUptoCardSaid : Prop := Claim7.holds Tryz.pinned (.plain (OpenSpec.upto signVerifiesSpec)) signVerifiesUptoCard

/-- THE SECOND FORM's CARD OF 'fareboxlaw30.RotateSeals'. -/
def rotateSealsUptoCard : Claim7 := { stood := { row := rotateSealsUptoRow, standIns := [], harness := (true, "1d8087243e415c7bcaf2b694f10484aae6c10c0460a221fe3f96c1b367ade8be"), looks := false }, kinds := [], alts := [], laidByText := true, laidKinds := [.data, .data, .data, .data, .data], laidTests := true, laidLooks := .later }
def RotateSealsUptoCardSaid : Prop := Claim7.holds Tryz.pinned (.plain (OpenSpec.upto rotateSealsSpec)) rotateSealsUptoCard

/-- THE SECOND FORM's CARD OF 'fareboxlaw30.RotateFollows'. -/
def rotateFollowsUptoCard : Claim7 := { stood := { row := rotateFollowsUptoRow, standIns := [], harness := (true, "1d8087243e415c7bcaf2b694f10484aae6c10c0460a221fe3f96c1b367ade8be"), looks := false }, kinds := [], alts := [], laidByText := true, laidKinds := [.data, .data, .data, .data, .data], laidTests := true, laidLooks := .later }
def RotateFollowsUptoCardSaid : Prop := Claim7.holds Tryz.pinned (.plain (OpenSpec.upto rotateFollowsSpec)) rotateFollowsUptoCard

/-- THE SECOND FORM's CARD OF 'fareboxlaw30.RotateMerges'. -/
def rotateMergesUptoCard : Claim7 := { stood := { row := rotateMergesUptoRow, standIns := [], harness := (true, "1d8087243e415c7bcaf2b694f10484aae6c10c0460a221fe3f96c1b367ade8be"), looks := false }, kinds := [], alts := [], laidByText := true, laidKinds := [.data, .data, .data, .data, .data], laidTests := true, laidLooks := .later }
def RotateMergesUptoCardSaid : Prop := Claim7.holds Tryz.pinned (.plain (OpenSpec.upto rotateMergesSpec)) rotateMergesUptoCard

/-- THE SECOND FORM's CARD OF 'fareboxlaw30.RotateOneWay'. -/
def rotateOneWayUptoCard : Claim7 := { stood := { row := rotateOneWayUptoRow, standIns := [], harness := (true, "1d8087243e415c7bcaf2b694f10484aae6c10c0460a221fe3f96c1b367ade8be"), looks := false }, kinds := [], alts := [], laidByText := true, laidKinds := [.data, .data, .data], laidTests := true, laidLooks := .later }
def RotateOneWayUptoCardSaid : Prop := Claim7.holds Tryz.pinned (.plain (OpenSpec.upto rotateOneWaySpec)) rotateOneWayUptoCard
end Rows
end Go.Proofs.YtiflckckekjbnaaGreatDoor
