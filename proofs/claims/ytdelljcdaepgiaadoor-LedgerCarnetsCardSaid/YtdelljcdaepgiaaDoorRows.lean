/-
  NARROWER THAN 'FOR EVERY INPUT', by the rows' own cells (each row's printed sentence says how): LedgerEven: laid · LedgerCarnets: laid · LedgerExact: laid.
  DERIVED. THE GIVEN ROWS OF THIS SEAT. 3 by the template 'for every input the law returns true; each argument reads behind the call as it read before'; 0 by the template 'total and deterministic' (their statements: YtdelljcdaepgiaaDoorTotals.lean).
  GIVEN WITH THE SEED: the statements are not yours to turn. If you find one false, say at which input.
  Laid BY PROGRAM, IN A SANDBOX (cutbox-rows.mjs): the forced cells as the released guide's own fill.sh prints them over the translation 2a4f09e1cf090f82… (all of the seat's roots in one cut). By AI agents, Wed Nov 11 2026. No macro, syntax, notation, axiom, sorry.
-/
import Derived.Test.YtdelljcdaepgiaaDoorChecked
import GoSem.Claim
import GoSem.ClaimJoined
import GoSem.ClaimMapViews
import Derived.JoinedTies
import Derived.KernelRfl
namespace Go.Proofs.YtdelljcdaepgiaaDoor
/- THE CELL 'sum', in the pinned program and in every row, IS THE sha256 OF THE DUMP (.gsa) THAT YtdelljcdaepgiaaDoorProg.lean LOADS. Nothing in Lean hashes anything: it is a label: what it is worth is what the hold of that sum in a sandbox is worth. -/
noncomputable def Tryd.pinned : Pinned := { name := "ytdelljcdaepgiaadoor", sum := "2a4f09e1cf090f82f3548cb81f98ce69c54b753834983b1f13dd398ae510f2a3", checked := Tryd.checked }
namespace Rows
def none {H : Type} : Left H := { results := [], args := [] }

/- WHAT THE LISTED PACKAGE-LEVEL VARIABLES READ AS WHEN THE CALL BEGINS. Each datum BY PROGRAM (the guide's laid-datum.mjs) off the statement by which the dump's own 'gosem.cut.vars' lays the variable. In a bare row this is a premise. The card (YtdelljcdaepgiaaDoorCards.lean) ties it to the program's text. -/
def laid_farebox_ledger_side {H : Type} : DataW H := .agg [.lit (.int .i64 1), .lit (.int .i64 (-1)), .lit (.int .i64 (-1))]

/-- 'fareboxlaw22.LedgerEven': WHATEVER THE INPUT: true; the input reads as it did. -/
def ledgerEvenSpec : ChangeSpec := { name := "ledgerEven", fn := fun _ => fun
  | [d1, d2, d3] => { results := [.lit (.bool true)], args := [d1, d2, d3] }
  | _ => none }
def ledgerEvenRow : OpenClaim := { program := "ytdelljcdaepgiaadoor", sum := "2a4f09e1cf090f82f3548cb81f98ce69c54b753834983b1f13dd398ae510f2a3", func := "farebox/fareboxlaw22.LedgerEven", spec := "ledgerEven", named := ["farebox/ledger.side"], apart := false, laid := [("farebox/ledger.side", laid_farebox_ledger_side)] }
def LedgerEvenSaid : Prop := ledgerEvenRow.holds Tryd.pinned (OpenSpec.ofChange ledgerEvenSpec)

/-- ITS FALSE NEIGHBOUR: 'it returns false'. Refute it at one input. -/
def ledgerEvenWrong : ChangeSpec := { name := "ledgerEven", fn := fun _ => fun
  | [d1, d2, d3] => { results := [.lit (.bool false)], args := [d1, d2, d3] }
  | _ => none }
def LedgerEvenWrongFalsely : Prop := ledgerEvenRow.holds Tryd.pinned (OpenSpec.ofChange ledgerEvenWrong)

/-- 'fareboxlaw22.LedgerCarnets': WHATEVER THE INPUT: true; the input reads as it did. -/
def ledgerCarnetsSpec : ChangeSpec := { name := "ledgerCarnets", fn := fun _ => fun
  | [d] => { results := [.lit (.bool true)], args := [d] }
  | _ => none }
def ledgerCarnetsRow : OpenClaim := { program := "ytdelljcdaepgiaadoor", sum := "2a4f09e1cf090f82f3548cb81f98ce69c54b753834983b1f13dd398ae510f2a3", func := "farebox/fareboxlaw22.LedgerCarnets", spec := "ledgerCarnets", named := ["farebox/ledger.side"], apart := false, laid := [("farebox/ledger.side", laid_farebox_ledger_side)] }
def LedgerCarnetsSaid : Prop := ledgerCarnetsRow.holds Tryd.pinned (OpenSpec.ofChange ledgerCarnetsSpec)

/-- ITS FALSE NEIGHBOUR: 'it returns false'. Refute it at one input. -/
def ledgerCarnetsWrong : ChangeSpec := { name := "ledgerCarnets", fn := fun _ => fun
  | [d] => { results := [.lit (.bool false)], args := [d] }
  | _ => none }
def LedgerCarnetsWrongFalsely : Prop := ledgerCarnetsRow.holds Tryd.pinned (OpenSpec.ofChange ledgerCarnetsWrong)

/-- 'fareboxlaw22.LedgerExact': WHATEVER THE INPUT: true; the input reads as it did. -/
def ledgerExactSpec : ChangeSpec := { name := "ledgerExact", fn := fun _ => fun
  | [d1, d2] => { results := [.lit (.bool true)], args := [d1, d2] }
  | _ => none }
def ledgerExactRow : OpenClaim := { program := "ytdelljcdaepgiaadoor", sum := "2a4f09e1cf090f82f3548cb81f98ce69c54b753834983b1f13dd398ae510f2a3", func := "farebox/fareboxlaw22.LedgerExact", spec := "ledgerExact", named := ["farebox/ledger.side"], apart := false, laid := [("farebox/ledger.side", laid_farebox_ledger_side)] }
def LedgerExactSaid : Prop := ledgerExactRow.holds Tryd.pinned (OpenSpec.ofChange ledgerExactSpec)

/-- ITS FALSE NEIGHBOUR: 'it returns false'. Refute it at one input. -/
def ledgerExactWrong : ChangeSpec := { name := "ledgerExact", fn := fun _ => fun
  | [d1, d2] => { results := [.lit (.bool false)], args := [d1, d2] }
  | _ => none }
def LedgerExactWrongFalsely : Prop := ledgerExactRow.holds Tryd.pinned (OpenSpec.ofChange ledgerExactWrong)

/- THE SECOND FORM. 'bulk': how many values and letters a reading holds, each counted each time it is reached (what is shared counts as often as it is met; a slice's spare places count too). A statement '..UptoSaid' is the law's where the arguments, and the package variables that the reading takes, are together of bulk at most 1048576: NARROWER than '..Said'. Prove '..Said' where nothing that the law and all that it calls make is longer than what came in: it says more and counts as full. Else prove '..UptoSaid'. A law counts once. -/
mutual
def uptoBulk {H : Type} : DataW H → Nat
  | .lit (.string bytes) => bytes.length + 1
  | .lit _ => 1
  | .nil => 1
  | .ptr d => uptoBulk d + 1
  | .slice elems spare => uptoBulkAll elems + uptoBulkAll spare + 1
  | .agg parts => uptoBulkAll parts + 1
  | .iface _ d => uptoBulk d + 1
  | .map entries => uptoBulkEntries entries + 1
  | .held _ => 1
def uptoBulkAll {H : Type} : List (DataW H) → Nat
  | [] => 0
  | d :: r => uptoBulk d + uptoBulkAll r
def uptoBulkEntries {H : Type} : List (Lit × DataW H) → Nat
  | [] => 0
  | x :: r => uptoBulkEntry x + uptoBulkEntries r
def uptoBulkEntry {H : Type} : Lit × DataW H → Nat
  | (.string bytes, d) => bytes.length + uptoBulk d + 1
  | (_, d) => uptoBulk d + 1
 end
def uptoSmall : (H : Type) → List (DataW H) → Bool := fun _ ds => decide (uptoBulkAll ds ≤ 1048576)
def OpenSpec.upto (s : _root_.Go.ChangeSpec) : _root_.Go.OpenSpec := { _root_.Go.OpenSpec.ofChange s with cond := some uptoSmall }

/-- 'fareboxlaw22.LedgerEven', WHERE WHAT IT READS IS OF BULK AT MOST 1048576: true; the input reads as it did. -/
def ledgerEvenUptoRow : OpenClaim := { program := "ytdelljcdaepgiaadoor", sum := "2a4f09e1cf090f82f3548cb81f98ce69c54b753834983b1f13dd398ae510f2a3", func := "farebox/fareboxlaw22.LedgerEven", spec := "ledgerEven", named := ["farebox/ledger.side"], apart := false, laid := [("farebox/ledger.side", laid_farebox_ledger_side)], narrowed := true }
def LedgerEvenUptoSaid : Prop := ledgerEvenUptoRow.holds Tryd.pinned (OpenSpec.upto ledgerEvenSpec)

/-- 'fareboxlaw22.LedgerCarnets', WHERE WHAT IT READS IS OF BULK AT MOST 1048576: true; the input reads as it did. -/
def ledgerCarnetsUptoRow : OpenClaim := { program := "ytdelljcdaepgiaadoor", sum := "2a4f09e1cf090f82f3548cb81f98ce69c54b753834983b1f13dd398ae510f2a3", func := "farebox/fareboxlaw22.LedgerCarnets", spec := "ledgerCarnets", named := ["farebox/ledger.side"], apart := false, laid := [("farebox/ledger.side", laid_farebox_ledger_side)], narrowed := true }
def LedgerCarnetsUptoSaid : Prop := ledgerCarnetsUptoRow.holds Tryd.pinned (OpenSpec.upto ledgerCarnetsSpec)

/-- 'fareboxlaw22.LedgerExact', WHERE WHAT IT READS IS OF BULK AT MOST 1048576: true; the input reads as it did. -/
def ledgerExactUptoRow : OpenClaim := { program := "ytdelljcdaepgiaadoor", sum := "2a4f09e1cf090f82f3548cb81f98ce69c54b753834983b1f13dd398ae510f2a3", func := "farebox/fareboxlaw22.LedgerExact", spec := "ledgerExact", named := ["farebox/ledger.side"], apart := false, laid := [("farebox/ledger.side", laid_farebox_ledger_side)], narrowed := true }
def LedgerExactUptoSaid : Prop := ledgerExactUptoRow.holds Tryd.pinned (OpenSpec.upto ledgerExactSpec)

end Rows
end Go.Proofs.YtdelljcdaepgiaaDoor
