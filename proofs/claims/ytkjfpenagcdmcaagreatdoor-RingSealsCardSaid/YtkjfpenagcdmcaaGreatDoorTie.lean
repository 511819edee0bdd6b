/-
  DERIVED. GIVEN WITH THE SEED: THE PROGRAM's TIES (one call each: nine closed facts by the kernel) AND EACH ROW's TIE, after the 31st guide's Derived/Test/Toyas{Tie, Card}.lean. No idea stands in it: it is a product of the set-up. Laid BY PROGRAM, IN A SANDBOX (cutbox-door.mjs). By AI agents, Wed Nov 11 2026. No macro, syntax, notation, axiom, sorry.
-/
import Derived.Test.YtkjfpenagcdmcaaGreatDoorRows
import Derived.LaidByTextLater
import Derived.SevenTiedAt
import Derived.LaidSub
import Derived.LaidOnce
namespace Go.Proofs.YtkjfpenagcdmcaaGreatDoor
open Go
set_option maxRecDepth 100000
theorem seatTie1 : Tryz.prog.laidByTextLater [("farebox/fareboxref03.K", Rows.laid_farebox_fareboxref03_K), ("farebox/fareboxref03.First", Rows.laid_farebox_fareboxref03_First), ("farebox/sha512.table", Rows.laid_farebox_sha512_table), ("farebox/sha512.first", Rows.laid_farebox_sha512_first), ("farebox/scalar.order", Rows.laid_farebox_scalar_order)] [.data, .data, .data, .data, .data] true :=
  Program.laidByTextLater_by_one 44 8 81 (by kernel_rfl) (by kernel_rfl) (by kernel_rfl) (by kernel_rfl) (by kernel_rfl) (by kernel_rfl) (fun _ _ => by kernel_rfl)
theorem seatTie2 : Tryz.prog.laidByTextLater [("farebox/fareboxref03.K", Rows.laid_farebox_fareboxref03_K), ("farebox/fareboxref03.First", Rows.laid_farebox_fareboxref03_First), ("farebox/sha256.first", Rows.laid_farebox_sha256_first), ("farebox/sha256.constants", Rows.laid_farebox_sha256_constants), ("farebox/sha512.table", Rows.laid_farebox_sha512_table), ("farebox/sha512.first", Rows.laid_farebox_sha512_first), ("farebox/scalar.order", Rows.laid_farebox_scalar_order)] [.data, .data, .data, .data, .data, .data, .data] true :=
  Program.laidByTextLater_by_one 44 8 81 (by kernel_rfl) (by kernel_rfl) (by kernel_rfl) (by kernel_rfl) (by kernel_rfl) (by kernel_rfl) (fun _ _ => by kernel_rfl)
theorem noOwnUnsafe : Tryz.pinned.checked.prog.headLifts.contains "ownunsafe" = false := by kernel_rfl
theorem tie : Tryz.prog.laidByTextLater [("farebox/fareboxref03.K", Rows.laid_farebox_fareboxref03_K), ("farebox/fareboxref03.First", Rows.laid_farebox_fareboxref03_First), ("farebox/sha512.table", Rows.laid_farebox_sha512_table), ("farebox/sha512.first", Rows.laid_farebox_sha512_first), ("farebox/scalar.order", Rows.laid_farebox_scalar_order)] [.data, .data, .data, .data, .data] true :=
  Program.laidByTextLater.sub seatTie1 ["farebox/fareboxref03.K", "farebox/fareboxref03.First", "farebox/sha512.table", "farebox/sha512.first", "farebox/scalar.order"] (by kernel_rfl) (by kernel_rfl)
theorem ringSeals_row_tie : Rows.ringSealsRow.laidByTextAt .later Tryz.pinned [.data, .data, .data, .data, .data] true :=
  OpenClaim.laidByTextAt_later rfl rfl tie noOwnUnsafe
theorem ringChecks_row_tie : Rows.ringChecksRow.laidByTextAt .later Tryz.pinned [.data, .data, .data, .data, .data] true :=
  OpenClaim.laidByTextAt_later rfl rfl tie noOwnUnsafe
theorem tie2 : Tryz.prog.laidByTextLater [("farebox/fareboxref03.K", Rows.laid_farebox_fareboxref03_K), ("farebox/fareboxref03.First", Rows.laid_farebox_fareboxref03_First), ("farebox/sha256.first", Rows.laid_farebox_sha256_first), ("farebox/sha256.constants", Rows.laid_farebox_sha256_constants), ("farebox/sha512.table", Rows.laid_farebox_sha512_table), ("farebox/sha512.first", Rows.laid_farebox_sha512_first), ("farebox/scalar.order", Rows.laid_farebox_scalar_order)] [.data, .data, .data, .data, .data, .data, .data] true :=
  Program.laidByTextLater.sub seatTie2 ["farebox/fareboxref03.K", "farebox/fareboxref03.First", "farebox/sha256.first", "farebox/sha256.constants", "farebox/sha512.table", "farebox/sha512.first", "farebox/scalar.order"] (by kernel_rfl) (by kernel_rfl)
theorem ringEntries_row_tie : Rows.ringEntriesRow.laidByTextAt .later Tryz.pinned [.data, .data, .data, .data, .data, .data, .data] true :=
  OpenClaim.laidByTextAt_later rfl rfl tie2 noOwnUnsafe
theorem ringSealsUpto_row_tie : Rows.ringSealsUptoRow.laidByTextAt .later Tryz.pinned [.data, .data, .data, .data, .data] true :=
  OpenClaim.laidByTextAt_later rfl rfl tie noOwnUnsafe
theorem ringChecksUpto_row_tie : Rows.ringChecksUptoRow.laidByTextAt .later Tryz.pinned [.data, .data, .data, .data, .data] true :=
  OpenClaim.laidByTextAt_later rfl rfl tie noOwnUnsafe
theorem ringEntriesUpto_row_tie : Rows.ringEntriesUptoRow.laidByTextAt .later Tryz.pinned [.data, .data, .data, .data, .data, .data, .data] true :=
  OpenClaim.laidByTextAt_later rfl rfl tie2 noOwnUnsafe
end Go.Proofs.YtkjfpenagcdmcaaGreatDoor
