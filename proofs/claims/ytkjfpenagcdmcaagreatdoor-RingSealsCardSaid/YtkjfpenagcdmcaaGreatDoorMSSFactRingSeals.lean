/- Texts of a proof: SFactRingSeals. -/
import Derived.Test.YtkjfpenagcdmcaaGreatDoorMS7
import Derived.Test.YtkjfpenagcdmcaaGreatDoorRows
/- The closed facts of the row of RingSeals. -/
namespace Go.Proofs.YtkjfpenagcdmcaaGreatDoor
open Go Go.Sx Go.RowKit
set_option linter.all false
set_option maxRecDepth 100000
theorem ringSeals_fA : factA Tryz.prog Tryz.f3 Rows.ringSealsSpec Rows.ringSealsRow = true := by kernel_rfl
theorem ringSeals_fB : factB Tryz.prog Rows.ringSealsRow = true := by kernel_rfl
theorem ringSeals_fC : factC Tryz.prog 3 Rows.ringSealsRow = true := by kernel_rfl
theorem ringSeals_fD : factD Tryz.prog 3 Rows.ringSealsRow = true := by kernel_rfl
theorem ringSeals_fE : factE Tryz.prog 3 Rows.ringSealsRow = true := by kernel_rfl
theorem ringSeals_fF : factF Tryz.prog 3 Rows.ringSealsRow = true := by kernel_rfl
theorem ringSeals_fG : factG Tryz.prog Tryz.f3 Rows.ringSealsSpec Rows.ringSealsRow = true := by kernel_rfl
theorem ringSeals_fH : factH Tryz.prog Rows.ringSealsRow = true := by kernel_rfl
theorem ringSeals_fI : factI Tryz.prog Rows.ringSealsRow = true := by kernel_rfl
theorem ringSeals_fK : factK Tryz.prog Tryz.f3 Rows.ringSealsSpec Rows.ringSealsRow = true := by kernel_rfl
end Go.Proofs.YtkjfpenagcdmcaaGreatDoor
