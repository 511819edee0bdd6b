/- Texts of a proof: SCardRingSeals. -/
import Derived.Test.YtkjfpenagcdmcaaGreatDoorMS7
import Derived.Test.YtkjfpenagcdmcaaGreatDoorMSSLawRingSeals
import Derived.Test.YtkjfpenagcdmcaaGreatDoorCards
import Derived.Test.YtkjfpenagcdmcaaGreatDoorTie
/- Proved here: the row and the tied card of RingSeals: for every input the law answers true, does not panic and leaves its arguments. Conditions: the row's own and no others. -/
namespace Go.Proofs.YtkjfpenagcdmcaaGreatDoor
open Go Go.Sx Go.RowKit
set_option linter.all false
set_option maxRecDepth 100000
theorem ringSeals_ca : Rows.ringSealsRow.wfByText (OpenSpec.ofChange Rows.ringSealsSpec) = true := by kernel_rfl
theorem ringSeals_cb : true = Tryz.checked.prog.looks [] := by kernel_rfl
theorem ringSeals_cf : Tryz.checked.prog.funcs.any Func.goes = false := by kernel_rfl
theorem ringSeals_cc : false = Rows.ringSealsRow.goesBy Tryz.checked.prog := goes_none ringSeals_cf rfl
theorem ringSeals_cd : Tryz.prog.funcNamed "farebox/fareboxlaw11.RingSeals" = some 3 := by kernel_rfl
theorem ringSeals_ce : Tryz.checked.prog.mainIs = some (true, "4b45141b498ba53f9962fe5a4d1b8925090f85d0613ca9e853f56c32dbd358d9".toList) := by kernel_rfl
/-- The card. -/
theorem ringSeals_card_holds : Rows.RingSealsCardSaid :=
  Claim7.holds_tied_plain_at .later [] [.data, .data, .data, .data, .data] true (true, "4b45141b498ba53f9962fe5a4d1b8925090f85d0613ca9e853f56c32dbd358d9") true
    ringSeals_holds (fun _ h => by cases h) ringSeals_ca (fun _ h => by cases h) ringSeals_row_tie rfl ⟨rfl, rfl⟩ ringSeals_ce rfl
    (fun f fn hf hfn => by
      obtain rfl : f = 3 := Option.some.inj (ringSeals_cd.symm.trans hf) |>.symm
      obtain rfl : fn = Tryz.f3 := (Option.some.inj (Tryz.func3.symm.trans hfn)).symm
      exact ⟨ringSeals_cb, fun j t ht => by
        rw [Tryz.params3] at ht
        have hall : ∀ t ∈ #[23, 40], Tryz.prog.wantsStandIn t = false := by decide +kernel
        exact hall t (Array.mem_of_getElem? ht)⟩)
    ringSeals_cc
#print axioms ringSeals_card_holds
end Go.Proofs.YtkjfpenagcdmcaaGreatDoor
