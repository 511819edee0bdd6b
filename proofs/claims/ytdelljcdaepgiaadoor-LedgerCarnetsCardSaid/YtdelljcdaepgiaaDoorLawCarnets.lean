/- The row and the card of LedgerCarnets. -/
import Derived.Test.YtdelljcdaepgiaaDoorI6
import Derived.Test.YtdelljcdaepgiaaDoorE10
import Derived.Test.YtdelljcdaepgiaaDoorRows
import Derived.Test.YtdelljcdaepgiaaDoorCards
import Derived.Test.YtdelljcdaepgiaaDoorTie
namespace Go.Proofs.YtdelljcdaepgiaaDoor
open Go Go.Sx Go.RowKit
set_option linter.all false
set_option maxRecDepth 100000
theorem ledgerCarnets_law (W : World) (args : Array Value) (hL : laidMetH Tryd.prog [("farebox/ledger.side", Rows.laid_farebox_ledger_side)] W) (hg : Given Tryd.checked Tryd.f4 W args) : LawAt Tryd.prog 4 args W := by
  have h := hg.open 30
  rw [Tryd.params4] at h
  obtain ⟨v0, q0, k0, ⟨b0, w0⟩, f0, h⟩ := h
  have hend : q0 = [] := h
  have f0 := f0 (.sl 5 (.int .i64 (.int .i64 (.int .i64 (.int .i64 (.int .i64 .nil))))) .nil) (by kernel_rfl)
  generalize hu0 : v0.cells.toList = u0 at f0
  obtain ⟨x0_0, lx0_0, cx0_0, gx0_0, _, rfl, qx0_0, bx0_0, sx0_0, ex0_0, rfl⟩ := f0
  obtain rfl := wide_one w0 (by kernel_rfl) hu0
  clear hu0
  subst hend
  obtain rfl : args = #[.slice x0_0 lx0_0 cx0_0] := by cases args; simpa using k0
  clear k0
  have hs : SideAt W := by
    rw [Go.MakeChecks.laidMetH_plain Tryd.prog _ _ (by kernel_rfl)] at hL
    exact laid_ints (xs := [1, -1, -1]) (k := .i64) (e := 2) hL (List.mem_singleton.2 rfl) (g := 0) (by kernel_rfl) (by kernel_rfl : _ = some 25) (m := 3) (by kernel_rfl) (by kernel_rfl) (by kernel_rfl) (by kernel_rfl) (by decide)
  have hch : ∀ i, ∃ o : LSale, i < lx0_0 → gx0_0 i = cells (saleS o) ∧ SaleIn o := by
    intro i
    by_cases hi : i < lx0_0
    · obtain ⟨a, _, e0, w1, b, _, rfl, w2, c, _, rfl, w3, d, _, rfl, w4, e, _, rfl, w5, rfl⟩ := ex0_0 i (by omega)
      exact ⟨⟨a, b, c, d, e⟩, fun _ => ⟨e0, ⟨i64_of_wf w1, i64_of_wf w2, i64_of_wf w3, i64_of_wf w5⟩⟩⟩
    · exact ⟨⟨0, 0, 0, 0, 0⟩, fun h => absurd h hi⟩
  refine (lca_spec x0_0 lx0_0 cx0_0 gx0_0 (fun i => Classical.choose (hch i)) W hs qx0_0 ?_ (fun i hi => (Classical.choose_spec (hch i) hi).1) (fun i hi => (Classical.choose_spec (hch i) hi).2)).mono fun e w' hh => hh
  rcases sx0_0.at_ with h | h | ⟨b, off, h1, h2⟩
  · exact .inl (by omega)
  · cases h
  · exact .inr ⟨b, off, h1, h2⟩
theorem ledgerCarnets_own : ownKnob Tryd.prog.godebug = none := by kernel_rfl
theorem ledgerCarnets_met (os : Os) : laidMetH Tryd.prog [("farebox/ledger.side", Rows.laid_farebox_ledger_side)] ((World.laidAll Tryd.prog os [("farebox/ledger.side", Rows.laid_farebox_ledger_side)]).forCall (fun _ _ => 0) ⟨#[], #[.slice none 0 0], []⟩).memory := by
  rw [Go.MakeChecks.laidMetH_plain Tryd.prog _ _ (by kernel_rfl)]
  exact laidMet_laidAll _ (by kernel_rfl) (by kernel_rfl)
theorem ledgerCarnets_lifted (os : Os) (started : os.Started) (H : Type) (enc : TypeId × Value → H) :
    ReturnsInHanded {} Tryd.checked os 4 .any (fun w args => (Rows.ledgerCarnetsSpec.pre enc Tryd.prog Tryd.f4 Rows.ledgerCarnetsRow.domain false w args ∧ laidMetH Tryd.prog [("farebox/ledger.side", Rows.laid_farebox_ledger_side)] w) ∧ sizedMet enc Tryd.prog Tryd.f4 (OpenSpec.ofChange Rows.ledgerCarnetsSpec) false w args) (Rows.ledgerCarnetsSpec.post enc Tryd.prog Tryd.f4 false true false false) :=
  law_laid (C := Tryd.checked) ledgerCarnets_own started (by kernel_rfl) Tryd.func4 rfl
    (fun ds h => by
      rw [Tryd.params4] at h
      match ds, h with
      | [d0], _ => rfl)
    (by kernel_rfl : Tryd.f4.resultTypes = #[4]) (by kernel_rfl) (by kernel_rfl) (by kernel_rfl)
    (ChangeSpec.witness_at (enc := enc) (C := Tryd.checked) (os := os) (X := fun w _ => laidMetH Tryd.prog [("farebox/ledger.side", Rows.laid_farebox_ledger_side)] w) false (World.laidAll Tryd.prog os [("farebox/ledger.side", Rows.laid_farebox_ledger_side)]) #[.slice none 0 0] 8 (World.laidAll_os _ _ _) (by kernel_rfl) (by kernel_rfl) (by kernel_rfl) (by kernel_rfl) (by kernel_rfl) (ledgerCarnets_met os))
    (fun W args hL hg => ledgerCarnets_law W args hL hg)
/-- The row. -/
theorem ledgerCarnets_holds : Rows.LedgerCarnetsSaid :=
  OpenClaim.holds_of_wide 4 Tryd.f4 rfl rfl rfl rfl rfl rfl rfl ⟨rfl, rfl, rfl, rfl, rfl⟩ rfl rfl rfl rfl rfl (by kernel_rfl) Tryd.func4 (by kernel_rfl)
    (of_decide_eq_true (by kernel_rfl)) (by unfold Func.isWrapper; first | (rw [if_pos (by decide +kernel)]; kernel_rfl) | (rw [if_neg (by decide +kernel)]; exact ⟨rfl, rfl⟩))
    (fun os started H enc _ => ledgerCarnets_lifted os started H enc)
/-- The card. -/
theorem ledgerCarnets_card_holds : Rows.LedgerCarnetsCardSaid :=
  Claim7.holds_tied_plain_at .later [] [.data] true (true, "6eadec291aa7f36ff21837f16c51c94e51862ca9d6179429bb8625f291b209a2") false
    ledgerCarnets_holds (fun _ h => by cases h) (by kernel_rfl) (fun _ h => by cases h) ledgerCarnets_row_tie rfl ⟨rfl, rfl⟩ (by kernel_rfl) rfl
    (fun f fn hf hfn => by
      obtain rfl : f = 4 := Option.some.inj ((show Tryd.prog.funcNamed "farebox/fareboxlaw22.LedgerCarnets" = some 4 by kernel_rfl).symm.trans hf) |>.symm
      obtain rfl : fn = Tryd.f4 := (Option.some.inj (Tryd.func4.symm.trans hfn)).symm
      exact ⟨by kernel_rfl, fun j t ht => by
        rw [Tryd.params4] at ht
        have hall : ∀ t ∈ #[31], Tryd.prog.wantsStandIn t = false := by decide +kernel
        exact hall t (Array.mem_of_getElem? ht)⟩)
    (by kernel_rfl)
#print axioms ledgerCarnets_card_holds
end Go.Proofs.YtdelljcdaepgiaaDoor
