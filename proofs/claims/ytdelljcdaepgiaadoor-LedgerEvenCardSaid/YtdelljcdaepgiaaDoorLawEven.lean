/- The row and the card of LedgerEven. -/
import Derived.Test.YtdelljcdaepgiaaDoorP1
import Derived.Test.YtdelljcdaepgiaaDoorE10
import Derived.Test.YtdelljcdaepgiaaDoorRows
import Derived.Test.YtdelljcdaepgiaaDoorCards
import Derived.Test.YtdelljcdaepgiaaDoorTie
namespace Go.Proofs.YtdelljcdaepgiaaDoor
open Go Go.Sx Go.RowKit
set_option linter.all false
set_option maxRecDepth 100000
theorem ledgerEven_law (W : World) (args : Array Value) (hL : laidMetH Tryd.prog [("farebox/ledger.side", Rows.laid_farebox_ledger_side)] W) (hg : Given Tryd.checked Tryd.f3 W args) : LawAt Tryd.prog 3 args W := by
  have h := hg.open 30
  rw [Tryd.params3] at h
  obtain ⟨v0, q0, k0, ⟨b0, w0⟩, f0, h⟩ := h
  obtain ⟨v1, q1, k1, ⟨b1, w1⟩, f1, h⟩ := h
  obtain ⟨v2, q2, k2, ⟨b2, w2⟩, f2, h⟩ := h
  have hend : q2 = [] := h
  have f0 := f0 (.int .i64 .nil) (by kernel_rfl)
  generalize hu0 : v0.cells.toList = u0 at f0
  obtain ⟨x0_0, _, rfl, wx0_0, rfl⟩ := f0
  obtain rfl := wide_one w0 (by kernel_rfl) hu0
  clear hu0
  have f1 := f1 (.int .i64 .nil) (by kernel_rfl)
  generalize hu1 : v1.cells.toList = u1 at f1
  obtain ⟨x1_0, _, rfl, wx1_0, rfl⟩ := f1
  obtain rfl := wide_one w1 (by kernel_rfl) hu1
  clear hu1
  obtain ⟨u2, w2, y2⟩ : ∃ u : List Value, v2 = .agg u.toArray ∧ Fits W maxLen (.int .i64 (.int .i64 (.int .i64 (.int .i64 (.int .i64 (.int .i64 (.int .i64 .nil))))))) u := ⟨_, wide_agg w2 (by kernel_rfl), f2 _ (by kernel_rfl)⟩
  subst w2
  clear f2
  obtain ⟨x2_0, _, rfl, wx2_0, ⟨x2_1, _, rfl, wx2_1, ⟨x2_2, _, rfl, wx2_2, ⟨x2_3, _, rfl, wx2_3, ⟨x2_4, _, rfl, wx2_4, ⟨x2_5, _, rfl, wx2_5, ⟨x2_6, _, rfl, wx2_6, rfl⟩⟩⟩⟩⟩⟩⟩ := y2
  subst hend
  subst k2
  subst k1
  obtain rfl : args = #[.int .i64 x0_0, .int .i64 x1_0, .agg ((.int .i64 x2_0) :: (.int .i64 x2_1) :: (.int .i64 x2_2) :: (.int .i64 x2_3) :: (.int .i64 x2_4) :: (.int .i64 x2_5) :: (.int .i64 x2_6) :: []).toArray] := by cases args; simpa using k0
  clear k0
  have hs : SideAt W := by
    rw [Go.MakeChecks.laidMetH_plain Tryd.prog _ _ (by kernel_rfl)] at hL
    exact laid_ints (xs := [1, -1, -1]) (k := .i64) (e := 2) hL (List.mem_singleton.2 rfl) (g := 0) (by kernel_rfl) (by kernel_rfl : _ = some 25) (m := 3) (by kernel_rfl) (by kernel_rfl) (by kernel_rfl) (by kernel_rfl) (by decide)
  have h := lev_spec x0_0 x1_0 ⟨x2_0, x2_1, x2_2, x2_3, x2_4, x2_5, x2_6⟩ W hs
  rw [lev_true (i64_of_wf wx0_0) (i64_of_wf wx1_0) (i64_of_wf wx2_3)] at h
  exact h.mono fun e w' hh => hh
theorem ledgerEven_own : ownKnob Tryd.prog.godebug = none := by kernel_rfl
theorem ledgerEven_met (os : Os) : laidMetH Tryd.prog [("farebox/ledger.side", Rows.laid_farebox_ledger_side)] ((World.laidAll Tryd.prog os [("farebox/ledger.side", Rows.laid_farebox_ledger_side)]).forCall (fun _ _ => 0) ⟨#[], #[.int .i64 0, .int .i64 0, .agg #[.int .i64 0, .int .i64 0, .int .i64 0, .int .i64 0, .int .i64 0, .int .i64 0, .int .i64 0]], []⟩).memory := by
  rw [Go.MakeChecks.laidMetH_plain Tryd.prog _ _ (by kernel_rfl)]
  exact laidMet_laidAll _ (by kernel_rfl) (by kernel_rfl)
theorem ledgerEven_lifted (os : Os) (started : os.Started) (H : Type) (enc : TypeId × Value → H) :
    ReturnsInHanded {} Tryd.checked os 3 .any (fun w args => (Rows.ledgerEvenSpec.pre enc Tryd.prog Tryd.f3 Rows.ledgerEvenRow.domain false w args ∧ laidMetH Tryd.prog [("farebox/ledger.side", Rows.laid_farebox_ledger_side)] w) ∧ sizedMet enc Tryd.prog Tryd.f3 (OpenSpec.ofChange Rows.ledgerEvenSpec) false w args) (Rows.ledgerEvenSpec.post enc Tryd.prog Tryd.f3 false true false false) :=
  law_laid (C := Tryd.checked) ledgerEven_own started (by kernel_rfl) Tryd.func3 rfl
    (fun ds h => by
      rw [Tryd.params3] at h
      match ds, h with
      | [d0, d1, d2], _ => rfl)
    (by kernel_rfl : Tryd.f3.resultTypes = #[4]) (by kernel_rfl) (by kernel_rfl) (by kernel_rfl)
    (ChangeSpec.witness_at (enc := enc) (C := Tryd.checked) (os := os) (X := fun w _ => laidMetH Tryd.prog [("farebox/ledger.side", Rows.laid_farebox_ledger_side)] w) false (World.laidAll Tryd.prog os [("farebox/ledger.side", Rows.laid_farebox_ledger_side)]) #[.int .i64 0, .int .i64 0, .agg #[.int .i64 0, .int .i64 0, .int .i64 0, .int .i64 0, .int .i64 0, .int .i64 0, .int .i64 0]] 8 (World.laidAll_os _ _ _) (by kernel_rfl) (by kernel_rfl) (by kernel_rfl) (by kernel_rfl) (by kernel_rfl) (ledgerEven_met os))
    (fun W args hL hg => ledgerEven_law W args hL hg)
/-- The row. -/
theorem ledgerEven_holds : Rows.LedgerEvenSaid :=
  OpenClaim.holds_of_wide 3 Tryd.f3 rfl rfl rfl rfl rfl rfl rfl ⟨rfl, rfl, rfl, rfl, rfl⟩ rfl rfl rfl rfl rfl (by kernel_rfl) Tryd.func3 (by kernel_rfl)
    (of_decide_eq_true (by kernel_rfl)) (by unfold Func.isWrapper; first | (rw [if_pos (by decide +kernel)]; kernel_rfl) | (rw [if_neg (by decide +kernel)]; exact ⟨rfl, rfl⟩))
    (fun os started H enc _ => ledgerEven_lifted os started H enc)
/-- The card. -/
theorem ledgerEven_card_holds : Rows.LedgerEvenCardSaid :=
  Claim7.holds_tied_plain_at .later [] [.data] true (true, "6eadec291aa7f36ff21837f16c51c94e51862ca9d6179429bb8625f291b209a2") false
    ledgerEven_holds (fun _ h => by cases h) (by kernel_rfl) (fun _ h => by cases h) ledgerEven_row_tie rfl ⟨rfl, rfl⟩ (by kernel_rfl) rfl
    (fun f fn hf hfn => by
      obtain rfl : f = 3 := Option.some.inj ((show Tryd.prog.funcNamed "farebox/fareboxlaw22.LedgerEven" = some 3 by kernel_rfl).symm.trans hf) |>.symm
      obtain rfl : fn = Tryd.f3 := (Option.some.inj (Tryd.func3.symm.trans hfn)).symm
      exact ⟨by kernel_rfl, fun j t ht => by
        rw [Tryd.params3] at ht
        have hall : ∀ t ∈ #[2, 2, 23], Tryd.prog.wantsStandIn t = false := by decide +kernel
        exact hall t (Array.mem_of_getElem? ht)⟩)
    (by kernel_rfl)
#print axioms ledgerEven_card_holds
end Go.Proofs.YtdelljcdaepgiaaDoor
