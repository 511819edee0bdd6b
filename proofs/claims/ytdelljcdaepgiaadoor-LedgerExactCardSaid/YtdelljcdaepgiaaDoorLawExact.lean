/- The row and the card of LedgerExact. -/
import Derived.Test.YtdelljcdaepgiaaDoorI5
import Derived.Test.YtdelljcdaepgiaaDoorE10
import Derived.Test.YtdelljcdaepgiaaDoorRows
import Derived.Test.YtdelljcdaepgiaaDoorCards
import Derived.Test.YtdelljcdaepgiaaDoorTie
namespace Go.Proofs.YtdelljcdaepgiaaDoor
open Go Go.Sx Go.RowKit
set_option linter.all false
set_option maxRecDepth 100000
theorem ledgerExact_law (W : World) (args : Array Value) (hL : laidMetH Tryd.prog [("farebox/ledger.side", Rows.laid_farebox_ledger_side)] W) (hg : Given Tryd.checked Tryd.f5 W args) : LawAt Tryd.prog 5 args W := by
  have h := hg.open 30
  rw [Tryd.params5] at h
  obtain ⟨v0, q0, k0, ⟨b0, w0⟩, f0, h⟩ := h
  obtain ⟨v1, q1, k1, ⟨b1, w1⟩, f1, h⟩ := h
  have hend : q1 = [] := h
  obtain ⟨u0, w0, y0⟩ : ∃ u : List Value, v0 = .agg u.toArray ∧ Fits W maxLen (.ints .i64 3 .nil) u := ⟨_, wide_agg w0 (by kernel_rfl), f0 _ (by kernel_rfl)⟩
  subst w0
  clear f0
  obtain ⟨x0_0, _, lx0_0, wx0_0, rfl, rfl⟩ := y0
  have f1 := f1 (.sl 7 (.int .i64 (.int .i64 (.int .i64 (.int .i64 (.int .i64 (.int .i64 (.int .i64 .nil))))))) .nil) (by kernel_rfl)
  generalize hu1 : v1.cells.toList = u1 at f1
  obtain ⟨x1_0, lx1_0, cx1_0, gx1_0, _, rfl, qx1_0, bx1_0, sx1_0, ex1_0, rfl⟩ := f1
  obtain rfl := wide_one w1 (by kernel_rfl) hu1
  clear hu1
  subst hend
  subst k1
  obtain rfl : args = #[.agg (intsCells .i64 3 x0_0 ++ []).toArray, .slice x1_0 lx1_0 cx1_0] := by cases args; simpa using k0
  clear k0
  have hs : SideAt W := by
    rw [Go.MakeChecks.laidMetH_plain Tryd.prog _ _ (by kernel_rfl)] at hL
    exact laid_ints (xs := [1, -1, -1]) (k := .i64) (e := 2) hL (List.mem_singleton.2 rfl) (g := 0) (by kernel_rfl) (by kernel_rfl : _ = some 25) (m := 3) (by kernel_rfl) (by kernel_rfl) (by kernel_rfl) (by kernel_rfl) (by decide)
  have hb : Bk x0_0 := by
    match x0_0, lx0_0, wx0_0 with
    | [x, y, z], _, h => exact ⟨x, y, z, rfl, i64_of_wf (h x (by simp)), i64_of_wf (h y (by simp)), i64_of_wf (h z (by simp))⟩
  have hch : ∀ i, ∃ o : LOp, i < lx1_0 → gx1_0 i = cells (opS o) ∧ OpIn o := by
    intro i
    by_cases hi : i < lx1_0
    · obtain ⟨a, _, e0, w1, b, _, rfl, w2, c, _, rfl, w3, d, _, rfl, w4, e, _, rfl, w5, f, _, rfl, w6, g, _, rfl, w7, rfl⟩ := ex1_0 i (by omega)
      exact ⟨⟨a, b, c, d, e, f, g⟩, fun _ => ⟨e0, ⟨i64_of_wf w2, i64_of_wf w3, i64_of_wf w4, i64_of_wf w5, i64_of_wf w6, i64_of_wf w7⟩⟩⟩
    · exact ⟨⟨0, 0, 0, 0, 0, 0, 0⟩, fun h => absurd h hi⟩
  refine (lex_spec x0_0 x1_0 lx1_0 cx1_0 gx1_0 (fun i => Classical.choose (hch i)) W hs qx1_0 ?_ ?_ (fun i hi => Classical.choose_spec (hch i) hi) hb).mono fun e w' hh => hh
  · have : maxLen = 9223372036854775807 := rfl
    omega
  · rcases sx1_0.at_ with h | h | ⟨b, off, h1, h2⟩
    · exact .inl (by omega)
    · cases h
    · exact .inr ⟨b, off, h1, h2⟩
theorem ledgerExact_own : ownKnob Tryd.prog.godebug = none := by kernel_rfl
theorem ledgerExact_met (os : Os) : laidMetH Tryd.prog [("farebox/ledger.side", Rows.laid_farebox_ledger_side)] ((World.laidAll Tryd.prog os [("farebox/ledger.side", Rows.laid_farebox_ledger_side)]).forCall (fun _ _ => 0) ⟨#[], #[.agg #[.int .i64 0, .int .i64 0, .int .i64 0], .slice none 0 0], []⟩).memory := by
  rw [Go.MakeChecks.laidMetH_plain Tryd.prog _ _ (by kernel_rfl)]
  exact laidMet_laidAll _ (by kernel_rfl) (by kernel_rfl)
theorem ledgerExact_lifted (os : Os) (started : os.Started) (H : Type) (enc : TypeId × Value → H) :
    ReturnsInHanded {} Tryd.checked os 5 .any (fun w args => (Rows.ledgerExactSpec.pre enc Tryd.prog Tryd.f5 Rows.ledgerExactRow.domain false w args ∧ laidMetH Tryd.prog [("farebox/ledger.side", Rows.laid_farebox_ledger_side)] w) ∧ sizedMet enc Tryd.prog Tryd.f5 (OpenSpec.ofChange Rows.ledgerExactSpec) false w args) (Rows.ledgerExactSpec.post enc Tryd.prog Tryd.f5 false true false false) :=
  law_laid (C := Tryd.checked) ledgerExact_own started (by kernel_rfl) Tryd.func5 rfl
    (fun ds h => by
      rw [Tryd.params5] at h
      match ds, h with
      | [d0, d1], _ => rfl)
    (by kernel_rfl : Tryd.f5.resultTypes = #[4]) (by kernel_rfl) (by kernel_rfl) (by kernel_rfl)
    (ChangeSpec.witness_at (enc := enc) (C := Tryd.checked) (os := os) (X := fun w _ => laidMetH Tryd.prog [("farebox/ledger.side", Rows.laid_farebox_ledger_side)] w) false (World.laidAll Tryd.prog os [("farebox/ledger.side", Rows.laid_farebox_ledger_side)]) #[.agg #[.int .i64 0, .int .i64 0, .int .i64 0], .slice none 0 0] 8 (World.laidAll_os _ _ _) (by kernel_rfl) (by kernel_rfl) (by kernel_rfl) (by kernel_rfl) (by kernel_rfl) (ledgerExact_met os))
    (fun W args hL hg => ledgerExact_law W args hL hg)
/-- The row. -/
theorem ledgerExact_holds : Rows.LedgerExactSaid :=
  OpenClaim.holds_of_wide 5 Tryd.f5 rfl rfl rfl rfl rfl rfl rfl ⟨rfl, rfl, rfl, rfl, rfl⟩ rfl rfl rfl rfl rfl (by kernel_rfl) Tryd.func5 (by kernel_rfl)
    (of_decide_eq_true (by kernel_rfl)) (by unfold Func.isWrapper; first | (rw [if_pos (by decide +kernel)]; kernel_rfl) | (rw [if_neg (by decide +kernel)]; exact ⟨rfl, rfl⟩))
    (fun os started H enc _ => ledgerExact_lifted os started H enc)
/-- The card. -/
theorem ledgerExact_card_holds : Rows.LedgerExactCardSaid :=
  Claim7.holds_tied_plain_at .later [] [.data] true (true, "6eadec291aa7f36ff21837f16c51c94e51862ca9d6179429bb8625f291b209a2") false
    ledgerExact_holds (fun _ h => by cases h) (by kernel_rfl) (fun _ h => by cases h) ledgerExact_row_tie rfl ⟨rfl, rfl⟩ (by kernel_rfl) rfl
    (fun f fn hf hfn => by
      obtain rfl : f = 5 := Option.some.inj ((show Tryd.prog.funcNamed "farebox/fareboxlaw22.LedgerExact" = some 5 by kernel_rfl).symm.trans hf) |>.symm
      obtain rfl : fn = Tryd.f5 := (Option.some.inj (Tryd.func5.symm.trans hfn)).symm
      exact ⟨by kernel_rfl, fun j t ht => by
        rw [Tryd.params5] at ht
        have hall : ∀ t ∈ #[27, 43], Tryd.prog.wantsStandIn t = false := by decide +kernel
        exact hall t (Array.mem_of_getElem? ht)⟩)
    (by kernel_rfl)
#print axioms ledgerExact_card_holds
end Go.Proofs.YtdelljcdaepgiaaDoor
