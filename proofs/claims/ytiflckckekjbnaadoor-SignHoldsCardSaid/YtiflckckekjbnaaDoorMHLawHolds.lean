/- Texts of a proof: LawHolds. -/
import Derived.Test.YtiflckckekjbnaaDoorMH7
import Derived.Test.YtiflckckekjbnaaDoorRows
import Derived.Test.YtiflckckekjbnaaDoorCards
import Derived.Test.YtiflckckekjbnaaDoorTie
/- The row and the card of SignHolds. -/
namespace Go.Proofs.YtiflckckekjbnaaDoor
open Go Go.Sx Go.RowKit
set_option linter.all false
set_option maxRecDepth 100000
theorem u8_of_wf' {x : Int} (h : (Lit.int .u8 x).wf = true) : 0 ≤ x ∧ x < 256 := by
  have := bounds_u8 h
  omega
theorem msg_len {xs : List Int} {len cap : Nat} (h1 : len ≤ cap) (h2 : cap ≤ maxLen) : (xs.take len).length < 18446744073709551615 := by
  have h3 : (xs.take len).length ≤ len := by rw [List.length_take]; omega
  have h4 : maxLen = 9223372036854775807 := rfl
  omega

theorem signHolds_law (W : World) (args : Array Value) (hL : laidMetH Tryd.prog [("farebox/sha512.table", Rows.laid_farebox_sha512_table), ("farebox/sha512.first", Rows.laid_farebox_sha512_first), ("farebox/scalar.order", Rows.laid_farebox_scalar_order)] W) (hg : Given Tryd.checked Tryd.f4 W args) : LawAt Tryd.prog 4 args W := by
  have h := hg.open 30
  rw [Tryd.params4] at h
  obtain ⟨v0, q0, k0, ⟨b0, w0⟩, f0, h⟩ := h
  obtain ⟨v1, q1, k1, ⟨b1, w1⟩, f1, h⟩ := h
  have hend : q1 = [] := h
  obtain ⟨u0, w0, y0⟩ : ∃ u : List Value, v0 = .agg u.toArray ∧ Fits W maxLen (.ints .u8 32 .nil) u := ⟨_, wide_agg w0 (by kernel_rfl), f0 _ (by kernel_rfl)⟩
  subst w0
  clear f0
  obtain ⟨x0_0, _, lx0_0, wx0_0, rfl, rfl⟩ := y0
  have f1 := f1 (.sli .u8 .nil) (by kernel_rfl)
  generalize hu1 : v1.cells.toList = u1 at f1
  obtain ⟨x1_0, lx1_0, cx1_0, gx1_0, _, rfl, qx1_0, bx1_0, sx1_0, rfl⟩ := f1
  obtain rfl := wide_one w1 (by kernel_rfl) hu1
  clear hu1
  subst hend
  subst k1
  obtain rfl : args = #[.agg (intsCells .u8 32 x0_0 ++ []).toArray, .slice x1_0 lx1_0 cx1_0] := by cases args; simpa using k0
  clear k0
  have hG : Globs W := by
    rw [Go.MakeChecks.laidMetH_plain Tryd.prog _ _ (by kernel_rfl)] at hL
    have hg0 := laid_ints (xs := G_order) (k := .u64) (e := 56) (name := "farebox/scalar.order") hL (List.Mem.tail _ (List.Mem.tail _ (List.Mem.head _))) (g := 0) (by kernel_rfl) (by kernel_rfl : _ = some 93) (m := 4) (by kernel_rfl) (by kernel_rfl) (by kernel_rfl) (by kernel_rfl) (by decide)
    have hg1 := laid_ints (xs := G_first) (k := .u64) (e := 56) (name := "farebox/sha512.first") hL (List.Mem.tail _ (List.Mem.head _)) (g := 1) (by kernel_rfl) (by kernel_rfl : _ = some 135) (m := 8) (by kernel_rfl) (by kernel_rfl) (by kernel_rfl) (by kernel_rfl) (by decide)
    have hg2 := laid_ints (xs := G_table) (k := .u64) (e := 56) (name := "farebox/sha512.table") hL (List.Mem.head _) (g := 2) (by kernel_rfl) (by kernel_rfl : _ = some 155) (m := 80) (by kernel_rfl) (by kernel_rfl) (by kernel_rfl) (by kernel_rfl) (by decide)
    exact ⟨hg0, hg1, hg2⟩
  have h := fareboxlaw08_SignHolds_spec (p0 := x0_0) (signHolds_eq (s := x0_0) (m := gx1_0.take lx1_0) (msg_len qx1_0 bx1_0)) hG (rd_of_SlI sx1_0 qx1_0)
  exact h.mono fun e w' hh => hh
theorem signHolds_own : ownKnob Tryd.prog.godebug = none := by kernel_rfl
theorem signHolds_met (os : Os) : laidMetH Tryd.prog [("farebox/sha512.table", Rows.laid_farebox_sha512_table), ("farebox/sha512.first", Rows.laid_farebox_sha512_first), ("farebox/scalar.order", Rows.laid_farebox_scalar_order)] ((World.laidAll Tryd.prog os [("farebox/sha512.table", Rows.laid_farebox_sha512_table), ("farebox/sha512.first", Rows.laid_farebox_sha512_first), ("farebox/scalar.order", Rows.laid_farebox_scalar_order)]).forCall (fun _ _ => 0) ⟨#[], #[.agg #[.int .u8 0, .int .u8 0, .int .u8 0, .int .u8 0, .int .u8 0, .int .u8 0, .int .u8 0, .int .u8 0, .int .u8 0, .int .u8 0, .int .u8 0, .int .u8 0, .int .u8 0, .int .u8 0, .int .u8 0, .int .u8 0, .int .u8 0, .int .u8 0, .int .u8 0, .int .u8 0, .int .u8 0, .int .u8 0, .int .u8 0, .int .u8 0, .int .u8 0, .int .u8 0, .int .u8 0, .int .u8 0, .int .u8 0, .int .u8 0, .int .u8 0, .int .u8 0], .slice none 0 0], []⟩).memory := by
  rw [Go.MakeChecks.laidMetH_plain Tryd.prog _ _ (by kernel_rfl)]
  exact laidMet_laidAll _ (by kernel_rfl) (by kernel_rfl)
theorem signHolds_lifted (os : Os) (started : os.Started) (H : Type) (enc : TypeId × Value → H) :
    ReturnsInHanded {} Tryd.checked os 4 .any (fun w args => (Rows.signHoldsSpec.pre enc Tryd.prog Tryd.f4 Rows.signHoldsRow.domain false w args ∧ laidMetH Tryd.prog [("farebox/sha512.table", Rows.laid_farebox_sha512_table), ("farebox/sha512.first", Rows.laid_farebox_sha512_first), ("farebox/scalar.order", Rows.laid_farebox_scalar_order)] w) ∧ sizedMet enc Tryd.prog Tryd.f4 (OpenSpec.ofChange Rows.signHoldsSpec) false w args) (Rows.signHoldsSpec.post enc Tryd.prog Tryd.f4 false true false false) :=
  law_laid (C := Tryd.checked) signHolds_own started (by kernel_rfl) Tryd.func4 rfl
    (fun ds h => by
      rw [Tryd.params4] at h
      match ds, h with
      | [d0, d1], _ => rfl)
    (by kernel_rfl : Tryd.f4.resultTypes = #[4]) (by kernel_rfl) (by kernel_rfl) (by kernel_rfl)
    (ChangeSpec.witness_at (enc := enc) (C := Tryd.checked) (os := os) (X := fun w _ => laidMetH Tryd.prog [("farebox/sha512.table", Rows.laid_farebox_sha512_table), ("farebox/sha512.first", Rows.laid_farebox_sha512_first), ("farebox/scalar.order", Rows.laid_farebox_scalar_order)] w) false (World.laidAll Tryd.prog os [("farebox/sha512.table", Rows.laid_farebox_sha512_table), ("farebox/sha512.first", Rows.laid_farebox_sha512_first), ("farebox/scalar.order", Rows.laid_farebox_scalar_order)]) #[.agg #[.int .u8 0, .int .u8 0, .int .u8 0, .int .u8 0, .int .u8 0, .int .u8 0, .int .u8 0, .int .u8 0, .int .u8 0, .int .u8 0, .int .u8 0, .int .u8 0, .int .u8 0, .int .u8 0, .int .u8 0, .int .u8 0, .int .u8 0, .int .u8 0, .int .u8 0, .int .u8 0, .int .u8 0, .int .u8 0, .int .u8 0, .int .u8 0, .int .u8 0, .int .u8 0, .int .u8 0, .int .u8 0, .int .u8 0, .int .u8 0, .int .u8 0, .int .u8 0], .slice none 0 0] 8 (World.laidAll_os _ _ _) (by kernel_rfl) (by kernel_rfl) (by kernel_rfl) (by kernel_rfl) (by kernel_rfl) (signHolds_met os))
    (fun W args hL hg => signHolds_law W args hL hg)
/-- The row. -/
theorem signHolds_holds : Rows.SignHoldsSaid :=
  OpenClaim.holds_of_wide 4 Tryd.f4 rfl rfl rfl rfl rfl rfl rfl ⟨rfl, rfl, rfl, rfl, rfl⟩ rfl rfl rfl rfl rfl (by kernel_rfl) Tryd.func4 (by kernel_rfl)
    (of_decide_eq_true (by kernel_rfl)) (by unfold Func.isWrapper; first | (rw [if_pos (by decide +kernel)]; kernel_rfl) | (rw [if_neg (by decide +kernel)]; exact ⟨rfl, rfl⟩))
    (fun os started H enc _ => signHolds_lifted os started H enc)
/-- The card. -/
theorem signHolds_card_holds : Rows.SignHoldsCardSaid :=
  Claim7.holds_tied_plain_at .later [] [.data, .data, .data] true (true, "bf32618f76c4df2abd3bf3890172ce253f595848c50419bf7240a6be9f031777") false
    signHolds_holds (fun _ h => by cases h) (by kernel_rfl) (fun _ h => by cases h) signHolds_row_tie rfl ⟨rfl, rfl⟩ (by kernel_rfl) rfl
    (fun f fn hf hfn => by
      obtain rfl : f = 4 := Option.some.inj ((show Tryd.prog.funcNamed "farebox/fareboxlaw08.SignHolds" = some 4 by kernel_rfl).symm.trans hf) |>.symm
      obtain rfl : fn = Tryd.f4 := (Option.some.inj (Tryd.func4.symm.trans hfn)).symm
      exact ⟨by kernel_rfl, fun j t ht => by
        rw [Tryd.params4] at ht
        have hall : ∀ t ∈ #[38, 28], Tryd.prog.wantsStandIn t = false := by decide +kernel
        exact hall t (Array.mem_of_getElem? ht)⟩)
    (by kernel_rfl)
#print axioms signHolds_card_holds
end Go.Proofs.YtiflckckekjbnaaDoor
