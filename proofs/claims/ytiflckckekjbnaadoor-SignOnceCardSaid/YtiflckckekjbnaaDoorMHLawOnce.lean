/- Texts of a proof: LawOnce. -/
import Derived.Test.YtiflckckekjbnaaDoorMH7
import Derived.Test.YtiflckckekjbnaaDoorRows
import Derived.Test.YtiflckckekjbnaaDoorCards
import Derived.Test.YtiflckckekjbnaaDoorTie
/- The row and the card of SignOnce. -/
namespace Go.Proofs.YtiflckckekjbnaaDoor
open Go Go.Sx Go.RowKit
set_option linter.all false
set_option maxRecDepth 100000
theorem u8_of_wf' {x : Int} (h : (Lit.int .u8 x).wf = true) : 0 ≤ x ∧ x < 256 := by
  have := bounds_u8 h
  omega
theorem msg_len {xs : List Int} {len cap : Nat} (h1 : len ≤ cap) (h2 : cap ≤ maxLen) : (xs.take len).length < 18446744073709551615 := by
  have h3 : (xs.take len).length ≤ len := by rw [List.length_take]; omega
  have h4 : maxLen = 9223372036854775807 := rfl
  omega

theorem signOnce_law (W : World) (args : Array Value) (hL : laidMetH Tryd.prog [("farebox/sha512.table", Rows.laid_farebox_sha512_table), ("farebox/sha512.first", Rows.laid_farebox_sha512_first), ("farebox/scalar.order", Rows.laid_farebox_scalar_order)] W) (hg : Given Tryd.checked Tryd.f5 W args) : LawAt Tryd.prog 5 args W := by
  have h := hg.open 30
  rw [Tryd.params5] at h
  obtain ⟨v0, q0, k0, ⟨b0, w0⟩, f0, h⟩ := h
  obtain ⟨v1, q1, k1, ⟨b1, w1⟩, f1, h⟩ := h
  obtain ⟨v2, q2, k2, ⟨b2, w2⟩, f2, h⟩ := h
  obtain ⟨v3, q3, k3, ⟨b3, w3⟩, f3, h⟩ := h
  obtain ⟨v4, q4, k4, ⟨b4, w4⟩, f4, h⟩ := h
  have hend : q4 = [] := h
  obtain ⟨u0, w0, y0⟩ : ∃ u : List Value, v0 = .agg u.toArray ∧ Fits W maxLen (.ints .u8 32 .nil) u := ⟨_, wide_agg w0 (by kernel_rfl), f0 _ (by kernel_rfl)⟩
  subst w0
  clear f0
  obtain ⟨x0_0, _, lx0_0, wx0_0, rfl, rfl⟩ := y0
  have f1 := f1 (.sli .u8 .nil) (by kernel_rfl)
  generalize hu1 : v1.cells.toList = u1 at f1
  obtain ⟨x1_0, lx1_0, cx1_0, gx1_0, _, rfl, qx1_0, bx1_0, sx1_0, rfl⟩ := f1
  obtain rfl := wide_one w1 (by kernel_rfl) hu1
  clear hu1
  obtain ⟨u2, w2, y2⟩ : ∃ u : List Value, v2 = .agg u.toArray ∧ Fits W maxLen (.ints .u8 32 .nil) u := ⟨_, wide_agg w2 (by kernel_rfl), f2 _ (by kernel_rfl)⟩
  subst w2
  clear f2
  obtain ⟨x2_0, _, lx2_0, wx2_0, rfl, rfl⟩ := y2
  obtain ⟨u3, w3, y3⟩ : ∃ u : List Value, v3 = .agg u.toArray ∧ Fits W maxLen (.ints .u8 64 .nil) u := ⟨_, wide_agg w3 (by kernel_rfl), f3 _ (by kernel_rfl)⟩
  subst w3
  clear f3
  obtain ⟨x3_0, _, lx3_0, wx3_0, rfl, rfl⟩ := y3
  obtain ⟨u4, w4, y4⟩ : ∃ u : List Value, v4 = .agg u.toArray ∧ Fits W maxLen (.ints .u8 32 .nil) u := ⟨_, wide_agg w4 (by kernel_rfl), f4 _ (by kernel_rfl)⟩
  subst w4
  clear f4
  obtain ⟨x4_0, _, lx4_0, wx4_0, rfl, rfl⟩ := y4
  subst hend
  subst k4
  subst k3
  subst k2
  subst k1
  obtain rfl : args = #[.agg (intsCells .u8 32 x0_0 ++ []).toArray, .slice x1_0 lx1_0 cx1_0, .agg (intsCells .u8 32 x2_0 ++ []).toArray, .agg (intsCells .u8 64 x3_0 ++ []).toArray, .agg (intsCells .u8 32 x4_0 ++ []).toArray] := by cases args; simpa using k0
  clear k0
  have hG : Globs W := by
    rw [Go.MakeChecks.laidMetH_plain Tryd.prog _ _ (by kernel_rfl)] at hL
    have hg0 := laid_ints (xs := G_order) (k := .u64) (e := 56) (name := "farebox/scalar.order") hL (List.Mem.tail _ (List.Mem.tail _ (List.Mem.head _))) (g := 0) (by kernel_rfl) (by kernel_rfl : _ = some 93) (m := 4) (by kernel_rfl) (by kernel_rfl) (by kernel_rfl) (by kernel_rfl) (by decide)
    have hg1 := laid_ints (xs := G_first) (k := .u64) (e := 56) (name := "farebox/sha512.first") hL (List.Mem.tail _ (List.Mem.head _)) (g := 1) (by kernel_rfl) (by kernel_rfl : _ = some 135) (m := 8) (by kernel_rfl) (by kernel_rfl) (by kernel_rfl) (by kernel_rfl) (by decide)
    have hg2 := laid_ints (xs := G_table) (k := .u64) (e := 56) (name := "farebox/sha512.table") hL (List.Mem.head _) (g := 2) (by kernel_rfl) (by kernel_rfl : _ = some 155) (m := 80) (by kernel_rfl) (by kernel_rfl) (by kernel_rfl) (by kernel_rfl) (by decide)
    exact ⟨hg0, hg1, hg2⟩
  have b2 : Byt x2_0 := byt_of fun x hx => u8_of_wf' (wx2_0 x hx)
  have b3 : Byt x3_0 := byt_of fun x hx => u8_of_wf' (wx3_0 x hx)
  have b4 : Byt x4_0 := byt_of fun x hx => u8_of_wf' (wx4_0 x hx)
  have h := fareboxlaw08_SignOnce_spec (p0 := x0_0) (p2 := x2_0) (p3 := x3_0) (p4 := x4_0) (signOnce_eq (s := x0_0) (m := gx1_0.take lx1_0) (msg_len qx1_0 bx1_0) b2 b3 b4) hG (rd_of_SlI sx1_0 qx1_0)
  exact h.mono fun e w' hh => hh
theorem signOnce_own : ownKnob Tryd.prog.godebug = none := by kernel_rfl
theorem signOnce_met (os : Os) : laidMetH Tryd.prog [("farebox/sha512.table", Rows.laid_farebox_sha512_table), ("farebox/sha512.first", Rows.laid_farebox_sha512_first), ("farebox/scalar.order", Rows.laid_farebox_scalar_order)] ((World.laidAll Tryd.prog os [("farebox/sha512.table", Rows.laid_farebox_sha512_table), ("farebox/sha512.first", Rows.laid_farebox_sha512_first), ("farebox/scalar.order", Rows.laid_farebox_scalar_order)]).forCall (fun _ _ => 0) ⟨#[], #[.agg #[.int .u8 0, .int .u8 0, .int .u8 0, .int .u8 0, .int .u8 0, .int .u8 0, .int .u8 0, .int .u8 0, .int .u8 0, .int .u8 0, .int .u8 0, .int .u8 0, .int .u8 0, .int .u8 0, .int .u8 0, .int .u8 0, .int .u8 0, .int .u8 0, .int .u8 0, .int .u8 0, .int .u8 0, .int .u8 0, .int .u8 0, .int .u8 0, .int .u8 0, .int .u8 0, .int .u8 0, .int .u8 0, .int .u8 0, .int .u8 0, .int .u8 0, .int .u8 0], .slice none 0 0, .agg #[.int .u8 0, .int .u8 0, .int .u8 0, .int .u8 0, .int .u8 0, .int .u8 0, .int .u8 0, .int .u8 0, .int .u8 0, .int .u8 0, .int .u8 0, .int .u8 0, .int .u8 0, .int .u8 0, .int .u8 0, .int .u8 0, .int .u8 0, .int .u8 0, .int .u8 0, .int .u8 0, .int .u8 0, .int .u8 0, .int .u8 0, .int .u8 0, .int .u8 0, .int .u8 0, .int .u8 0, .int .u8 0, .int .u8 0, .int .u8 0, .int .u8 0, .int .u8 0], .agg #[.int .u8 0, .int .u8 0, .int .u8 0, .int .u8 0, .int .u8 0, .int .u8 0, .int .u8 0, .int .u8 0, .int .u8 0, .int .u8 0, .int .u8 0, .int .u8 0, .int .u8 0, .int .u8 0, .int .u8 0, .int .u8 0, .int .u8 0, .int .u8 0, .int .u8 0, .int .u8 0, .int .u8 0, .int .u8 0, .int .u8 0, .int .u8 0, .int .u8 0, .int .u8 0, .int .u8 0, .int .u8 0, .int .u8 0, .int .u8 0, .int .u8 0, .int .u8 0, .int .u8 0, .int .u8 0, .int .u8 0, .int .u8 0, .int .u8 0, .int .u8 0, .int .u8 0, .int .u8 0, .int .u8 0, .int .u8 0, .int .u8 0, .int .u8 0, .int .u8 0, .int .u8 0, .int .u8 0, .int .u8 0, .int .u8 0, .int .u8 0, .int .u8 0, .int .u8 0, .int .u8 0, .int .u8 0, .int .u8 0, .int .u8 0, .int .u8 0, .int .u8 0, .int .u8 0, .int .u8 0, .int .u8 0, .int .u8 0, .int .u8 0, .int .u8 0], .agg #[.int .u8 0, .int .u8 0, .int .u8 0, .int .u8 0, .int .u8 0, .int .u8 0, .int .u8 0, .int .u8 0, .int .u8 0, .int .u8 0, .int .u8 0, .int .u8 0, .int .u8 0, .int .u8 0, .int .u8 0, .int .u8 0, .int .u8 0, .int .u8 0, .int .u8 0, .int .u8 0, .int .u8 0, .int .u8 0, .int .u8 0, .int .u8 0, .int .u8 0, .int .u8 0, .int .u8 0, .int .u8 0, .int .u8 0, .int .u8 0, .int .u8 0, .int .u8 0]], []⟩).memory := by
  rw [Go.MakeChecks.laidMetH_plain Tryd.prog _ _ (by kernel_rfl)]
  exact laidMet_laidAll _ (by kernel_rfl) (by kernel_rfl)
theorem signOnce_lifted (os : Os) (started : os.Started) (H : Type) (enc : TypeId × Value → H) :
    ReturnsInHanded {} Tryd.checked os 5 .any (fun w args => (Rows.signOnceSpec.pre enc Tryd.prog Tryd.f5 Rows.signOnceRow.domain false w args ∧ laidMetH Tryd.prog [("farebox/sha512.table", Rows.laid_farebox_sha512_table), ("farebox/sha512.first", Rows.laid_farebox_sha512_first), ("farebox/scalar.order", Rows.laid_farebox_scalar_order)] w) ∧ sizedMet enc Tryd.prog Tryd.f5 (OpenSpec.ofChange Rows.signOnceSpec) false w args) (Rows.signOnceSpec.post enc Tryd.prog Tryd.f5 false true false false) :=
  law_laid (C := Tryd.checked) signOnce_own started (by kernel_rfl) Tryd.func5 rfl
    (fun ds h => by
      rw [Tryd.params5] at h
      match ds, h with
      | [d0, d1, d2, d3, d4], _ => rfl)
    (by kernel_rfl : Tryd.f5.resultTypes = #[4]) (by kernel_rfl) (by kernel_rfl) (by kernel_rfl)
    (ChangeSpec.witness_at (enc := enc) (C := Tryd.checked) (os := os) (X := fun w _ => laidMetH Tryd.prog [("farebox/sha512.table", Rows.laid_farebox_sha512_table), ("farebox/sha512.first", Rows.laid_farebox_sha512_first), ("farebox/scalar.order", Rows.laid_farebox_scalar_order)] w) false (World.laidAll Tryd.prog os [("farebox/sha512.table", Rows.laid_farebox_sha512_table), ("farebox/sha512.first", Rows.laid_farebox_sha512_first), ("farebox/scalar.order", Rows.laid_farebox_scalar_order)]) #[.agg #[.int .u8 0, .int .u8 0, .int .u8 0, .int .u8 0, .int .u8 0, .int .u8 0, .int .u8 0, .int .u8 0, .int .u8 0, .int .u8 0, .int .u8 0, .int .u8 0, .int .u8 0, .int .u8 0, .int .u8 0, .int .u8 0, .int .u8 0, .int .u8 0, .int .u8 0, .int .u8 0, .int .u8 0, .int .u8 0, .int .u8 0, .int .u8 0, .int .u8 0, .int .u8 0, .int .u8 0, .int .u8 0, .int .u8 0, .int .u8 0, .int .u8 0, .int .u8 0], .slice none 0 0, .agg #[.int .u8 0, .int .u8 0, .int .u8 0, .int .u8 0, .int .u8 0, .int .u8 0, .int .u8 0, .int .u8 0, .int .u8 0, .int .u8 0, .int .u8 0, .int .u8 0, .int .u8 0, .int .u8 0, .int .u8 0, .int .u8 0, .int .u8 0, .int .u8 0, .int .u8 0, .int .u8 0, .int .u8 0, .int .u8 0, .int .u8 0, .int .u8 0, .int .u8 0, .int .u8 0, .int .u8 0, .int .u8 0, .int .u8 0, .int .u8 0, .int .u8 0, .int .u8 0], .agg #[.int .u8 0, .int .u8 0, .int .u8 0, .int .u8 0, .int .u8 0, .int .u8 0, .int .u8 0, .int .u8 0, .int .u8 0, .int .u8 0, .int .u8 0, .int .u8 0, .int .u8 0, .int .u8 0, .int .u8 0, .int .u8 0, .int .u8 0, .int .u8 0, .int .u8 0, .int .u8 0, .int .u8 0, .int .u8 0, .int .u8 0, .int .u8 0, .int .u8 0, .int .u8 0, .int .u8 0, .int .u8 0, .int .u8 0, .int .u8 0, .int .u8 0, .int .u8 0, .int .u8 0, .int .u8 0, .int .u8 0, .int .u8 0, .int .u8 0, .int .u8 0, .int .u8 0, .int .u8 0, .int .u8 0, .int .u8 0, .int .u8 0, .int .u8 0, .int .u8 0, .int .u8 0, .int .u8 0, .int .u8 0, .int .u8 0, .int .u8 0, .int .u8 0, .int .u8 0, .int .u8 0, .int .u8 0, .int .u8 0, .int .u8 0, .int .u8 0, .int .u8 0, .int .u8 0, .int .u8 0, .int .u8 0, .int .u8 0, .int .u8 0, .int .u8 0], .agg #[.int .u8 0, .int .u8 0, .int .u8 0, .int .u8 0, .int .u8 0, .int .u8 0, .int .u8 0, .int .u8 0, .int .u8 0, .int .u8 0, .int .u8 0, .int .u8 0, .int .u8 0, .int .u8 0, .int .u8 0, .int .u8 0, .int .u8 0, .int .u8 0, .int .u8 0, .int .u8 0, .int .u8 0, .int .u8 0, .int .u8 0, .int .u8 0, .int .u8 0, .int .u8 0, .int .u8 0, .int .u8 0, .int .u8 0, .int .u8 0, .int .u8 0, .int .u8 0]] 8 (World.laidAll_os _ _ _) (by kernel_rfl) (by kernel_rfl) (by kernel_rfl) (by kernel_rfl) (by kernel_rfl) (signOnce_met os))
    (fun W args hL hg => signOnce_law W args hL hg)
/-- The row. -/
theorem signOnce_holds : Rows.SignOnceSaid :=
  OpenClaim.holds_of_wide 5 Tryd.f5 rfl rfl rfl rfl rfl rfl rfl ⟨rfl, rfl, rfl, rfl, rfl⟩ rfl rfl rfl rfl rfl (by kernel_rfl) Tryd.func5 (by kernel_rfl)
    (of_decide_eq_true (by kernel_rfl)) (by unfold Func.isWrapper; first | (rw [if_pos (by decide +kernel)]; kernel_rfl) | (rw [if_neg (by decide +kernel)]; exact ⟨rfl, rfl⟩))
    (fun os started H enc _ => signOnce_lifted os started H enc)
/-- The card. -/
theorem signOnce_card_holds : Rows.SignOnceCardSaid :=
  Claim7.holds_tied_plain_at .later [] [.data, .data, .data] true (true, "bf32618f76c4df2abd3bf3890172ce253f595848c50419bf7240a6be9f031777") false
    signOnce_holds (fun _ h => by cases h) (by kernel_rfl) (fun _ h => by cases h) signOnce_row_tie rfl ⟨rfl, rfl⟩ (by kernel_rfl) rfl
    (fun f fn hf hfn => by
      obtain rfl : f = 5 := Option.some.inj ((show Tryd.prog.funcNamed "farebox/fareboxlaw08.SignOnce" = some 5 by kernel_rfl).symm.trans hf) |>.symm
      obtain rfl : fn = Tryd.f5 := (Option.some.inj (Tryd.func5.symm.trans hfn)).symm
      exact ⟨by kernel_rfl, fun j t ht => by
        rw [Tryd.params5] at ht
        have hall : ∀ t ∈ #[38, 28, 27, 30, 26], Tryd.prog.wantsStandIn t = false := by decide +kernel
        exact hall t (Array.mem_of_getElem? ht)⟩)
    (by kernel_rfl)
#print axioms signOnce_card_holds
end Go.Proofs.YtiflckckekjbnaaDoor
