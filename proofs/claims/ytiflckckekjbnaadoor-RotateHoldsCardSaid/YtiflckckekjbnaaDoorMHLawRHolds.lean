/- Texts of a proof: LawRHolds. -/
import Derived.Test.YtiflckckekjbnaaDoorMH6
import Derived.Test.YtiflckckekjbnaaDoorRows
import Derived.Test.YtiflckckekjbnaaDoorCards
import Derived.Test.YtiflckckekjbnaaDoorTie
/- The row and the card of RotateHolds. -/
namespace Go.Proofs.YtiflckckekjbnaaDoor
open Go Go.Sx Go.RowKit
set_option linter.all false
set_option maxRecDepth 100000
theorem u8_of_wf3 {x : Int} (h : (Lit.int .u8 x).wf = true) : 0 ≤ x ∧ x < 256 := by
  have := bounds_u8 h
  omega
theorem keys_of {W : World} {n : Nat} {g : Nat → List Value} (h : ∀ i, i < n → Fits W maxLen (.ints .u8 32 .nil) (g i)) :
    ∃ f : Nat → List Int, ∀ i, i < n → g i = E_a32_El_int_u8.cell (f i) ∧ KeyOk (f i) := by
  have key : ∀ i, ∃ c : List Int, i < n → g i = E_a32_El_int_u8.cell c ∧ KeyOk c := by
    intro i
    by_cases hi : i < n
    · obtain ⟨key, _, lk, wk, e1, e2⟩ := h i hi
      subst e2
      exact ⟨key, fun _ => ⟨e1, byt_of fun x hx => u8_of_wf3 (wk x hx), lk⟩⟩
    · exact ⟨[], fun h => absurd h hi⟩
  exact ⟨fun i => (key i).choose, fun i hi => (key i).choose_spec hi⟩
theorem keys_arg {W : World} {a : Option Addr} {len cap : Nat} {g : Nat → List Value} (hS : SlR W 32 a cap g) (hl : len ≤ cap) (hF : ∀ i, i < cap → Fits W maxLen (.ints .u8 32 .nil) (g i)) :
    ∃ p : List (List Int), p.length = len ∧ RdSl E_a32_El_int_u8 W (.slice a len cap) p := by
  obtain ⟨f, hf⟩ := keys_of hF
  have e1 : ∀ i, i < len → ((List.range len).map f).getD i E_a32_El_int_u8.z = f i := fun i hi => by simp [List.getD_eq_getElem?_getD, hi]
  refine ⟨(List.range len).map f, by simp, ?_⟩
  refine rd_of_SlR (E := E_a32_El_int_u8) hS hl (by simp) fun i hi => ?_
  rw [e1 i hi]
  exact (hf i (by omega)).1
theorem take_small {xs : List Int} {len cap : Nat} (h1 : len ≤ cap) (h2 : cap ≤ maxLen) : (xs.take len).length < 18446744073709551615 := by
  have h3 : (xs.take len).length ≤ len := by rw [List.length_take]; omega
  have h4 : maxLen = 9223372036854775807 := rfl
  omega

theorem rotateHolds_law (W : World) (args : Array Value) (hL : laidMetH Tryd.prog [("farebox/sha512.table", Rows.laid_farebox_sha512_table), ("farebox/sha512.first", Rows.laid_farebox_sha512_first), ("farebox/scalar.order", Rows.laid_farebox_scalar_order)] W) (hg : Given Tryd.checked Tryd.f6 W args) : LawAt Tryd.prog 6 args W := by
  have h := hg.open 30
  rw [Tryd.params6] at h
  obtain ⟨v0, q0, k0, ⟨b0, w0⟩, f0, h⟩ := h
  obtain ⟨v1, q1, k1, ⟨b1, w1⟩, f1, h⟩ := h
  obtain ⟨v2, q2, k2, ⟨b2, w2⟩, f2, h⟩ := h
  obtain ⟨v3, q3, k3, ⟨b3, w3⟩, f3, h⟩ := h
  obtain ⟨v4, q4, k4, ⟨b4, w4⟩, f4, h⟩ := h
  have hend : q4 = [] := h
  have f0 := f0 (.sl 32 (.ints .u8 32 .nil) .nil) (by kernel_rfl)
  generalize hu0 : v0.cells.toList = u0 at f0
  obtain ⟨x0_0, lx0_0, cx0_0, gx0_0, _, rfl, qx0_0, bx0_0, sx0_0, ex0_0, rfl⟩ := f0
  obtain rfl := wide_one w0 (by kernel_rfl) hu0
  clear hu0
  have f1 := f1 (.int .i64 .nil) (by kernel_rfl)
  generalize hu1 : v1.cells.toList = u1 at f1
  obtain ⟨x1_0, _, rfl, wx1_0, rfl⟩ := f1
  obtain rfl := wide_one w1 (by kernel_rfl) hu1
  clear hu1
  have f2 := f2 (.int .i64 .nil) (by kernel_rfl)
  generalize hu2 : v2.cells.toList = u2 at f2
  obtain ⟨x2_0, _, rfl, wx2_0, rfl⟩ := f2
  obtain rfl := wide_one w2 (by kernel_rfl) hu2
  clear hu2
  have f3 := f3 (.int .i64 .nil) (by kernel_rfl)
  generalize hu3 : v3.cells.toList = u3 at f3
  obtain ⟨x3_0, _, rfl, wx3_0, rfl⟩ := f3
  obtain rfl := wide_one w3 (by kernel_rfl) hu3
  clear hu3
  have f4 := f4 (.sli .u8 .nil) (by kernel_rfl)
  generalize hu4 : v4.cells.toList = u4 at f4
  obtain ⟨x4_0, lx4_0, cx4_0, gx4_0, _, rfl, qx4_0, bx4_0, sx4_0, rfl⟩ := f4
  obtain rfl := wide_one w4 (by kernel_rfl) hu4
  clear hu4
  subst hend
  subst k4
  subst k3
  subst k2
  subst k1
  obtain rfl : args = #[.slice x0_0 lx0_0 cx0_0, .int .i64 x1_0, .int .i64 x2_0, .int .i64 x3_0, .slice x4_0 lx4_0 cx4_0] := by cases args; simpa using k0
  clear k0
  have hG : Globs W := by
    rw [Go.MakeChecks.laidMetH_plain Tryd.prog _ _ (by kernel_rfl)] at hL
    have hg0 := laid_ints (xs := G_order) (k := .u64) (e := 56) (name := "farebox/scalar.order") hL (List.Mem.tail _ (List.Mem.tail _ (List.Mem.head _))) (g := 0) (by kernel_rfl) (by kernel_rfl : _ = some 93) (m := 4) (by kernel_rfl) (by kernel_rfl) (by kernel_rfl) (by kernel_rfl) (by decide)
    have hg1 := laid_ints (xs := G_first) (k := .u64) (e := 56) (name := "farebox/sha512.first") hL (List.Mem.tail _ (List.Mem.head _)) (g := 1) (by kernel_rfl) (by kernel_rfl : _ = some 135) (m := 8) (by kernel_rfl) (by kernel_rfl) (by kernel_rfl) (by kernel_rfl) (by decide)
    have hg2 := laid_ints (xs := G_table) (k := .u64) (e := 56) (name := "farebox/sha512.table") hL (List.Mem.head _) (g := 2) (by kernel_rfl) (by kernel_rfl : _ = some 155) (m := 80) (by kernel_rfl) (by kernel_rfl) (by kernel_rfl) (by kernel_rfl) (by decide)
    exact ⟨hg0, hg1, hg2⟩
  obtain ⟨p, hp, A0⟩ := keys_arg sx0_0 qx0_0 ex0_0
  have hpl : p.length ≤ 9223372036854775807 := by
    rw [hp]
    have h4 : maxLen = 9223372036854775807 := rfl
    omega
  have h := fareboxlaw30_RotateHolds_spec (p1 := x1_0) (p2 := x2_0) (p3 := x3_0) (rotateHolds_eq (m := gx4_0.take lx4_0) hpl (take_small qx4_0 bx4_0)) hG A0 (rd_of_SlI sx4_0 qx4_0)
  exact h.mono fun e w' hh => hh
theorem rotateHolds_own : ownKnob Tryd.prog.godebug = none := by kernel_rfl
theorem rotateHolds_met (os : Os) : laidMetH Tryd.prog [("farebox/sha512.table", Rows.laid_farebox_sha512_table), ("farebox/sha512.first", Rows.laid_farebox_sha512_first), ("farebox/scalar.order", Rows.laid_farebox_scalar_order)] ((World.laidAll Tryd.prog os [("farebox/sha512.table", Rows.laid_farebox_sha512_table), ("farebox/sha512.first", Rows.laid_farebox_sha512_first), ("farebox/scalar.order", Rows.laid_farebox_scalar_order)]).forCall (fun _ _ => 0) ⟨#[], #[.slice none 0 0, .int .i64 0, .int .i64 0, .int .i64 0, .slice none 0 0], []⟩).memory := by
  rw [Go.MakeChecks.laidMetH_plain Tryd.prog _ _ (by kernel_rfl)]
  exact laidMet_laidAll _ (by kernel_rfl) (by kernel_rfl)
theorem rotateHolds_lifted (os : Os) (started : os.Started) (H : Type) (enc : TypeId × Value → H) :
    ReturnsInHanded {} Tryd.checked os 6 .any (fun w args => (Rows.rotateHoldsSpec.pre enc Tryd.prog Tryd.f6 Rows.rotateHoldsRow.domain false w args ∧ laidMetH Tryd.prog [("farebox/sha512.table", Rows.laid_farebox_sha512_table), ("farebox/sha512.first", Rows.laid_farebox_sha512_first), ("farebox/scalar.order", Rows.laid_farebox_scalar_order)] w) ∧ sizedMet enc Tryd.prog Tryd.f6 (OpenSpec.ofChange Rows.rotateHoldsSpec) false w args) (Rows.rotateHoldsSpec.post enc Tryd.prog Tryd.f6 false true false false) :=
  law_laid (C := Tryd.checked) rotateHolds_own started (by kernel_rfl) Tryd.func6 rfl
    (fun ds h => by
      rw [Tryd.params6] at h
      match ds, h with
      | [d0, d1, d2, d3, d4], _ => rfl)
    (by kernel_rfl : Tryd.f6.resultTypes = #[4]) (by kernel_rfl) (by kernel_rfl) (by kernel_rfl)
    (ChangeSpec.witness_at (enc := enc) (C := Tryd.checked) (os := os) (X := fun w _ => laidMetH Tryd.prog [("farebox/sha512.table", Rows.laid_farebox_sha512_table), ("farebox/sha512.first", Rows.laid_farebox_sha512_first), ("farebox/scalar.order", Rows.laid_farebox_scalar_order)] w) false (World.laidAll Tryd.prog os [("farebox/sha512.table", Rows.laid_farebox_sha512_table), ("farebox/sha512.first", Rows.laid_farebox_sha512_first), ("farebox/scalar.order", Rows.laid_farebox_scalar_order)]) #[.slice none 0 0, .int .i64 0, .int .i64 0, .int .i64 0, .slice none 0 0] 8 (World.laidAll_os _ _ _) (by kernel_rfl) (by kernel_rfl) (by kernel_rfl) (by kernel_rfl) (by kernel_rfl) (rotateHolds_met os))
    (fun W args hL hg => rotateHolds_law W args hL hg)
/-- The row. -/
theorem rotateHolds_holds : Rows.RotateHoldsSaid :=
  OpenClaim.holds_of_wide 6 Tryd.f6 rfl rfl rfl rfl rfl rfl rfl ⟨rfl, rfl, rfl, rfl, rfl⟩ rfl rfl rfl rfl rfl (by kernel_rfl) Tryd.func6 (by kernel_rfl)
    (of_decide_eq_true (by kernel_rfl)) (by unfold Func.isWrapper; first | (rw [if_pos (by decide +kernel)]; kernel_rfl) | (rw [if_neg (by decide +kernel)]; exact ⟨rfl, rfl⟩))
    (fun os started H enc _ => rotateHolds_lifted os started H enc)
/-- The card. -/
theorem rotateHolds_card_holds : Rows.RotateHoldsCardSaid :=
  Claim7.holds_tied_plain_at .later [] [.data, .data, .data] true (true, "bf32618f76c4df2abd3bf3890172ce253f595848c50419bf7240a6be9f031777") false
    rotateHolds_holds (fun _ h => by cases h) (by kernel_rfl) (fun _ h => by cases h) rotateHolds_row_tie rfl ⟨rfl, rfl⟩ (by kernel_rfl) rfl
    (fun f fn hf hfn => by
      obtain rfl : f = 6 := Option.some.inj ((show Tryd.prog.funcNamed "farebox/fareboxlaw30.RotateHolds" = some 6 by kernel_rfl).symm.trans hf) |>.symm
      obtain rfl : fn = Tryd.f6 := (Option.some.inj (Tryd.func6.symm.trans hfn)).symm
      exact ⟨by kernel_rfl, fun j t ht => by
        rw [Tryd.params6] at ht
        have hall : ∀ t ∈ #[46, 3, 3, 3, 28], Tryd.prog.wantsStandIn t = false := by decide +kernel
        exact hall t (Array.mem_of_getElem? ht)⟩)
    (by kernel_rfl)
#print axioms rotateHolds_card_holds
end Go.Proofs.YtiflckckekjbnaaDoor
