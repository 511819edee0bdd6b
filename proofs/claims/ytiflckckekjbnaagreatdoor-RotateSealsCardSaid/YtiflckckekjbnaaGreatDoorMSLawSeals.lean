/- Texts of a proof: LawSeals. -/
import Derived.Test.YtiflckckekjbnaaGreatDoorMS8
import Derived.Test.YtiflckckekjbnaaGreatDoorRows
import Derived.Test.YtiflckckekjbnaaGreatDoorCards
import Derived.Test.YtiflckckekjbnaaGreatDoorTie
/- The row and the card of RotateSeals. -/
namespace Go.Proofs.YtiflckckekjbnaaGreatDoor
open Go Go.Sx Go.RowKit
set_option linter.all false
set_option maxRecDepth 100000
theorem u8_of_wf3 {x : Int} (h : (Lit.int .u8 x).wf = true) : 0 ≤ x ∧ x < 256 := by
  have := bounds_u8 h
  omega

theorem rotateSeals_law (W : World) (args : Array Value) (hL : laidMetH Tryz.prog [("farebox/fareboxref03.K", Rows.laid_farebox_fareboxref03_K), ("farebox/fareboxref03.First", Rows.laid_farebox_fareboxref03_First), ("farebox/sha512.table", Rows.laid_farebox_sha512_table), ("farebox/sha512.first", Rows.laid_farebox_sha512_first), ("farebox/scalar.order", Rows.laid_farebox_scalar_order)] W) (hg : Given Tryz.checked Tryz.f6 W args) : LawAt Tryz.prog 6 args W := by
  have h := hg.open 30
  rw [Tryz.params6] at h
  obtain ⟨v0, q0, k0, ⟨b0, w0⟩, f0, h⟩ := h
  obtain ⟨v1, q1, k1, ⟨b1, w1⟩, f1, h⟩ := h
  obtain ⟨v2, q2, k2, ⟨b2, w2⟩, f2, h⟩ := h
  obtain ⟨v3, q3, k3, ⟨b3, w3⟩, f3, h⟩ := h
  have hend : q3 = [] := h
  obtain ⟨u0, w0, y0⟩ : ∃ u : List Value, v0 = .agg u.toArray ∧ Fits W maxLen (.ints .u8 32 .nil) u := ⟨_, wide_agg w0 (by kernel_rfl), f0 _ (by kernel_rfl)⟩
  subst w0
  clear f0
  obtain ⟨x0_0, _, lx0_0, wx0_0, rfl, rfl⟩ := y0
  have f1 := f1 (.int .i64 .nil) (by kernel_rfl)
  generalize hu1 : v1.cells.toList = u1 at f1
  obtain ⟨x1_0, _, rfl, wx1_0, rfl⟩ := f1
  obtain rfl := wide_one w1 (by kernel_rfl) hu1
  clear hu1
  obtain ⟨u2, w2, y2⟩ : ∃ u : List Value, v2 = .agg u.toArray ∧ Fits W maxLen (.ints .u8 32 .nil) u := ⟨_, wide_agg w2 (by kernel_rfl), f2 _ (by kernel_rfl)⟩
  subst w2
  clear f2
  obtain ⟨x2_0, _, lx2_0, wx2_0, rfl, rfl⟩ := y2
  obtain ⟨u3, w3, y3⟩ : ∃ u : List Value, v3 = .agg u.toArray ∧ Fits W maxLen (.int .i64 (.ints .u8 32 (.ints .u8 64 .nil))) u := ⟨_, wide_agg w3 (by kernel_rfl), f3 _ (by kernel_rfl)⟩
  subst w3
  clear f3
  obtain ⟨x3_0, _, rfl, wx3_0, ⟨x3_1, _, lx3_1, wx3_1, rfl, ⟨x3_2, _, lx3_2, wx3_2, rfl, rfl⟩⟩⟩ := y3
  subst hend
  subst k3
  subst k2
  subst k1
  obtain rfl : args = #[.agg (intsCells .u8 32 x0_0 ++ []).toArray, .int .i64 x1_0, .agg (intsCells .u8 32 x2_0 ++ []).toArray, .agg ((Value.int .i64 x3_0) :: (intsCells .u8 32 x3_1 ++ (intsCells .u8 64 x3_2 ++ []))).toArray] := by cases args; simpa using k0
  clear k0
  have hG : Globs W := by
    rw [Go.MakeChecks.laidMetH_plain Tryz.prog _ _ (by kernel_rfl)] at hL
    have hg0 := laid_ints (xs := G_rfirst) (k := .u64) (e := 78) (name := "farebox/fareboxref03.First") hL (List.Mem.tail _ (List.Mem.head _)) (g := 0) (by kernel_rfl) (by kernel_rfl : _ = some 144) (m := 8) (by kernel_rfl) (by kernel_rfl) (by kernel_rfl) (by kernel_rfl) (by decide)
    have hg1 := laid_ints (xs := G_order) (k := .u64) (e := 78) (name := "farebox/scalar.order") hL (List.Mem.tail _ (List.Mem.tail _ (List.Mem.tail _ (List.Mem.tail _ (List.Mem.head _))))) (g := 1) (by kernel_rfl) (by kernel_rfl : _ = some 162) (m := 4) (by kernel_rfl) (by kernel_rfl) (by kernel_rfl) (by kernel_rfl) (by decide)
    have hg2 := laid_ints (xs := G_first) (k := .u64) (e := 78) (name := "farebox/sha512.first") hL (List.Mem.tail _ (List.Mem.tail _ (List.Mem.tail _ (List.Mem.head _)))) (g := 2) (by kernel_rfl) (by kernel_rfl : _ = some 144) (m := 8) (by kernel_rfl) (by kernel_rfl) (by kernel_rfl) (by kernel_rfl) (by decide)
    have hg3 := laid_ints (xs := G_rtable) (k := .u64) (e := 78) (name := "farebox/fareboxref03.K") hL (List.Mem.head _) (g := 3) (by kernel_rfl) (by kernel_rfl : _ = some 211) (m := 80) (by kernel_rfl) (by kernel_rfl) (by kernel_rfl) (by kernel_rfl) (by decide)
    have hg4 := laid_ints (xs := G_table) (k := .u64) (e := 78) (name := "farebox/sha512.table") hL (List.Mem.tail _ (List.Mem.tail _ (List.Mem.head _))) (g := 4) (by kernel_rfl) (by kernel_rfl : _ = some 211) (m := 80) (by kernel_rfl) (by kernel_rfl) (by kernel_rfl) (by kernel_rfl) (by decide)
    exact ⟨hg0, hg1, hg2, hg3, hg4⟩
  have b0 : Byt x0_0 := byt_of fun x hx => u8_of_wf3 (wx0_0 x hx)
  have b2 : Byt x2_0 := byt_of fun x hx => u8_of_wf3 (wx2_0 x hx)
  have h := fareboxlaw30_RotateSeals_spec (p0 := x0_0) (p1 := x1_0) (p2 := x2_0) (p3 := ⟨x3_0, x3_1, x3_2⟩) (rotateSeals_eq b0 lx0_0 b2) hG
  exact h.mono fun e w' hh => hh
theorem rotateSeals_own : ownKnob Tryz.prog.godebug = none := by kernel_rfl
theorem rotateSeals_met (os : Os) : laidMetH Tryz.prog [("farebox/fareboxref03.K", Rows.laid_farebox_fareboxref03_K), ("farebox/fareboxref03.First", Rows.laid_farebox_fareboxref03_First), ("farebox/sha512.table", Rows.laid_farebox_sha512_table), ("farebox/sha512.first", Rows.laid_farebox_sha512_first), ("farebox/scalar.order", Rows.laid_farebox_scalar_order)] ((World.laidAll Tryz.prog os [("farebox/fareboxref03.K", Rows.laid_farebox_fareboxref03_K), ("farebox/fareboxref03.First", Rows.laid_farebox_fareboxref03_First), ("farebox/sha512.table", Rows.laid_farebox_sha512_table), ("farebox/sha512.first", Rows.laid_farebox_sha512_first), ("farebox/scalar.order", Rows.laid_farebox_scalar_order)]).forCall (fun _ _ => 0) ⟨#[], #[.agg #[.int .u8 0, .int .u8 0, .int .u8 0, .int .u8 0, .int .u8 0, .int .u8 0, .int .u8 0, .int .u8 0, .int .u8 0, .int .u8 0, .int .u8 0, .int .u8 0, .int .u8 0, .int .u8 0, .int .u8 0, .int .u8 0, .int .u8 0, .int .u8 0, .int .u8 0, .int .u8 0, .int .u8 0, .int .u8 0, .int .u8 0, .int .u8 0, .int .u8 0, .int .u8 0, .int .u8 0, .int .u8 0, .int .u8 0, .int .u8 0, .int .u8 0, .int .u8 0], .int .i64 0, .agg #[.int .u8 0, .int .u8 0, .int .u8 0, .int .u8 0, .int .u8 0, .int .u8 0, .int .u8 0, .int .u8 0, .int .u8 0, .int .u8 0, .int .u8 0, .int .u8 0, .int .u8 0, .int .u8 0, .int .u8 0, .int .u8 0, .int .u8 0, .int .u8 0, .int .u8 0, .int .u8 0, .int .u8 0, .int .u8 0, .int .u8 0, .int .u8 0, .int .u8 0, .int .u8 0, .int .u8 0, .int .u8 0, .int .u8 0, .int .u8 0, .int .u8 0, .int .u8 0], .agg #[.int .i64 0, .int .u8 0, .int .u8 0, .int .u8 0, .int .u8 0, .int .u8 0, .int .u8 0, .int .u8 0, .int .u8 0, .int .u8 0, .int .u8 0, .int .u8 0, .int .u8 0, .int .u8 0, .int .u8 0, .int .u8 0, .int .u8 0, .int .u8 0, .int .u8 0, .int .u8 0, .int .u8 0, .int .u8 0, .int .u8 0, .int .u8 0, .int .u8 0, .int .u8 0, .int .u8 0, .int .u8 0, .int .u8 0, .int .u8 0, .int .u8 0, .int .u8 0, .int .u8 0, .int .u8 0, .int .u8 0, .int .u8 0, .int .u8 0, .int .u8 0, .int .u8 0, .int .u8 0, .int .u8 0, .int .u8 0, .int .u8 0, .int .u8 0, .int .u8 0, .int .u8 0, .int .u8 0, .int .u8 0, .int .u8 0, .int .u8 0, .int .u8 0, .int .u8 0, .int .u8 0, .int .u8 0, .int .u8 0, .int .u8 0, .int .u8 0, .int .u8 0, .int .u8 0, .int .u8 0, .int .u8 0, .int .u8 0, .int .u8 0, .int .u8 0, .int .u8 0, .int .u8 0, .int .u8 0, .int .u8 0, .int .u8 0, .int .u8 0, .int .u8 0, .int .u8 0, .int .u8 0, .int .u8 0, .int .u8 0, .int .u8 0, .int .u8 0, .int .u8 0, .int .u8 0, .int .u8 0, .int .u8 0, .int .u8 0, .int .u8 0, .int .u8 0, .int .u8 0, .int .u8 0, .int .u8 0, .int .u8 0, .int .u8 0, .int .u8 0, .int .u8 0, .int .u8 0, .int .u8 0, .int .u8 0, .int .u8 0, .int .u8 0, .int .u8 0]], []⟩).memory := by
  rw [Go.MakeChecks.laidMetH_plain Tryz.prog _ _ (by kernel_rfl)]
  exact laidMet_laidAll _ (by kernel_rfl) (by kernel_rfl)
theorem rotateSeals_lifted (os : Os) (started : os.Started) (H : Type) (enc : TypeId × Value → H) :
    ReturnsInHanded {} Tryz.checked os 6 .any (fun w args => (Rows.rotateSealsSpec.pre enc Tryz.prog Tryz.f6 Rows.rotateSealsRow.domain false w args ∧ laidMetH Tryz.prog [("farebox/fareboxref03.K", Rows.laid_farebox_fareboxref03_K), ("farebox/fareboxref03.First", Rows.laid_farebox_fareboxref03_First), ("farebox/sha512.table", Rows.laid_farebox_sha512_table), ("farebox/sha512.first", Rows.laid_farebox_sha512_first), ("farebox/scalar.order", Rows.laid_farebox_scalar_order)] w) ∧ sizedMet enc Tryz.prog Tryz.f6 (OpenSpec.ofChange Rows.rotateSealsSpec) false w args) (Rows.rotateSealsSpec.post enc Tryz.prog Tryz.f6 false true false false) :=
  law_laid (C := Tryz.checked) rotateSeals_own started (by kernel_rfl) Tryz.func6 rfl
    (fun ds h => by
      rw [Tryz.params6] at h
      match ds, h with
      | [d0, d1, d2, d3], _ => rfl)
    (by kernel_rfl : Tryz.f6.resultTypes = #[4]) (by kernel_rfl) (by kernel_rfl) (by kernel_rfl)
    (ChangeSpec.witness_at (enc := enc) (C := Tryz.checked) (os := os) (X := fun w _ => laidMetH Tryz.prog [("farebox/fareboxref03.K", Rows.laid_farebox_fareboxref03_K), ("farebox/fareboxref03.First", Rows.laid_farebox_fareboxref03_First), ("farebox/sha512.table", Rows.laid_farebox_sha512_table), ("farebox/sha512.first", Rows.laid_farebox_sha512_first), ("farebox/scalar.order", Rows.laid_farebox_scalar_order)] w) false (World.laidAll Tryz.prog os [("farebox/fareboxref03.K", Rows.laid_farebox_fareboxref03_K), ("farebox/fareboxref03.First", Rows.laid_farebox_fareboxref03_First), ("farebox/sha512.table", Rows.laid_farebox_sha512_table), ("farebox/sha512.first", Rows.laid_farebox_sha512_first), ("farebox/scalar.order", Rows.laid_farebox_scalar_order)]) #[.agg #[.int .u8 0, .int .u8 0, .int .u8 0, .int .u8 0, .int .u8 0, .int .u8 0, .int .u8 0, .int .u8 0, .int .u8 0, .int .u8 0, .int .u8 0, .int .u8 0, .int .u8 0, .int .u8 0, .int .u8 0, .int .u8 0, .int .u8 0, .int .u8 0, .int .u8 0, .int .u8 0, .int .u8 0, .int .u8 0, .int .u8 0, .int .u8 0, .int .u8 0, .int .u8 0, .int .u8 0, .int .u8 0, .int .u8 0, .int .u8 0, .int .u8 0, .int .u8 0], .int .i64 0, .agg #[.int .u8 0, .int .u8 0, .int .u8 0, .int .u8 0, .int .u8 0, .int .u8 0, .int .u8 0, .int .u8 0, .int .u8 0, .int .u8 0, .int .u8 0, .int .u8 0, .int .u8 0, .int .u8 0, .int .u8 0, .int .u8 0, .int .u8 0, .int .u8 0, .int .u8 0, .int .u8 0, .int .u8 0, .int .u8 0, .int .u8 0, .int .u8 0, .int .u8 0, .int .u8 0, .int .u8 0, .int .u8 0, .int .u8 0, .int .u8 0, .int .u8 0, .int .u8 0], .agg #[.int .i64 0, .int .u8 0, .int .u8 0, .int .u8 0, .int .u8 0, .int .u8 0, .int .u8 0, .int .u8 0, .int .u8 0, .int .u8 0, .int .u8 0, .int .u8 0, .int .u8 0, .int .u8 0, .int .u8 0, .int .u8 0, .int .u8 0, .int .u8 0, .int .u8 0, .int .u8 0, .int .u8 0, .int .u8 0, .int .u8 0, .int .u8 0, .int .u8 0, .int .u8 0, .int .u8 0, .int .u8 0, .int .u8 0, .int .u8 0, .int .u8 0, .int .u8 0, .int .u8 0, .int .u8 0, .int .u8 0, .int .u8 0, .int .u8 0, .int .u8 0, .int .u8 0, .int .u8 0, .int .u8 0, .int .u8 0, .int .u8 0, .int .u8 0, .int .u8 0, .int .u8 0, .int .u8 0, .int .u8 0, .int .u8 0, .int .u8 0, .int .u8 0, .int .u8 0, .int .u8 0, .int .u8 0, .int .u8 0, .int .u8 0, .int .u8 0, .int .u8 0, .int .u8 0, .int .u8 0, .int .u8 0, .int .u8 0, .int .u8 0, .int .u8 0, .int .u8 0, .int .u8 0, .int .u8 0, .int .u8 0, .int .u8 0, .int .u8 0, .int .u8 0, .int .u8 0, .int .u8 0, .int .u8 0, .int .u8 0, .int .u8 0, .int .u8 0, .int .u8 0, .int .u8 0, .int .u8 0, .int .u8 0, .int .u8 0, .int .u8 0, .int .u8 0, .int .u8 0, .int .u8 0, .int .u8 0, .int .u8 0, .int .u8 0, .int .u8 0, .int .u8 0, .int .u8 0, .int .u8 0, .int .u8 0, .int .u8 0, .int .u8 0, .int .u8 0]] 8 (World.laidAll_os _ _ _) (by kernel_rfl) (by kernel_rfl) (by kernel_rfl) (by kernel_rfl) (by kernel_rfl) (rotateSeals_met os))
    (fun W args hL hg => rotateSeals_law W args hL hg)
/-- The row. -/
theorem rotateSeals_holds : Rows.RotateSealsSaid :=
  OpenClaim.holds_of_wide 6 Tryz.f6 rfl rfl rfl rfl rfl rfl rfl ⟨rfl, rfl, rfl, rfl, rfl⟩ rfl rfl rfl rfl rfl (by kernel_rfl) Tryz.func6 (by kernel_rfl)
    (of_decide_eq_true (by kernel_rfl)) (by unfold Func.isWrapper; first | (rw [if_pos (by decide +kernel)]; kernel_rfl) | (rw [if_neg (by decide +kernel)]; exact ⟨rfl, rfl⟩))
    (fun os started H enc _ => rotateSeals_lifted os started H enc)
/-- The card. -/
theorem rotateSeals_card_holds : Rows.RotateSealsCardSaid :=
  Claim7.holds_tied_plain_at .later [] [.data, .data, .data, .data, .data] true (true, "1d8087243e415c7bcaf2b694f10484aae6c10c0460a221fe3f96c1b367ade8be") false
    rotateSeals_holds (fun _ h => by cases h) (by kernel_rfl) (fun _ h => by cases h) rotateSeals_row_tie rfl ⟨rfl, rfl⟩ (by kernel_rfl) rfl
    (fun f fn hf hfn => by
      obtain rfl : f = 6 := Option.some.inj ((show Tryz.prog.funcNamed "farebox/fareboxlaw30.RotateSeals" = some 6 by kernel_rfl).symm.trans hf) |>.symm
      obtain rfl : fn = Tryz.f6 := (Option.some.inj (Tryz.func6.symm.trans hfn)).symm
      exact ⟨by kernel_rfl, fun j t ht => by
        rw [Tryz.params6] at ht
        have hall : ∀ t ∈ #[23, 3, 29, 51], Tryz.prog.wantsStandIn t = false := by decide +kernel
        exact hall t (Array.mem_of_getElem? ht)⟩)
    (by kernel_rfl)
#print axioms rotateSeals_card_holds
end Go.Proofs.YtiflckckekjbnaaGreatDoor
