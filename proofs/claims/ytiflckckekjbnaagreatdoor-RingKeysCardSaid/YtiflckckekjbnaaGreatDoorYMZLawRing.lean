/- Texts of a proof: LawRing. -/
import Derived.Test.YtiflckckekjbnaaGreatDoorYMZ7
import Derived.Test.YtiflckckekjbnaaGreatDoorRows
import Derived.Test.YtiflckckekjbnaaGreatDoorCards
import Derived.Test.YtiflckckekjbnaaGreatDoorTie
/- The row and the card of RingKeys. -/
namespace Go.Proofs.YtiflckckekjbnaaGreatDoor
open Go Go.Sx Go.RowKit
set_option linter.all false
set_option maxRecDepth 100000
theorem ringKeys_law (W : World) (args : Array Value) (hL : laidMetH Tryz.prog [("farebox/fareboxref03.K", Rows.laid_farebox_fareboxref03_K), ("farebox/fareboxref03.First", Rows.laid_farebox_fareboxref03_First), ("farebox/sha256.first", Rows.laid_farebox_sha256_first), ("farebox/sha256.constants", Rows.laid_farebox_sha256_constants), ("farebox/sha512.table", Rows.laid_farebox_sha512_table), ("farebox/sha512.first", Rows.laid_farebox_sha512_first)] W) (hg : Given Tryz.checked Tryz.f4 W args) : LawAt Tryz.prog 4 args W := by
  have h := hg.open 30
  rw [Tryz.params4] at h
  obtain ⟨v0, q0, k0, ⟨b0, w0⟩, f0, h⟩ := h
  obtain ⟨v1, q1, k1, ⟨b1, w1⟩, f1, h⟩ := h
  have hend : q1 = [] := h
  obtain ⟨u0, w0, y0⟩ : ∃ u : List Value, v0 = .agg u.toArray ∧ Fits W maxLen (.int .i64 (.int .i64 (.int .i64 (.int .i64 (.int .i64 (.ints .u8 32 .nil)))))) u := ⟨_, wide_agg w0 (by kernel_rfl), f0 _ (by kernel_rfl)⟩
  subst w0
  clear f0
  obtain ⟨x0_0, _, rfl, wx0_0, ⟨x0_1, _, rfl, wx0_1, ⟨x0_2, _, rfl, wx0_2, ⟨x0_3, _, rfl, wx0_3, ⟨x0_4, _, rfl, wx0_4, ⟨x0_5, _, lx0_5, wx0_5, rfl, rfl⟩⟩⟩⟩⟩⟩ := y0
  have f1 := f1 (.int .i64 .nil) (by kernel_rfl)
  generalize hu1 : v1.cells.toList = u1 at f1
  obtain ⟨x1_0, _, rfl, wx1_0, rfl⟩ := f1
  obtain rfl := wide_one w1 (by kernel_rfl) hu1
  clear hu1
  subst hend
  subst k1
  obtain rfl : args = #[.agg ((Value.int .i64 x0_0) :: ((Value.int .i64 x0_1) :: ((Value.int .i64 x0_2) :: ((Value.int .i64 x0_3) :: ((Value.int .i64 x0_4) :: (intsCells .u8 32 x0_5 ++ [])))))).toArray, .int .i64 x1_0] := by cases args; simpa using k0
  clear k0
  have hG : Globs W := by
    rw [Go.MakeChecks.laidMetH_plain Tryz.prog _ _ (by kernel_rfl)] at hL
    have hg0 := laid_ints (xs := G_rfirst) (k := .u64) (e := 78) (name := "farebox/fareboxref03.First") hL (List.Mem.tail _ (List.Mem.head _)) (g := 0) (by kernel_rfl) (by kernel_rfl : _ = some 144) (m := 8) (by kernel_rfl) (by kernel_rfl) (by kernel_rfl) (by kernel_rfl) (by decide)
    have hg2 := laid_ints (xs := G_first) (k := .u64) (e := 78) (name := "farebox/sha512.first") hL (List.Mem.tail _ (List.Mem.tail _ (List.Mem.tail _ (List.Mem.tail _ (List.Mem.tail _ (List.Mem.head _)))))) (g := 2) (by kernel_rfl) (by kernel_rfl : _ = some 144) (m := 8) (by kernel_rfl) (by kernel_rfl) (by kernel_rfl) (by kernel_rfl) (by decide)
    have hg3 := laid_ints (xs := G_rtable) (k := .u64) (e := 78) (name := "farebox/fareboxref03.K") hL (List.Mem.head _) (g := 3) (by kernel_rfl) (by kernel_rfl : _ = some 211) (m := 80) (by kernel_rfl) (by kernel_rfl) (by kernel_rfl) (by kernel_rfl) (by decide)
    have hg4 := laid_ints (xs := G_table) (k := .u64) (e := 78) (name := "farebox/sha512.table") hL (List.Mem.tail _ (List.Mem.tail _ (List.Mem.tail _ (List.Mem.tail _ (List.Mem.head _))))) (g := 4) (by kernel_rfl) (by kernel_rfl : _ = some 211) (m := 80) (by kernel_rfl) (by kernel_rfl) (by kernel_rfl) (by kernel_rfl) (by decide)
    have hg5 := laid_ints (xs := G_first256) (k := .u32) (e := 115) (name := "farebox/sha256.first") hL (List.Mem.tail _ (List.Mem.tail _ (List.Mem.head _))) (g := 5) (by kernel_rfl) (by kernel_rfl : _ = some 245) (m := 8) (by kernel_rfl) (by kernel_rfl) (by kernel_rfl) (by kernel_rfl) (by decide)
    have hg6 := laid_ints (xs := G_table256) (k := .u32) (e := 115) (name := "farebox/sha256.constants") hL (List.Mem.tail _ (List.Mem.tail _ (List.Mem.tail _ (List.Mem.head _)))) (g := 6) (by kernel_rfl) (by kernel_rfl : _ = some 250) (m := 64) (by kernel_rfl) (by kernel_rfl) (by kernel_rfl) (by kernel_rfl) (by decide)
    exact ⟨hg0, hg2, hg3, hg4, hg5, hg6⟩
  have h := fareboxlaw11_RingKeys_spec (p0 := ⟨x0_0, x0_1, x0_2, x0_3, x0_4, x0_5⟩) (p1 := x1_0) (ringKeys_eq lx0_5 x1_0) hG
  exact h.mono fun e w' hh => hh
theorem ringKeys_own : ownKnob Tryz.prog.godebug = none := by kernel_rfl
theorem ringKeys_met (os : Os) : laidMetH Tryz.prog [("farebox/fareboxref03.K", Rows.laid_farebox_fareboxref03_K), ("farebox/fareboxref03.First", Rows.laid_farebox_fareboxref03_First), ("farebox/sha256.first", Rows.laid_farebox_sha256_first), ("farebox/sha256.constants", Rows.laid_farebox_sha256_constants), ("farebox/sha512.table", Rows.laid_farebox_sha512_table), ("farebox/sha512.first", Rows.laid_farebox_sha512_first)] ((World.laidAll Tryz.prog os [("farebox/fareboxref03.K", Rows.laid_farebox_fareboxref03_K), ("farebox/fareboxref03.First", Rows.laid_farebox_fareboxref03_First), ("farebox/sha256.first", Rows.laid_farebox_sha256_first), ("farebox/sha256.constants", Rows.laid_farebox_sha256_constants), ("farebox/sha512.table", Rows.laid_farebox_sha512_table), ("farebox/sha512.first", Rows.laid_farebox_sha512_first)]).forCall (fun _ _ => 0) ⟨#[], #[.agg #[.int .i64 0, .int .i64 0, .int .i64 0, .int .i64 0, .int .i64 0, .int .u8 0, .int .u8 0, .int .u8 0, .int .u8 0, .int .u8 0, .int .u8 0, .int .u8 0, .int .u8 0, .int .u8 0, .int .u8 0, .int .u8 0, .int .u8 0, .int .u8 0, .int .u8 0, .int .u8 0, .int .u8 0, .int .u8 0, .int .u8 0, .int .u8 0, .int .u8 0, .int .u8 0, .int .u8 0, .int .u8 0, .int .u8 0, .int .u8 0, .int .u8 0, .int .u8 0, .int .u8 0, .int .u8 0, .int .u8 0, .int .u8 0, .int .u8 0], .int .i64 0], []⟩).memory := by
  rw [Go.MakeChecks.laidMetH_plain Tryz.prog _ _ (by kernel_rfl)]
  exact laidMet_laidAll _ (by kernel_rfl) (by kernel_rfl)
theorem ringKeys_lifted (os : Os) (started : os.Started) (H : Type) (enc : TypeId × Value → H) :
    ReturnsInHanded {} Tryz.checked os 4 .any (fun w args => (Rows.ringKeysSpec.pre enc Tryz.prog Tryz.f4 Rows.ringKeysRow.domain false w args ∧ laidMetH Tryz.prog [("farebox/fareboxref03.K", Rows.laid_farebox_fareboxref03_K), ("farebox/fareboxref03.First", Rows.laid_farebox_fareboxref03_First), ("farebox/sha256.first", Rows.laid_farebox_sha256_first), ("farebox/sha256.constants", Rows.laid_farebox_sha256_constants), ("farebox/sha512.table", Rows.laid_farebox_sha512_table), ("farebox/sha512.first", Rows.laid_farebox_sha512_first)] w) ∧ sizedMet enc Tryz.prog Tryz.f4 (OpenSpec.ofChange Rows.ringKeysSpec) false w args) (Rows.ringKeysSpec.post enc Tryz.prog Tryz.f4 false true false false) :=
  law_laid (C := Tryz.checked) ringKeys_own started (by kernel_rfl) Tryz.func4 rfl
    (fun ds h => by
      rw [Tryz.params4] at h
      match ds, h with
      | [d0, d1], _ => rfl)
    (by kernel_rfl : Tryz.f4.resultTypes = #[4]) (by kernel_rfl) (by kernel_rfl) (by kernel_rfl)
    (ChangeSpec.witness_at (enc := enc) (C := Tryz.checked) (os := os) (X := fun w _ => laidMetH Tryz.prog [("farebox/fareboxref03.K", Rows.laid_farebox_fareboxref03_K), ("farebox/fareboxref03.First", Rows.laid_farebox_fareboxref03_First), ("farebox/sha256.first", Rows.laid_farebox_sha256_first), ("farebox/sha256.constants", Rows.laid_farebox_sha256_constants), ("farebox/sha512.table", Rows.laid_farebox_sha512_table), ("farebox/sha512.first", Rows.laid_farebox_sha512_first)] w) false (World.laidAll Tryz.prog os [("farebox/fareboxref03.K", Rows.laid_farebox_fareboxref03_K), ("farebox/fareboxref03.First", Rows.laid_farebox_fareboxref03_First), ("farebox/sha256.first", Rows.laid_farebox_sha256_first), ("farebox/sha256.constants", Rows.laid_farebox_sha256_constants), ("farebox/sha512.table", Rows.laid_farebox_sha512_table), ("farebox/sha512.first", Rows.laid_farebox_sha512_first)]) #[.agg #[.int .i64 0, .int .i64 0, .int .i64 0, .int .i64 0, .int .i64 0, .int .u8 0, .int .u8 0, .int .u8 0, .int .u8 0, .int .u8 0, .int .u8 0, .int .u8 0, .int .u8 0, .int .u8 0, .int .u8 0, .int .u8 0, .int .u8 0, .int .u8 0, .int .u8 0, .int .u8 0, .int .u8 0, .int .u8 0, .int .u8 0, .int .u8 0, .int .u8 0, .int .u8 0, .int .u8 0, .int .u8 0, .int .u8 0, .int .u8 0, .int .u8 0, .int .u8 0, .int .u8 0, .int .u8 0, .int .u8 0, .int .u8 0, .int .u8 0], .int .i64 0] 8 (World.laidAll_os _ _ _) (by kernel_rfl) (by kernel_rfl) (by kernel_rfl) (by kernel_rfl) (by kernel_rfl) (ringKeys_met os))
    (fun W args hL hg => ringKeys_law W args hL hg)
/-- The row. -/
theorem ringKeys_holds : Rows.RingKeysSaid :=
  OpenClaim.holds_of_wide 4 Tryz.f4 rfl rfl rfl rfl rfl rfl rfl ⟨rfl, rfl, rfl, rfl, rfl⟩ rfl rfl rfl rfl rfl (by kernel_rfl) Tryz.func4 (by kernel_rfl)
    (of_decide_eq_true (by kernel_rfl)) (by unfold Func.isWrapper; first | (rw [if_pos (by decide +kernel)]; kernel_rfl) | (rw [if_neg (by decide +kernel)]; exact ⟨rfl, rfl⟩))
    (fun os started H enc _ => ringKeys_lifted os started H enc)
/-- The card. -/
theorem ringKeys_card_holds : Rows.RingKeysCardSaid :=
  Claim7.holds_tied_plain_at .later [] [.data, .data, .data, .data, .data, .data] true (true, "1d8087243e415c7bcaf2b694f10484aae6c10c0460a221fe3f96c1b367ade8be") false
    ringKeys_holds (fun _ h => by cases h) (by kernel_rfl) (fun _ h => by cases h) ringKeys_row_tie rfl ⟨rfl, rfl⟩ (by kernel_rfl) rfl
    (fun f fn hf hfn => by
      obtain rfl : f = 4 := Option.some.inj ((show Tryz.prog.funcNamed "farebox/fareboxlaw11.RingKeys" = some 4 by kernel_rfl).symm.trans hf) |>.symm
      obtain rfl : fn = Tryz.f4 := (Option.some.inj (Tryz.func4.symm.trans hfn)).symm
      exact ⟨by kernel_rfl, fun j t ht => by
        rw [Tryz.params4] at ht
        have hall : ∀ t ∈ #[34, 3], Tryz.prog.wantsStandIn t = false := by decide +kernel
        exact hall t (Array.mem_of_getElem? ht)⟩)
    (by kernel_rfl)
#print axioms ringKeys_card_holds
end Go.Proofs.YtiflckckekjbnaaGreatDoor
