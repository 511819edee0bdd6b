/- Texts of a proof: LawVerifies. -/
import Derived.Test.YtiflckckekjbnaaGreatDoorMV8
import Derived.Test.YtiflckckekjbnaaGreatDoorRows
import Derived.Test.YtiflckckekjbnaaGreatDoorCards
import Derived.Test.YtiflckckekjbnaaGreatDoorTie
/- The row and the card of SignVerifies. -/
namespace Go.Proofs.YtiflckckekjbnaaGreatDoor
open Go Go.Sx Go.RowKit
set_option linter.all false
set_option maxRecDepth 100000
theorem u8_of_wf3 {x : Int} (h : (Lit.int .u8 x).wf = true) : 0 ≤ x ∧ x < 256 := by
  have := bounds_u8 h
  omega
theorem msg_byt {W : World} {a : Option Addr} {len cap : Nat} {xs : List Int} (h : SlI W .u8 a cap xs) : Byt (xs.take len) := Byt_take (byt_of fun x hx => u8_of_wf3 (h.wf x hx)) len

theorem signVerifies_law (W : World) (args : Array Value) (hL : laidMetH Tryz.prog [("farebox/fareboxref03.K", Rows.laid_farebox_fareboxref03_K), ("farebox/fareboxref03.First", Rows.laid_farebox_fareboxref03_First), ("farebox/sha512.table", Rows.laid_farebox_sha512_table), ("farebox/sha512.first", Rows.laid_farebox_sha512_first), ("farebox/scalar.order", Rows.laid_farebox_scalar_order)] W) (hg : Given Tryz.checked Tryz.f5 W args) : LawAt Tryz.prog 5 args W := by
  have h := hg.open 30
  rw [Tryz.params5] at h
  obtain ⟨v0, q0, k0, ⟨b0, w0⟩, f0, h⟩ := h
  obtain ⟨v1, q1, k1, ⟨b1, w1⟩, f1, h⟩ := h
  obtain ⟨v2, q2, k2, ⟨b2, w2⟩, f2, h⟩ := h
  have hend : q2 = [] := h
  obtain ⟨u0, w0, y0⟩ : ∃ u : List Value, v0 = .agg u.toArray ∧ Fits W maxLen (.ints .u8 32 .nil) u := ⟨_, wide_agg w0 (by kernel_rfl), f0 _ (by kernel_rfl)⟩
  subst w0
  clear f0
  obtain ⟨x0_0, _, lx0_0, wx0_0, rfl, rfl⟩ := y0
  have f1 := f1 (.sli .u8 .nil) (by kernel_rfl)
  generalize hu1 : v1.cells.toList = u1 at f1
  obtain ⟨x1_0, lx1_0, cx1_0, gx1_0, _, rfl, qx1_0, bx1_0, sx1_0, rfl⟩ := f1
  obtain rfl := wide_one w1 (by kernel_rfl) hu1
  clear hu1
  obtain ⟨u2, w2, y2⟩ : ∃ u : List Value, v2 = .agg u.toArray ∧ Fits W maxLen (.ints .u8 64 .nil) u := ⟨_, wide_agg w2 (by kernel_rfl), f2 _ (by kernel_rfl)⟩
  subst w2
  clear f2
  obtain ⟨x2_0, _, lx2_0, wx2_0, rfl, rfl⟩ := y2
  subst hend
  subst k2
  subst k1
  obtain rfl : args = #[.agg (intsCells .u8 32 x0_0 ++ []).toArray, .slice x1_0 lx1_0 cx1_0, .agg (intsCells .u8 64 x2_0 ++ []).toArray] := by cases args; simpa using k0
  clear k0
  have hG : Globs W := by
    rw [Go.MakeChecks.laidMetH_plain Tryz.prog _ _ (by kernel_rfl)] at hL
    have hg0 := laid_ints (xs := G_rfirst) (k := .u64) (e := 78) (name := "farebox/fareboxref03.First") hL (List.Mem.tail _ (List.Mem.head _)) (g := 0) (by kernel_rfl) (by kernel_rfl : _ = some 144) (m := 8) (by kernel_rfl) (by kernel_rfl) (by kernel_rfl) (by kernel_rfl) (by decide)
    have hg1 := laid_ints (xs := G_order) (k := .u64) (e := 78) (name := "farebox/scalar.order") hL (List.Mem.tail _ (List.Mem.tail _ (List.Mem.tail _ (List.Mem.tail _ (List.Mem.head _))))) (g := 1) (by kernel_rfl) (by kernel_rfl : _ = some 162) (m := 4) (by kernel_rfl) (by kernel_rfl) (by kernel_rfl) (by kernel_rfl) (by decide)
    have hg2 := laid_ints (xs := G_first) (k := .u64) (e := 78) (name := "farebox/sha512.first") hL (List.Mem.tail _ (List.Mem.tail _ (List.Mem.tail _ (List.Mem.head _)))) (g := 2) (by kernel_rfl) (by kernel_rfl : _ = some 144) (m := 8) (by kernel_rfl) (by kernel_rfl) (by kernel_rfl) (by kernel_rfl) (by decide)
    have hg3 := laid_ints (xs := G_rtable) (k := .u64) (e := 78) (name := "farebox/fareboxref03.K") hL (List.Mem.head _) (g := 3) (by kernel_rfl) (by kernel_rfl : _ = some 211) (m := 80) (by kernel_rfl) (by kernel_rfl) (by kernel_rfl) (by kernel_rfl) (by decide)
    have hg4 := laid_ints (xs := G_table) (k := .u64) (e := 78) (name := "farebox/sha512.table") hL (List.Mem.tail _ (List.Mem.tail _ (List.Mem.head _))) (g := 4) (by kernel_rfl) (by kernel_rfl : _ = some 211) (m := 80) (by kernel_rfl) (by kernel_rfl) (by kernel_rfl) (by kernel_rfl) (by decide)
    exact ⟨hg0, hg1, hg2, hg3, hg4⟩
  have hb : (gx1_0.take lx1_0).length + 209 ≤ 140737488355328 := by
    have h0 : (gx1_0.take lx1_0).length ≤ lx1_0 := by rw [List.length_take]; omega
    rcases sx1_0.at_ with h1 | ⟨b, off, h1, _⟩
    · omega
    · subst h1
      have h1 := hg.slice_bytes2 (t0 := 29) (t := 24) (ts := [27]) (e := 5) (by rw [Tryz.params5]) (by kernel_rfl) rfl
      have h2 : Tryz.checked.prog.bytesOf 5 = 1 := by kernel_rfl
      have h3 : reachBytes = 140737488351232 := rfl
      rw [h2] at h1
      omega
  have b0 : Byt x0_0 := byt_of fun x hx => u8_of_wf3 (wx0_0 x hx)
  have b2 : Byt x2_0 := byt_of fun x hx => u8_of_wf3 (wx2_0 x hx)
  have h := fareboxlaw08_SignVerifies_spec (p0 := x0_0) (p2 := x2_0) (signVerifies_eq b0 lx0_0 (msg_byt (len := lx1_0) sx1_0) hb b2) hG (rd_of_SlI sx1_0 qx1_0)
  exact h.mono fun e w' hh => hh
theorem signVerifies_own : ownKnob Tryz.prog.godebug = none := by kernel_rfl
theorem signVerifies_met (os : Os) : laidMetH Tryz.prog [("farebox/fareboxref03.K", Rows.laid_farebox_fareboxref03_K), ("farebox/fareboxref03.First", Rows.laid_farebox_fareboxref03_First), ("farebox/sha512.table", Rows.laid_farebox_sha512_table), ("farebox/sha512.first", Rows.laid_farebox_sha512_first), ("farebox/scalar.order", Rows.laid_farebox_scalar_order)] ((World.laidAll Tryz.prog os [("farebox/fareboxref03.K", Rows.laid_farebox_fareboxref03_K), ("farebox/fareboxref03.First", Rows.laid_farebox_fareboxref03_First), ("farebox/sha512.table", Rows.laid_farebox_sha512_table), ("farebox/sha512.first", Rows.laid_farebox_sha512_first), ("farebox/scalar.order", Rows.laid_farebox_scalar_order)]).forCall (fun _ _ => 0) ⟨#[], #[.agg #[.int .u8 0, .int .u8 0, .int .u8 0, .int .u8 0, .int .u8 0, .int .u8 0, .int .u8 0, .int .u8 0, .int .u8 0, .int .u8 0, .int .u8 0, .int .u8 0, .int .u8 0, .int .u8 0, .int .u8 0, .int .u8 0, .int .u8 0, .int .u8 0, .int .u8 0, .int .u8 0, .int .u8 0, .int .u8 0, .int .u8 0, .int .u8 0, .int .u8 0, .int .u8 0, .int .u8 0, .int .u8 0, .int .u8 0, .int .u8 0, .int .u8 0, .int .u8 0], .slice none 0 0, .agg #[.int .u8 0, .int .u8 0, .int .u8 0, .int .u8 0, .int .u8 0, .int .u8 0, .int .u8 0, .int .u8 0, .int .u8 0, .int .u8 0, .int .u8 0, .int .u8 0, .int .u8 0, .int .u8 0, .int .u8 0, .int .u8 0, .int .u8 0, .int .u8 0, .int .u8 0, .int .u8 0, .int .u8 0, .int .u8 0, .int .u8 0, .int .u8 0, .int .u8 0, .int .u8 0, .int .u8 0, .int .u8 0, .int .u8 0, .int .u8 0, .int .u8 0, .int .u8 0, .int .u8 0, .int .u8 0, .int .u8 0, .int .u8 0, .int .u8 0, .int .u8 0, .int .u8 0, .int .u8 0, .int .u8 0, .int .u8 0, .int .u8 0, .int .u8 0, .int .u8 0, .int .u8 0, .int .u8 0, .int .u8 0, .int .u8 0, .int .u8 0, .int .u8 0, .int .u8 0, .int .u8 0, .int .u8 0, .int .u8 0, .int .u8 0, .int .u8 0, .int .u8 0, .int .u8 0, .int .u8 0, .int .u8 0, .int .u8 0, .int .u8 0, .int .u8 0]], []⟩).memory := by
  rw [Go.MakeChecks.laidMetH_plain Tryz.prog _ _ (by kernel_rfl)]
  exact laidMet_laidAll _ (by kernel_rfl) (by kernel_rfl)
theorem signVerifies_lifted (os : Os) (started : os.Started) (H : Type) (enc : TypeId × Value → H) :
    ReturnsInHanded {} Tryz.checked os 5 .any (fun w args => (Rows.signVerifiesSpec.pre enc Tryz.prog Tryz.f5 Rows.signVerifiesRow.domain false w args ∧ laidMetH Tryz.prog [("farebox/fareboxref03.K", Rows.laid_farebox_fareboxref03_K), ("farebox/fareboxref03.First", Rows.laid_farebox_fareboxref03_First), ("farebox/sha512.table", Rows.laid_farebox_sha512_table), ("farebox/sha512.first", Rows.laid_farebox_sha512_first), ("farebox/scalar.order", Rows.laid_farebox_scalar_order)] w) ∧ sizedMet enc Tryz.prog Tryz.f5 (OpenSpec.ofChange Rows.signVerifiesSpec) false w args) (Rows.signVerifiesSpec.post enc Tryz.prog Tryz.f5 false true false false) :=
  law_laid (C := Tryz.checked) signVerifies_own started (by kernel_rfl) Tryz.func5 rfl
    (fun ds h => by
      rw [Tryz.params5] at h
      match ds, h with
      | [d0, d1, d2], _ => rfl)
    (by kernel_rfl : Tryz.f5.resultTypes = #[4]) (by kernel_rfl) (by kernel_rfl) (by kernel_rfl)
    (ChangeSpec.witness_at (enc := enc) (C := Tryz.checked) (os := os) (X := fun w _ => laidMetH Tryz.prog [("farebox/fareboxref03.K", Rows.laid_farebox_fareboxref03_K), ("farebox/fareboxref03.First", Rows.laid_farebox_fareboxref03_First), ("farebox/sha512.table", Rows.laid_farebox_sha512_table), ("farebox/sha512.first", Rows.laid_farebox_sha512_first), ("farebox/scalar.order", Rows.laid_farebox_scalar_order)] w) false (World.laidAll Tryz.prog os [("farebox/fareboxref03.K", Rows.laid_farebox_fareboxref03_K), ("farebox/fareboxref03.First", Rows.laid_farebox_fareboxref03_First), ("farebox/sha512.table", Rows.laid_farebox_sha512_table), ("farebox/sha512.first", Rows.laid_farebox_sha512_first), ("farebox/scalar.order", Rows.laid_farebox_scalar_order)]) #[.agg #[.int .u8 0, .int .u8 0, .int .u8 0, .int .u8 0, .int .u8 0, .int .u8 0, .int .u8 0, .int .u8 0, .int .u8 0, .int .u8 0, .int .u8 0, .int .u8 0, .int .u8 0, .int .u8 0, .int .u8 0, .int .u8 0, .int .u8 0, .int .u8 0, .int .u8 0, .int .u8 0, .int .u8 0, .int .u8 0, .int .u8 0, .int .u8 0, .int .u8 0, .int .u8 0, .int .u8 0, .int .u8 0, .int .u8 0, .int .u8 0, .int .u8 0, .int .u8 0], .slice none 0 0, .agg #[.int .u8 0, .int .u8 0, .int .u8 0, .int .u8 0, .int .u8 0, .int .u8 0, .int .u8 0, .int .u8 0, .int .u8 0, .int .u8 0, .int .u8 0, .int .u8 0, .int .u8 0, .int .u8 0, .int .u8 0, .int .u8 0, .int .u8 0, .int .u8 0, .int .u8 0, .int .u8 0, .int .u8 0, .int .u8 0, .int .u8 0, .int .u8 0, .int .u8 0, .int .u8 0, .int .u8 0, .int .u8 0, .int .u8 0, .int .u8 0, .int .u8 0, .int .u8 0, .int .u8 0, .int .u8 0, .int .u8 0, .int .u8 0, .int .u8 0, .int .u8 0, .int .u8 0, .int .u8 0, .int .u8 0, .int .u8 0, .int .u8 0, .int .u8 0, .int .u8 0, .int .u8 0, .int .u8 0, .int .u8 0, .int .u8 0, .int .u8 0, .int .u8 0, .int .u8 0, .int .u8 0, .int .u8 0, .int .u8 0, .int .u8 0, .int .u8 0, .int .u8 0, .int .u8 0, .int .u8 0, .int .u8 0, .int .u8 0, .int .u8 0, .int .u8 0]] 8 (World.laidAll_os _ _ _) (by kernel_rfl) (by kernel_rfl) (by kernel_rfl) (by kernel_rfl) (by kernel_rfl) (signVerifies_met os))
    (fun W args hL hg => signVerifies_law W args hL hg)
/-- The row. -/
theorem signVerifies_holds : Rows.SignVerifiesSaid :=
  OpenClaim.holds_of_wide 5 Tryz.f5 rfl rfl rfl rfl rfl rfl rfl ⟨rfl, rfl, rfl, rfl, rfl⟩ rfl rfl rfl rfl rfl (by kernel_rfl) Tryz.func5 (by kernel_rfl)
    (of_decide_eq_true (by kernel_rfl)) (by unfold Func.isWrapper; first | (rw [if_pos (by decide +kernel)]; kernel_rfl) | (rw [if_neg (by decide +kernel)]; exact ⟨rfl, rfl⟩))
    (fun os started H enc _ => signVerifies_lifted os started H enc)
/-- The card. -/
theorem signVerifies_card_holds : Rows.SignVerifiesCardSaid :=
  Claim7.holds_tied_plain_at .later [] [.data, .data, .data, .data, .data] true (true, "1d8087243e415c7bcaf2b694f10484aae6c10c0460a221fe3f96c1b367ade8be") false
    signVerifies_holds (fun _ h => by cases h) (by kernel_rfl) (fun _ h => by cases h) signVerifies_row_tie rfl ⟨rfl, rfl⟩ (by kernel_rfl) rfl
    (fun f fn hf hfn => by
      obtain rfl : f = 5 := Option.some.inj ((show Tryz.prog.funcNamed "farebox/fareboxlaw08.SignVerifies" = some 5 by kernel_rfl).symm.trans hf) |>.symm
      obtain rfl : fn = Tryz.f5 := (Option.some.inj (Tryz.func5.symm.trans hfn)).symm
      exact ⟨by kernel_rfl, fun j t ht => by
        rw [Tryz.params5] at ht
        have hall : ∀ t ∈ #[29, 24, 27], Tryz.prog.wantsStandIn t = false := by decide +kernel
        exact hall t (Array.mem_of_getElem? ht)⟩)
    (by kernel_rfl)
#print axioms signVerifies_card_holds
end Go.Proofs.YtiflckckekjbnaaGreatDoor
