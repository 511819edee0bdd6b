/- Texts of a proof: LawRingWholeEntry. -/
import Derived.Test.YteefpkhngighgaaGreatDoorMB7
import Derived.Test.YteefpkhngighgaaGreatDoorRows
import Derived.Test.YteefpkhngighgaaGreatDoorCards
import Derived.Test.YteefpkhngighgaaGreatDoorTie
/- Proved here: the row and the tied card of RingWholeEntry: for every input the law answers true, does not panic and leaves its arguments. Conditions: the row's own and no others. -/
namespace Go.Proofs.YteefpkhngighgaaGreatDoor
open Go Go.Sx Go.RowKit
set_option linter.all false
set_option maxRecDepth 100000
theorem u8_of_wf3 {x : Int} (h : (Lit.int .u8 x).wf = true) : 0 ≤ x ∧ x < 256 := by
  have := bounds_u8 h
  omega

theorem ringWholeEntry_law (W : World) (args : Array Value) (hL : laidMetH Tryz.prog [("farebox/sha256.first", Rows.laid_farebox_sha256_first), ("farebox/sha256.constants", Rows.laid_farebox_sha256_constants), ("farebox/sha512.table", Rows.laid_farebox_sha512_table), ("farebox/sha512.first", Rows.laid_farebox_sha512_first), ("farebox/scalar.order", Rows.laid_farebox_scalar_order)] W) (hg : Given Tryz.checked Tryz.f4 W args) : LawAt Tryz.prog 4 args W := by
  have h := hg.open 30
  rw [Tryz.params4] at h
  obtain ⟨v0, q0, k0, ⟨b0, w0⟩, f0, h⟩ := h
  obtain ⟨v1, q1, k1, ⟨b1, w1⟩, f1, h⟩ := h
  obtain ⟨v2, q2, k2, ⟨b2, w2⟩, f2, h⟩ := h
  obtain ⟨v3, q3, k3, ⟨b3, w3⟩, f3, h⟩ := h
  obtain ⟨v4, q4, k4, ⟨b4, w4⟩, f4, h⟩ := h
  obtain ⟨v5, q5, k5, ⟨b5, w5⟩, f5, h⟩ := h
  obtain ⟨v6, q6, k6, ⟨b6, w6⟩, f6, h⟩ := h
  have hend : q6 = [] := h
  obtain ⟨u0, w0, y0⟩ : ∃ u : List Value, v0 = .agg u.toArray ∧ Fits W maxLen (.int .i64 (.int .i64 (.int .i64 (.int .i64 (.int .i64 (.ints .u8 32 .nil)))))) u := ⟨_, wide_agg w0 (by kernel_rfl), f0 _ (by kernel_rfl)⟩
  subst w0
  clear f0
  obtain ⟨x0_0, _, rfl, wx0_0, ⟨x0_1, _, rfl, wx0_1, ⟨x0_2, _, rfl, wx0_2, ⟨x0_3, _, rfl, wx0_3, ⟨x0_4, _, rfl, wx0_4, ⟨x0_5, _, lx0_5, wx0_5, rfl, rfl⟩⟩⟩⟩⟩⟩ := y0
  obtain ⟨u1, w1, y1⟩ : ∃ u : List Value, v1 = .agg u.toArray ∧ Fits W maxLen (.int .i64 (.int .i64 (.int .i64 (.ints .u8 32 (.ints .u8 64 .nil))))) u := ⟨_, wide_agg w1 (by kernel_rfl), f1 _ (by kernel_rfl)⟩
  subst w1
  clear f1
  obtain ⟨x1_0, _, rfl, wx1_0, ⟨x1_1, _, rfl, wx1_1, ⟨x1_2, _, rfl, wx1_2, ⟨x1_3, _, lx1_3, wx1_3, rfl, ⟨x1_4, _, lx1_4, wx1_4, rfl, rfl⟩⟩⟩⟩⟩ := y1
  obtain ⟨u2, w2, y2⟩ : ∃ u : List Value, v2 = .agg u.toArray ∧ Fits W maxLen (.ints .u8 32 .nil) u := ⟨_, wide_agg w2 (by kernel_rfl), f2 _ (by kernel_rfl)⟩
  subst w2
  clear f2
  obtain ⟨x2_0, _, lx2_0, wx2_0, rfl, rfl⟩ := y2
  have f3 := f3 (.int .i64 .nil) (by kernel_rfl)
  generalize hu3 : v3.cells.toList = u3 at f3
  obtain ⟨x3_0, _, rfl, wx3_0, rfl⟩ := f3
  obtain rfl := wide_one w3 (by kernel_rfl) hu3
  clear hu3
  have f4 := f4 (.bool .nil) (by kernel_rfl)
  generalize hu4 : v4.cells.toList = u4 at f4
  obtain ⟨x4_0, _, rfl, rfl⟩ := f4
  obtain rfl := wide_one w4 (by kernel_rfl) hu4
  clear hu4
  have f5 := f5 (.bool .nil) (by kernel_rfl)
  generalize hu5 : v5.cells.toList = u5 at f5
  obtain ⟨x5_0, _, rfl, rfl⟩ := f5
  obtain rfl := wide_one w5 (by kernel_rfl) hu5
  clear hu5
  obtain ⟨u6, w6, y6⟩ : ∃ u : List Value, v6 = .agg u.toArray ∧ Fits W maxLen (.ints .u8 32 .nil) u := ⟨_, wide_agg w6 (by kernel_rfl), f6 _ (by kernel_rfl)⟩
  subst w6
  clear f6
  obtain ⟨x6_0, _, lx6_0, wx6_0, rfl, rfl⟩ := y6
  subst hend
  subst k6
  subst k5
  subst k4
  subst k3
  subst k2
  subst k1
  obtain rfl : args = #[.agg ((Value.int .i64 x0_0) :: ((Value.int .i64 x0_1) :: ((Value.int .i64 x0_2) :: ((Value.int .i64 x0_3) :: ((Value.int .i64 x0_4) :: (intsCells .u8 32 x0_5 ++ [])))))).toArray, .agg ((Value.int .i64 x1_0) :: ((Value.int .i64 x1_1) :: ((Value.int .i64 x1_2) :: (intsCells .u8 32 x1_3 ++ (intsCells .u8 64 x1_4 ++ []))))).toArray, .agg (intsCells .u8 32 x2_0 ++ []).toArray, .int .i64 x3_0, .bool x4_0, .bool x5_0, .agg (intsCells .u8 32 x6_0 ++ []).toArray] := by cases args; simpa using k0
  clear k0
  have hG : Globs W := by
    rw [Go.MakeChecks.laidMetH_plain Tryz.prog _ _ (by kernel_rfl)] at hL
    have hg0 := laid_ints (xs := G_first256) (k := .u32) (e := 180) (name := "farebox/sha256.first") hL (List.Mem.head _) (g := 0) (by kernel_rfl) (by kernel_rfl : _ = some 181) (m := 8) (by kernel_rfl) (by kernel_rfl) (by kernel_rfl) (by kernel_rfl) (by decide)
    have hg1 := laid_ints (xs := G_table256) (k := .u32) (e := 180) (name := "farebox/sha256.constants") hL (List.Mem.tail _ (List.Mem.head _)) (g := 1) (by kernel_rfl) (by kernel_rfl : _ = some 307) (m := 64) (by kernel_rfl) (by kernel_rfl) (by kernel_rfl) (by kernel_rfl) (by decide)
    have hg2 := laid_ints (xs := G_first) (k := .u64) (e := 122) (name := "farebox/sha512.first") hL (List.Mem.tail _ (List.Mem.tail _ (List.Mem.tail _ (List.Mem.head _)))) (g := 2) (by kernel_rfl) (by kernel_rfl : _ = some 379) (m := 8) (by kernel_rfl) (by kernel_rfl) (by kernel_rfl) (by kernel_rfl) (by decide)
    have hg3 := laid_ints (xs := G_order) (k := .u64) (e := 122) (name := "farebox/scalar.order") hL (List.Mem.tail _ (List.Mem.tail _ (List.Mem.tail _ (List.Mem.tail _ (List.Mem.head _))))) (g := 3) (by kernel_rfl) (by kernel_rfl : _ = some 393) (m := 4) (by kernel_rfl) (by kernel_rfl) (by kernel_rfl) (by kernel_rfl) (by decide)
    have hg4 := laid_ints (xs := G_table) (k := .u64) (e := 122) (name := "farebox/sha512.table") hL (List.Mem.tail _ (List.Mem.tail _ (List.Mem.head _))) (g := 4) (by kernel_rfl) (by kernel_rfl : _ = some 410) (m := 80) (by kernel_rfl) (by kernel_rfl) (by kernel_rfl) (by kernel_rfl) (by decide)
    exact ⟨hg0, hg1, hg2, hg3, hg4⟩
  have b2 : Byt x2_0 := byt_of fun x hx => u8_of_wf3 (wx2_0 x hx)
  have h := fareboxlaw11_RingWholeEntry_spec (p0 := ⟨x0_0, x0_1, x0_2, x0_3, x0_4, x0_5⟩) (p1 := ⟨x1_0, x1_1, x1_2, x1_3, x1_4⟩) (p2 := x2_0) (p3 := x3_0) (p4 := x4_0) (p5 := x5_0) (p6 := x6_0) (ringWhole_eq lx0_5 b2 lx2_0) hG
  exact h.mono fun e w' hh => hh
theorem ringWholeEntry_own : ownKnob Tryz.prog.godebug = none := by kernel_rfl
def ringWholeEntry_z : Array Value := #[.agg #[.int .i64 0, .int .i64 0, .int .i64 0, .int .i64 0, .int .i64 0, .int .u8 0, .int .u8 0, .int .u8 0, .int .u8 0, .int .u8 0, .int .u8 0, .int .u8 0, .int .u8 0, .int .u8 0, .int .u8 0, .int .u8 0, .int .u8 0, .int .u8 0, .int .u8 0, .int .u8 0, .int .u8 0, .int .u8 0, .int .u8 0, .int .u8 0, .int .u8 0, .int .u8 0, .int .u8 0, .int .u8 0, .int .u8 0, .int .u8 0, .int .u8 0, .int .u8 0, .int .u8 0, .int .u8 0, .int .u8 0, .int .u8 0, .int .u8 0], .agg #[.int .i64 0, .int .i64 0, .int .i64 0, .int .u8 0, .int .u8 0, .int .u8 0, .int .u8 0, .int .u8 0, .int .u8 0, .int .u8 0, .int .u8 0, .int .u8 0, .int .u8 0, .int .u8 0, .int .u8 0, .int .u8 0, .int .u8 0, .int .u8 0, .int .u8 0, .int .u8 0, .int .u8 0, .int .u8 0, .int .u8 0, .int .u8 0, .int .u8 0, .int .u8 0, .int .u8 0, .int .u8 0, .int .u8 0, .int .u8 0, .int .u8 0, .int .u8 0, .int .u8 0, .int .u8 0, .int .u8 0, .int .u8 0, .int .u8 0, .int .u8 0, .int .u8 0, .int .u8 0, .int .u8 0, .int .u8 0, .int .u8 0, .int .u8 0, .int .u8 0, .int .u8 0, .int .u8 0, .int .u8 0, .int .u8 0, .int .u8 0, .int .u8 0, .int .u8 0, .int .u8 0, .int .u8 0, .int .u8 0, .int .u8 0, .int .u8 0, .int .u8 0, .int .u8 0, .int .u8 0, .int .u8 0, .int .u8 0, .int .u8 0, .int .u8 0, .int .u8 0, .int .u8 0, .int .u8 0, .int .u8 0, .int .u8 0, .int .u8 0, .int .u8 0, .int .u8 0, .int .u8 0, .int .u8 0, .int .u8 0, .int .u8 0, .int .u8 0, .int .u8 0, .int .u8 0, .int .u8 0, .int .u8 0, .int .u8 0, .int .u8 0, .int .u8 0, .int .u8 0, .int .u8 0, .int .u8 0, .int .u8 0, .int .u8 0, .int .u8 0, .int .u8 0, .int .u8 0, .int .u8 0, .int .u8 0, .int .u8 0, .int .u8 0, .int .u8 0, .int .u8 0, .int .u8 0], .agg #[.int .u8 0, .int .u8 0, .int .u8 0, .int .u8 0, .int .u8 0, .int .u8 0, .int .u8 0, .int .u8 0, .int .u8 0, .int .u8 0, .int .u8 0, .int .u8 0, .int .u8 0, .int .u8 0, .int .u8 0, .int .u8 0, .int .u8 0, .int .u8 0, .int .u8 0, .int .u8 0, .int .u8 0, .int .u8 0, .int .u8 0, .int .u8 0, .int .u8 0, .int .u8 0, .int .u8 0, .int .u8 0, .int .u8 0, .int .u8 0, .int .u8 0, .int .u8 0], .int .i64 0, .bool false, .bool false, .agg #[.int .u8 0, .int .u8 0, .int .u8 0, .int .u8 0, .int .u8 0, .int .u8 0, .int .u8 0, .int .u8 0, .int .u8 0, .int .u8 0, .int .u8 0, .int .u8 0, .int .u8 0, .int .u8 0, .int .u8 0, .int .u8 0, .int .u8 0, .int .u8 0, .int .u8 0, .int .u8 0, .int .u8 0, .int .u8 0, .int .u8 0, .int .u8 0, .int .u8 0, .int .u8 0, .int .u8 0, .int .u8 0, .int .u8 0, .int .u8 0, .int .u8 0, .int .u8 0]]
theorem ringWholeEntry_met (os : Os) : laidMetH Tryz.prog [("farebox/sha256.first", Rows.laid_farebox_sha256_first), ("farebox/sha256.constants", Rows.laid_farebox_sha256_constants), ("farebox/sha512.table", Rows.laid_farebox_sha512_table), ("farebox/sha512.first", Rows.laid_farebox_sha512_first), ("farebox/scalar.order", Rows.laid_farebox_scalar_order)] ((World.laidAll Tryz.prog os [("farebox/sha256.first", Rows.laid_farebox_sha256_first), ("farebox/sha256.constants", Rows.laid_farebox_sha256_constants), ("farebox/sha512.table", Rows.laid_farebox_sha512_table), ("farebox/sha512.first", Rows.laid_farebox_sha512_first), ("farebox/scalar.order", Rows.laid_farebox_scalar_order)]).forCall (fun _ _ => 0) ⟨#[], ringWholeEntry_z, []⟩).memory := by
  rw [Go.MakeChecks.laidMetH_plain Tryz.prog _ _ (by kernel_rfl)]
  exact laidMet_laidAll _ (by kernel_rfl) (by kernel_rfl)
theorem ringWholeEntry_lifted (os : Os) (started : os.Started) (H : Type) (enc : TypeId × Value → H) :
    ReturnsInHanded {} Tryz.checked os 4 .any (fun w args => (Rows.ringWholeEntrySpec.pre enc Tryz.prog Tryz.f4 Rows.ringWholeEntryRow.domain false w args ∧ laidMetH Tryz.prog [("farebox/sha256.first", Rows.laid_farebox_sha256_first), ("farebox/sha256.constants", Rows.laid_farebox_sha256_constants), ("farebox/sha512.table", Rows.laid_farebox_sha512_table), ("farebox/sha512.first", Rows.laid_farebox_sha512_first), ("farebox/scalar.order", Rows.laid_farebox_scalar_order)] w) ∧ sizedMet enc Tryz.prog Tryz.f4 (OpenSpec.ofChange Rows.ringWholeEntrySpec) false w args) (Rows.ringWholeEntrySpec.post enc Tryz.prog Tryz.f4 false true false false) :=
  law_laid (C := Tryz.checked) ringWholeEntry_own started (by kernel_rfl) Tryz.func4 rfl
    (fun ds h => by
      rw [Tryz.params4] at h
      match ds, h with
      | [d0, d1, d2, d3, d4, d5, d6], _ => rfl)
    (by kernel_rfl : Tryz.f4.resultTypes = #[4]) (by kernel_rfl) (laid_of ringWholeEntry_fA) (by kernel_rfl)
    (witness_L (enc := enc) (C := Tryz.checked) (os := os) (X := fun w _ => laidMetH Tryz.prog [("farebox/sha256.first", Rows.laid_farebox_sha256_first), ("farebox/sha256.constants", Rows.laid_farebox_sha256_constants), ("farebox/sha512.table", Rows.laid_farebox_sha512_table), ("farebox/sha512.first", Rows.laid_farebox_sha512_first), ("farebox/scalar.order", Rows.laid_farebox_scalar_order)] w) (World.laidAll Tryz.prog os [("farebox/sha256.first", Rows.laid_farebox_sha256_first), ("farebox/sha256.constants", Rows.laid_farebox_sha256_constants), ("farebox/sha512.table", Rows.laid_farebox_sha512_table), ("farebox/sha512.first", Rows.laid_farebox_sha512_first), ("farebox/scalar.order", Rows.laid_farebox_scalar_order)]) ringWholeEntry_z 8 (World.laidAll_os _ _ _) (by kernel_rfl) (by kernel_rfl) (by kernel_rfl) Tryz.func4 (by kernel_rfl) (by kernel_rfl) (by kernel_rfl) (by kernel_rfl) (by kernel_rfl) (by kernel_rfl) (ringWholeEntry_met os))
    (fun W args hL hg => ringWholeEntry_law W args hL hg)
/-- The row. -/
theorem ringWholeEntry_holds : Rows.RingWholeEntrySaid :=
  OpenClaim.holds_of_wide 4 Tryz.f4 rfl rfl rfl rfl rfl rfl rfl ⟨rfl, rfl, rfl, rfl, rfl⟩ rfl rfl rfl rfl rfl (by kernel_rfl) Tryz.func4 (facts_of ringWholeEntry_fA ringWholeEntry_fB ringWholeEntry_fC ringWholeEntry_fD ringWholeEntry_fE ringWholeEntry_fF ringWholeEntry_fG ringWholeEntry_fH ringWholeEntry_fI ringWholeEntry_fK)
    (of_decide_eq_true (by kernel_rfl)) (by unfold Func.isWrapper; first | (rw [if_pos (by decide +kernel)]; kernel_rfl) | (rw [if_neg (by decide +kernel)]; exact ⟨rfl, rfl⟩))
    (fun os started H enc _ => ringWholeEntry_lifted os started H enc)
/-- The card. -/
theorem ringWholeEntry_card_holds : Rows.RingWholeEntryCardSaid :=
  Claim7.holds_tied_plain_at .later [] [.data, .data, .data, .data, .data] true (true, "72fcdaff54551f40e37fc9db11e1418f2c165615c42987a84f4beac35437e08f") true
    ringWholeEntry_holds (fun _ h => by cases h) (by kernel_rfl) (fun _ h => by cases h) ringWholeEntry_row_tie rfl ⟨rfl, rfl⟩ (by kernel_rfl) rfl
    (fun f fn hf hfn => by
      obtain rfl : f = 4 := Option.some.inj ((show Tryz.prog.funcNamed "farebox/fareboxlaw11.RingWholeEntry" = some 4 by kernel_rfl).symm.trans hf) |>.symm
      obtain rfl : fn = Tryz.f4 := (Option.some.inj (Tryz.func4.symm.trans hfn)).symm
      exact ⟨by kernel_rfl, fun j t ht => by
        rw [Tryz.params4] at ht
        have hall : ∀ t ∈ #[25, 29, 23, 3, 4, 4, 23], Tryz.prog.wantsStandIn t = false := by decide +kernel
        exact hall t (Array.mem_of_getElem? ht)⟩)
    (by kernel_rfl)
#print axioms ringWholeEntry_card_holds
end Go.Proofs.YteefpkhngighgaaGreatDoor
