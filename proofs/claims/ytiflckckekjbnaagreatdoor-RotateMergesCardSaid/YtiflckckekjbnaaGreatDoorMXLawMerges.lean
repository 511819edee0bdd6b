/- Texts of a proof: LawMerges. -/
import Derived.Test.YtiflckckekjbnaaGreatDoorMX7
import Derived.Test.YtiflckckekjbnaaGreatDoorRows
import Derived.Test.YtiflckckekjbnaaGreatDoorCards
import Derived.Test.YtiflckckekjbnaaGreatDoorTie
/- The row and the card of RotateMerges. -/
namespace Go.Proofs.YtiflckckekjbnaaGreatDoor
open Go Go.Sx Go.RowKit
set_option linter.all false
set_option maxRecDepth 100000
theorem u8_of_wf3 {x : Int} (h : (Lit.int .u8 x).wf = true) : 0 ≤ x ∧ x < 256 := by
  have := bounds_u8 h
  omega
theorem links_of {W : World} {n : Nat} {g : Nat → List Value} (h : ∀ i, i < n → Fits W maxLen (.int .i64 (.ints .u8 32 (.ints .u8 64 .nil))) (g i)) :
    ∃ f : Nat → api_Link, ∀ i, i < n → g i = E_api_Link.cell (f i) ∧ LkOk (f i) := by
  have key : ∀ i, ∃ c : api_Link, i < n → g i = E_api_Link.cell c ∧ LkOk c := by
    intro i
    by_cases hi : i < n
    · obtain ⟨x, _, e0, wx, key, _, lk, wk, e1, sig, _, ls, ws, e2, e3⟩ := h i hi
      subst e3; subst e2; subst e1
      exact ⟨⟨x, key, sig⟩, fun _ => ⟨e0, ⟨byt_of fun x hx => u8_of_wf3 (wk x hx), lk⟩, byt_of fun x hx => u8_of_wf3 (ws x hx), ls⟩⟩
    · exact ⟨api_Link_z, fun h => absurd h hi⟩
  exact ⟨fun i => (key i).choose, fun i hi => (key i).choose_spec hi⟩
theorem links_arg {W : World} {a : Option Addr} {len cap : Nat} {g : Nat → List Value} (hS : SlR W 97 a cap g) (hl : len ≤ cap) (hF : ∀ i, i < cap → Fits W maxLen (.int .i64 (.ints .u8 32 (.ints .u8 64 .nil))) (g i)) :
    ∃ p : List api_Link, p.length = len ∧ RdSl E_api_Link W (.slice a len cap) p ∧ LksOk p := by
  obtain ⟨f, hf⟩ := links_of hF
  have e1 : ∀ i, i < len → ((List.range len).map f).getD i api_Link_z = f i := fun i hi => by simp [List.getD_eq_getElem?_getD, hi]
  refine ⟨(List.range len).map f, by simp, ?_, ?_⟩
  · refine rd_of_SlR (E := E_api_Link) hS hl (by simp) fun i hi => ?_
    rw [e1 i hi]
    exact (hf i (by omega)).1
  · intro l hm
    obtain ⟨i, hi, rfl⟩ := List.mem_map.1 hm
    have hi : i < len := by simpa using hi
    exact (hf i (by omega)).2

theorem rotateMerges_law (W : World) (args : Array Value) (hL : laidMetH Tryz.prog [("farebox/fareboxref03.K", Rows.laid_farebox_fareboxref03_K), ("farebox/fareboxref03.First", Rows.laid_farebox_fareboxref03_First), ("farebox/sha512.table", Rows.laid_farebox_sha512_table), ("farebox/sha512.first", Rows.laid_farebox_sha512_first), ("farebox/scalar.order", Rows.laid_farebox_scalar_order)] W) (hg : Given Tryz.checked Tryz.f8 W args) : LawAt Tryz.prog 8 args W := by
  have h := hg.open 30
  rw [Tryz.params8] at h
  obtain ⟨v0, q0, k0, ⟨b0, w0⟩, f0, h⟩ := h
  obtain ⟨v1, q1, k1, ⟨b1, w1⟩, f1, h⟩ := h
  obtain ⟨v2, q2, k2, ⟨b2, w2⟩, f2, h⟩ := h
  have hend : q2 = [] := h
  obtain ⟨u0, w0, y0⟩ : ∃ u : List Value, v0 = .agg u.toArray ∧ Fits W maxLen (.ints .u8 32 .nil) u := ⟨_, wide_agg w0 (by kernel_rfl), f0 _ (by kernel_rfl)⟩
  subst w0
  clear f0
  obtain ⟨x0_0, _, lx0_0, wx0_0, rfl, rfl⟩ := y0
  have f1 := f1 (.sl 97 (.int .i64 (.ints .u8 32 (.ints .u8 64 .nil))) .nil) (by kernel_rfl)
  generalize hu1 : v1.cells.toList = u1 at f1
  obtain ⟨x1_0, lx1_0, cx1_0, gx1_0, _, rfl, qx1_0, bx1_0, sx1_0, ex1_0, rfl⟩ := f1
  obtain rfl := wide_one w1 (by kernel_rfl) hu1
  clear hu1
  have f2 := f2 (.sl 97 (.int .i64 (.ints .u8 32 (.ints .u8 64 .nil))) .nil) (by kernel_rfl)
  generalize hu2 : v2.cells.toList = u2 at f2
  obtain ⟨x2_0, lx2_0, cx2_0, gx2_0, _, rfl, qx2_0, bx2_0, sx2_0, ex2_0, rfl⟩ := f2
  obtain rfl := wide_one w2 (by kernel_rfl) hu2
  clear hu2
  subst hend
  subst k2
  subst k1
  obtain rfl : args = #[.agg (intsCells .u8 32 x0_0 ++ []).toArray, .slice x1_0 lx1_0 cx1_0, .slice x2_0 lx2_0 cx2_0] := by cases args; simpa using k0
  clear k0
  have hG : Globs W := by
    rw [Go.MakeChecks.laidMetH_plain Tryz.prog _ _ (by kernel_rfl)] at hL
    have hg0 := laid_ints (xs := G_rfirst) (k := .u64) (e := 78) (name := "farebox/fareboxref03.First") hL (List.Mem.tail _ (List.Mem.head _)) (g := 0) (by kernel_rfl) (by kernel_rfl : _ = some 144) (m := 8) (by kernel_rfl) (by kernel_rfl) (by kernel_rfl) (by kernel_rfl) (by decide)
    have hg1 := laid_ints (xs := G_order) (k := .u64) (e := 78) (name := "farebox/scalar.order") hL (List.Mem.tail _ (List.Mem.tail _ (List.Mem.tail _ (List.Mem.tail _ (List.Mem.head _))))) (g := 1) (by kernel_rfl) (by kernel_rfl : _ = some 162) (m := 4) (by kernel_rfl) (by kernel_rfl) (by kernel_rfl) (by kernel_rfl) (by decide)
    have hg2 := laid_ints (xs := G_first) (k := .u64) (e := 78) (name := "farebox/sha512.first") hL (List.Mem.tail _ (List.Mem.tail _ (List.Mem.tail _ (List.Mem.head _)))) (g := 2) (by kernel_rfl) (by kernel_rfl : _ = some 144) (m := 8) (by kernel_rfl) (by kernel_rfl) (by kernel_rfl) (by kernel_rfl) (by decide)
    have hg3 := laid_ints (xs := G_rtable) (k := .u64) (e := 78) (name := "farebox/fareboxref03.K") hL (List.Mem.head _) (g := 3) (by kernel_rfl) (by kernel_rfl : _ = some 211) (m := 80) (by kernel_rfl) (by kernel_rfl) (by kernel_rfl) (by kernel_rfl) (by decide)
    have hg4 := laid_ints (xs := G_table) (k := .u64) (e := 78) (name := "farebox/sha512.table") hL (List.Mem.tail _ (List.Mem.tail _ (List.Mem.head _))) (g := 4) (by kernel_rfl) (by kernel_rfl : _ = some 211) (m := 80) (by kernel_rfl) (by kernel_rfl) (by kernel_rfl) (by kernel_rfl) (by decide)
    exact ⟨hg0, hg1, hg2, hg3, hg4⟩
  have hb1 : lx1_0 * 104 ≤ 140737488351232 := by
    rcases sx1_0.at_ with h1 | h1 | ⟨b, off, h1, _⟩
    · omega
    · omega
    · subst h1
      have h1 := hg.slice_bytesN [29] [_] (t := 56) (ts := [56]) (e := 51) (by rw [Tryz.params8]; rfl) (by kernel_rfl) rfl rfl
      have h2 : Tryz.checked.prog.bytesOf 51 = 104 := by kernel_rfl
      have h3 : reachBytes = 140737488351232 := rfl
      rw [h2] at h1
      omega
  have hb2 : lx2_0 * 104 ≤ 140737488351232 := by
    rcases sx2_0.at_ with h1 | h1 | ⟨b, off, h1, _⟩
    · omega
    · omega
    · subst h1
      have h1 := hg.slice_bytesN [29, 56] [_, _] (t := 56) (ts := []) (e := 51) (by rw [Tryz.params8]; rfl) (by kernel_rfl) rfl rfl
      have h2 : Tryz.checked.prog.bytesOf 51 = 104 := by kernel_rfl
      have h3 : reachBytes = 140737488351232 := rfl
      rw [h2] at h1
      omega
  have b0 : KeyOk x0_0 := ⟨byt_of fun x hx => u8_of_wf3 (wx0_0 x hx), lx0_0⟩
  obtain ⟨p1, hp1, A1, K1⟩ := links_arg sx1_0 qx1_0 ex1_0
  obtain ⟨p2, hp2, A2, K2⟩ := links_arg sx2_0 qx2_0 ex2_0
  have h := fareboxlaw30_RotateMerges_spec (p0 := x0_0) (rotateMerges_eq b0 K1 (by omega) K2 (by omega)) hG A1 A2
  exact h.mono fun e w' hh => hh
theorem rotateMerges_own : ownKnob Tryz.prog.godebug = none := by kernel_rfl
theorem rotateMerges_met (os : Os) : laidMetH Tryz.prog [("farebox/fareboxref03.K", Rows.laid_farebox_fareboxref03_K), ("farebox/fareboxref03.First", Rows.laid_farebox_fareboxref03_First), ("farebox/sha512.table", Rows.laid_farebox_sha512_table), ("farebox/sha512.first", Rows.laid_farebox_sha512_first), ("farebox/scalar.order", Rows.laid_farebox_scalar_order)] ((World.laidAll Tryz.prog os [("farebox/fareboxref03.K", Rows.laid_farebox_fareboxref03_K), ("farebox/fareboxref03.First", Rows.laid_farebox_fareboxref03_First), ("farebox/sha512.table", Rows.laid_farebox_sha512_table), ("farebox/sha512.first", Rows.laid_farebox_sha512_first), ("farebox/scalar.order", Rows.laid_farebox_scalar_order)]).forCall (fun _ _ => 0) ⟨#[], #[.agg #[.int .u8 0, .int .u8 0, .int .u8 0, .int .u8 0, .int .u8 0, .int .u8 0, .int .u8 0, .int .u8 0, .int .u8 0, .int .u8 0, .int .u8 0, .int .u8 0, .int .u8 0, .int .u8 0, .int .u8 0, .int .u8 0, .int .u8 0, .int .u8 0, .int .u8 0, .int .u8 0, .int .u8 0, .int .u8 0, .int .u8 0, .int .u8 0, .int .u8 0, .int .u8 0, .int .u8 0, .int .u8 0, .int .u8 0, .int .u8 0, .int .u8 0, .int .u8 0], .slice none 0 0, .slice none 0 0], []⟩).memory := by
  rw [Go.MakeChecks.laidMetH_plain Tryz.prog _ _ (by kernel_rfl)]
  exact laidMet_laidAll _ (by kernel_rfl) (by kernel_rfl)
theorem rotateMerges_lifted (os : Os) (started : os.Started) (H : Type) (enc : TypeId × Value → H) :
    ReturnsInHanded {} Tryz.checked os 8 .any (fun w args => (Rows.rotateMergesSpec.pre enc Tryz.prog Tryz.f8 Rows.rotateMergesRow.domain false w args ∧ laidMetH Tryz.prog [("farebox/fareboxref03.K", Rows.laid_farebox_fareboxref03_K), ("farebox/fareboxref03.First", Rows.laid_farebox_fareboxref03_First), ("farebox/sha512.table", Rows.laid_farebox_sha512_table), ("farebox/sha512.first", Rows.laid_farebox_sha512_first), ("farebox/scalar.order", Rows.laid_farebox_scalar_order)] w) ∧ sizedMet enc Tryz.prog Tryz.f8 (OpenSpec.ofChange Rows.rotateMergesSpec) false w args) (Rows.rotateMergesSpec.post enc Tryz.prog Tryz.f8 false true false false) :=
  law_laid (C := Tryz.checked) rotateMerges_own started (by kernel_rfl) Tryz.func8 rfl
    (fun ds h => by
      rw [Tryz.params8] at h
      match ds, h with
      | [d0, d1, d2], _ => rfl)
    (by kernel_rfl : Tryz.f8.resultTypes = #[4]) (by kernel_rfl) (by kernel_rfl) (by kernel_rfl)
    (ChangeSpec.witness_at (enc := enc) (C := Tryz.checked) (os := os) (X := fun w _ => laidMetH Tryz.prog [("farebox/fareboxref03.K", Rows.laid_farebox_fareboxref03_K), ("farebox/fareboxref03.First", Rows.laid_farebox_fareboxref03_First), ("farebox/sha512.table", Rows.laid_farebox_sha512_table), ("farebox/sha512.first", Rows.laid_farebox_sha512_first), ("farebox/scalar.order", Rows.laid_farebox_scalar_order)] w) false (World.laidAll Tryz.prog os [("farebox/fareboxref03.K", Rows.laid_farebox_fareboxref03_K), ("farebox/fareboxref03.First", Rows.laid_farebox_fareboxref03_First), ("farebox/sha512.table", Rows.laid_farebox_sha512_table), ("farebox/sha512.first", Rows.laid_farebox_sha512_first), ("farebox/scalar.order", Rows.laid_farebox_scalar_order)]) #[.agg #[.int .u8 0, .int .u8 0, .int .u8 0, .int .u8 0, .int .u8 0, .int .u8 0, .int .u8 0, .int .u8 0, .int .u8 0, .int .u8 0, .int .u8 0, .int .u8 0, .int .u8 0, .int .u8 0, .int .u8 0, .int .u8 0, .int .u8 0, .int .u8 0, .int .u8 0, .int .u8 0, .int .u8 0, .int .u8 0, .int .u8 0, .int .u8 0, .int .u8 0, .int .u8 0, .int .u8 0, .int .u8 0, .int .u8 0, .int .u8 0, .int .u8 0, .int .u8 0], .slice none 0 0, .slice none 0 0] 8 (World.laidAll_os _ _ _) (by kernel_rfl) (by kernel_rfl) (by kernel_rfl) (by kernel_rfl) (by kernel_rfl) (rotateMerges_met os))
    (fun W args hL hg => rotateMerges_law W args hL hg)
/-- The row. -/
theorem rotateMerges_holds : Rows.RotateMergesSaid :=
  OpenClaim.holds_of_wide 8 Tryz.f8 rfl rfl rfl rfl rfl rfl rfl ⟨rfl, rfl, rfl, rfl, rfl⟩ rfl rfl rfl rfl rfl (by kernel_rfl) Tryz.func8 (by kernel_rfl)
    (of_decide_eq_true (by kernel_rfl)) (by unfold Func.isWrapper; first | (rw [if_pos (by decide +kernel)]; kernel_rfl) | (rw [if_neg (by decide +kernel)]; exact ⟨rfl, rfl⟩))
    (fun os started H enc _ => rotateMerges_lifted os started H enc)
/-- The card. -/
theorem rotateMerges_card_holds : Rows.RotateMergesCardSaid :=
  Claim7.holds_tied_plain_at .later [] [.data, .data, .data, .data, .data] true (true, "1d8087243e415c7bcaf2b694f10484aae6c10c0460a221fe3f96c1b367ade8be") false
    rotateMerges_holds (fun _ h => by cases h) (by kernel_rfl) (fun _ h => by cases h) rotateMerges_row_tie rfl ⟨rfl, rfl⟩ (by kernel_rfl) rfl
    (fun f fn hf hfn => by
      obtain rfl : f = 8 := Option.some.inj ((show Tryz.prog.funcNamed "farebox/fareboxlaw30.RotateMerges" = some 8 by kernel_rfl).symm.trans hf) |>.symm
      obtain rfl : fn = Tryz.f8 := (Option.some.inj (Tryz.func8.symm.trans hfn)).symm
      exact ⟨by kernel_rfl, fun j t ht => by
        rw [Tryz.params8] at ht
        have hall : ∀ t ∈ #[29, 56, 56], Tryz.prog.wantsStandIn t = false := by decide +kernel
        exact hall t (Array.mem_of_getElem? ht)⟩)
    (by kernel_rfl)
#print axioms rotateMerges_card_holds
end Go.Proofs.YtiflckckekjbnaaGreatDoor
