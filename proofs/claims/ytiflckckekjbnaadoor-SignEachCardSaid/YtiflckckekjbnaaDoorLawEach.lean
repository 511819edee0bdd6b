/- The row and the card of SignEach. -/
import Derived.Test.YtiflckckekjbnaaDoorG4
import Derived.Test.YtiflckckekjbnaaDoorG5
import Derived.Test.YtiflckckekjbnaaDoorRows
import Derived.Test.YtiflckckekjbnaaDoorCards
import Derived.Test.YtiflckckekjbnaaDoorTie
namespace Go.Proofs.YtiflckckekjbnaaDoor
open Go Go.Sx Go.RowKit
set_option linter.all false
set_option maxRecDepth 100000
theorem u8_of_wf {x : Int} (h : (Lit.int .u8 x).wf = true) : 0 ≤ x ∧ x < 256 := by
  have := bounds_u8 h
  omega
theorem cases_of {W : World} {n : Nat} {g : Nat → List Value} (h : ∀ i, i < n → Fits W maxLen (.ints .u8 32 (.sli .u8 (.ints .u8 64 .nil))) (g i)) :
    ∃ f : Nat → fareboxlaw08_Case × SlT, ∀ i, i < n → g i = EC_fareboxlaw08_Case.cell (f i) ∧ Byt (f i).1.gKey ∧ Byt (f i).1.gSig ∧ (f i).1.gMessage.length < 18446744073709551615 ∧ RdSl (El.int .u8) W (slV (f i).2) (f i).1.gMessage := by
  have key : ∀ i, ∃ c : fareboxlaw08_Case × SlT, i < n → g i = EC_fareboxlaw08_Case.cell c ∧ Byt c.1.gKey ∧ Byt c.1.gSig ∧ c.1.gMessage.length < 18446744073709551615 ∧ RdSl (El.int .u8) W (slV c.2) c.1.gMessage := by
    intro i
    by_cases hi : i < n
    · obtain ⟨key, _, lk, wk, e1, a, len, cap, xs, _, rfl, hlc, hcap, hS, sig, _, ls, ws, rfl, rfl⟩ := h i hi
      refine ⟨(⟨key, xs.take len, sig⟩, (a, len, cap)), fun _ => ⟨e1, byt_of fun x hx => u8_of_wf (wk x hx), byt_of fun x hx => u8_of_wf (ws x hx), ?_, rd_of_SlI hS hlc⟩⟩
      have h1 : (xs.take len).length ≤ len := by rw [List.length_take]; omega
      have h2 : maxLen = 9223372036854775807 := rfl
      show (xs.take len).length < _
      omega
    · exact ⟨(Cz, (none, 0, 0)), fun h => absurd h hi⟩
  exact ⟨fun i => (key i).choose, fun i hi => (key i).choose_spec hi⟩
theorem each_args {W : World} {a : Option Addr} {len cap : Nat} {g : Nat → List Value} (hS : SlR W 97 a cap g) (hl : len ≤ cap) (hF : ∀ i, i < cap → Fits W maxLen (.ints .u8 32 (.sli .u8 (.ints .u8 64 .nil))) (g i)) :
    ∃ (p : List fareboxlaw08_Case) (us : List SlT), p.length = len ∧ RdSl EC_fareboxlaw08_Case W (.slice a len cap) (zipG Cz (none, 0, 0) p us) ∧
      (∀ i, i < p.length → RdSl (El.int .u8) W (slV (us.getD i (none, 0, 0))) (p.getD i Cz).gMessage) ∧ ∀ i, i < p.length → Byt (p.getD i Cz).gKey ∧ Byt (p.getD i Cz).gSig ∧ (p.getD i Cz).gMessage.length < 18446744073709551615 := by
  obtain ⟨f, hf⟩ := cases_of hF
  have e1 : ∀ i, i < len → ((List.range len).map fun i => (f i).1).getD i Cz = (f i).1 := fun i hi => by simp [List.getD_eq_getElem?_getD, hi]
  have e2 : ∀ i, i < len → ((List.range len).map fun i => (f i).2).getD i (none, 0, 0) = (f i).2 := fun i hi => by simp [List.getD_eq_getElem?_getD, hi]
  refine ⟨(List.range len).map fun i => (f i).1, (List.range len).map fun i => (f i).2, by simp, ?_, ?_, ?_⟩
  · refine rd_of_SlR (E := EC_fareboxlaw08_Case) hS hl (by rw [zipG_len]; simp) fun i hi => ?_
    rw [zipG_cell (E := EC_fareboxlaw08_Case) (by simpa using hi), e1 i hi, e2 i hi]
    exact (hf i (by omega)).1
  · intro i hi
    have hi : i < len := by simpa using hi
    rw [e1 i hi, e2 i hi]
    exact (hf i (by omega)).2.2.2.2
  · intro i hi
    have hi : i < len := by simpa using hi
    rw [e1 i hi]
    exact ⟨(hf i (by omega)).2.1, (hf i (by omega)).2.2.1, (hf i (by omega)).2.2.2.1⟩

theorem signEach_law (W : World) (args : Array Value) (hL : laidMetH Tryd.prog [("farebox/sha512.table", Rows.laid_farebox_sha512_table), ("farebox/sha512.first", Rows.laid_farebox_sha512_first), ("farebox/scalar.order", Rows.laid_farebox_scalar_order)] W) (hg : Given Tryd.checked Tryd.f3 W args) : LawAt Tryd.prog 3 args W := by
  have h := hg.open 30
  rw [Tryd.params3] at h
  obtain ⟨v0, q0, k0, ⟨b0, w0⟩, f0, h⟩ := h
  have hend : q0 = [] := h
  have f0 := f0 (.sl 97 (.ints .u8 32 (.sli .u8 (.ints .u8 64 .nil))) .nil) (by kernel_rfl)
  generalize hu0 : v0.cells.toList = u0 at f0
  obtain ⟨x0_0, lx0_0, cx0_0, gx0_0, _, rfl, qx0_0, bx0_0, sx0_0, ex0_0, rfl⟩ := f0
  obtain rfl := wide_one w0 (by kernel_rfl) hu0
  clear hu0
  subst hend
  obtain rfl : args = #[.slice x0_0 lx0_0 cx0_0] := by cases args; simpa using k0
  clear k0
  have hG : Globs W := by
    rw [Go.MakeChecks.laidMetH_plain Tryd.prog _ _ (by kernel_rfl)] at hL
    have hg0 := laid_ints (xs := G_order) (k := .u64) (e := 56) (name := "farebox/scalar.order") hL (List.Mem.tail _ (List.Mem.tail _ (List.Mem.head _))) (g := 0) (by kernel_rfl) (by kernel_rfl : _ = some 93) (m := 4) (by kernel_rfl) (by kernel_rfl) (by kernel_rfl) (by kernel_rfl) (by decide)
    have hg1 := laid_ints (xs := G_first) (k := .u64) (e := 56) (name := "farebox/sha512.first") hL (List.Mem.tail _ (List.Mem.head _)) (g := 1) (by kernel_rfl) (by kernel_rfl : _ = some 135) (m := 8) (by kernel_rfl) (by kernel_rfl) (by kernel_rfl) (by kernel_rfl) (by decide)
    have hg2 := laid_ints (xs := G_table) (k := .u64) (e := 56) (name := "farebox/sha512.table") hL (List.Mem.head _) (g := 2) (by kernel_rfl) (by kernel_rfl : _ = some 155) (m := 80) (by kernel_rfl) (by kernel_rfl) (by kernel_rfl) (by kernel_rfl) (by decide)
    exact ⟨hg0, hg1, hg2⟩
  obtain ⟨p, us, hpl, A0, B0, hC⟩ := each_args sx0_0 qx0_0 ex0_0
  have hb : p.length * 64 ≤ 140737488355328 := by
    rw [hpl]
    rcases sx0_0.at_ with h0 | h0 | ⟨b, off, h0, _⟩
    · omega
    · omega
    · subst h0
      have h1 := hg.slice_bytes (t := 22) (ts := []) (e := 32) (by rw [Tryd.params3]) (by kernel_rfl) rfl
      have h2 : Tryd.checked.prog.bytesOf 32 = 120 := by kernel_rfl
      have h3 : reachBytes = 140737488351232 := rfl
      rw [h2] at h1
      omega
  have h := fareboxlaw08_SignEach_spec (signEach_eq ⟨fun i hi => (hC i hi).1, fun i hi => (hC i hi).2.1, fun i hi => (hC i hi).2.2, hb⟩) hG A0 B0
  exact h.mono fun e w' hh => hh
theorem signEach_own : ownKnob Tryd.prog.godebug = none := by kernel_rfl
theorem signEach_met (os : Os) : laidMetH Tryd.prog [("farebox/sha512.table", Rows.laid_farebox_sha512_table), ("farebox/sha512.first", Rows.laid_farebox_sha512_first), ("farebox/scalar.order", Rows.laid_farebox_scalar_order)] ((World.laidAll Tryd.prog os [("farebox/sha512.table", Rows.laid_farebox_sha512_table), ("farebox/sha512.first", Rows.laid_farebox_sha512_first), ("farebox/scalar.order", Rows.laid_farebox_scalar_order)]).forCall (fun _ _ => 0) ⟨#[], #[.slice none 0 0], []⟩).memory := by
  rw [Go.MakeChecks.laidMetH_plain Tryd.prog _ _ (by kernel_rfl)]
  exact laidMet_laidAll _ (by kernel_rfl) (by kernel_rfl)
theorem signEach_lifted (os : Os) (started : os.Started) (H : Type) (enc : TypeId × Value → H) :
    ReturnsInHanded {} Tryd.checked os 3 .any (fun w args => (Rows.signEachSpec.pre enc Tryd.prog Tryd.f3 Rows.signEachRow.domain false w args ∧ laidMetH Tryd.prog [("farebox/sha512.table", Rows.laid_farebox_sha512_table), ("farebox/sha512.first", Rows.laid_farebox_sha512_first), ("farebox/scalar.order", Rows.laid_farebox_scalar_order)] w) ∧ sizedMet enc Tryd.prog Tryd.f3 (OpenSpec.ofChange Rows.signEachSpec) false w args) (Rows.signEachSpec.post enc Tryd.prog Tryd.f3 false true false false) :=
  law_laid (C := Tryd.checked) signEach_own started (by kernel_rfl) Tryd.func3 rfl
    (fun ds h => by
      rw [Tryd.params3] at h
      match ds, h with
      | [d0], _ => rfl)
    (by kernel_rfl : Tryd.f3.resultTypes = #[4]) (by kernel_rfl) (by kernel_rfl) (by kernel_rfl)
    (ChangeSpec.witness_at (enc := enc) (C := Tryd.checked) (os := os) (X := fun w _ => laidMetH Tryd.prog [("farebox/sha512.table", Rows.laid_farebox_sha512_table), ("farebox/sha512.first", Rows.laid_farebox_sha512_first), ("farebox/scalar.order", Rows.laid_farebox_scalar_order)] w) false (World.laidAll Tryd.prog os [("farebox/sha512.table", Rows.laid_farebox_sha512_table), ("farebox/sha512.first", Rows.laid_farebox_sha512_first), ("farebox/scalar.order", Rows.laid_farebox_scalar_order)]) #[.slice none 0 0] 8 (World.laidAll_os _ _ _) (by kernel_rfl) (by kernel_rfl) (by kernel_rfl) (by kernel_rfl) (by kernel_rfl) (signEach_met os))
    (fun W args hL hg => signEach_law W args hL hg)
/-- The row. -/
theorem signEach_holds : Rows.SignEachSaid :=
  OpenClaim.holds_of_wide 3 Tryd.f3 rfl rfl rfl rfl rfl rfl rfl ⟨rfl, rfl, rfl, rfl, rfl⟩ rfl rfl rfl rfl rfl (by kernel_rfl) Tryd.func3 (by kernel_rfl)
    (of_decide_eq_true (by kernel_rfl)) (by unfold Func.isWrapper; first | (rw [if_pos (by decide +kernel)]; kernel_rfl) | (rw [if_neg (by decide +kernel)]; exact ⟨rfl, rfl⟩))
    (fun os started H enc _ => signEach_lifted os started H enc)
/-- The card. -/
theorem signEach_card_holds : Rows.SignEachCardSaid :=
  Claim7.holds_tied_plain_at .later [] [.data, .data, .data] true (true, "bf32618f76c4df2abd3bf3890172ce253f595848c50419bf7240a6be9f031777") false
    signEach_holds (fun _ h => by cases h) (by kernel_rfl) (fun _ h => by cases h) signEach_row_tie rfl ⟨rfl, rfl⟩ (by kernel_rfl) rfl
    (fun f fn hf hfn => by
      obtain rfl : f = 3 := Option.some.inj ((show Tryd.prog.funcNamed "farebox/fareboxlaw08.SignEach" = some 3 by kernel_rfl).symm.trans hf) |>.symm
      obtain rfl : fn = Tryd.f3 := (Option.some.inj (Tryd.func3.symm.trans hfn)).symm
      exact ⟨by kernel_rfl, fun j t ht => by
        rw [Tryd.params3] at ht
        have hall : ∀ t ∈ #[22], Tryd.prog.wantsStandIn t = false := by decide +kernel
        exact hall t (Array.mem_of_getElem? ht)⟩)
    (by kernel_rfl)
#print axioms signEach_card_holds
end Go.Proofs.YtiflckckekjbnaaDoor
