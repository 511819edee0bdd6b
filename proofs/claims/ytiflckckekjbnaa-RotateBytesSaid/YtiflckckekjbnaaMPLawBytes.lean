/- Proved here: the law RotateBytes (layer 30: Encode of any links, Decode of any bytes) answers true, and does not panic, at every input that the statement RotateBytesSaid lets in. Conditions: none beside the statement's own. -/
import Derived.Test.YtiflckckekjbnaaM4
import Derived.Test.YtiflckckekjbnaaRows
/- The row and the card of RotateBytes. -/
namespace Go.Proofs.Ytiflckckekjbnaa
open Go Go.Sx Go.RowKit
set_option linter.all false
set_option maxRecDepth 100000
theorem u8_of_wf3 {x : Int} (h : (Lit.int .u8 x).wf = true) : 0 ≤ x ∧ x < 256 := by
  have := bounds_u8 h
  omega
theorem msg_byt {W : World} {a : Option Addr} {len cap : Nat} {xs : List Int} (h : SlI W .u8 a cap xs) : Byt (xs.take len) := by
  intro i
  by_cases hi : i < (xs.take len).length
  · have hm : (xs.take len).getD i 0 ∈ xs := by
      have e : (xs.take len).getD i 0 = (xs.take len)[i] := by rw [List.getD_eq_getElem?_getD, List.getElem?_eq_getElem hi]; rfl
      rw [e]
      exact List.mem_of_mem_take (List.getElem_mem hi)
    exact u8_of_wf3 (h.wf _ hm)
  · rw [getD_end (by omega)]; decide
theorem links_of {W : World} {n : Nat} {g : Nat → List Value} (h : ∀ i, i < n → Fits W maxLen (.int .i64 (.ints .u8 32 (.ints .u8 64 .nil))) (g i)) :
    ∃ f : Nat → api_Link, ∀ i, i < n → g i = E_api_Link.cell (f i) := by
  have key : ∀ i, ∃ c : api_Link, i < n → g i = E_api_Link.cell c := by
    intro i
    by_cases hi : i < n
    · obtain ⟨x, _, e0, wx, key, _, lk, wk, e1, sig, _, ls, ws, e2, e3⟩ := h i hi
      subst e3; subst e2; subst e1
      exact ⟨⟨x, key, sig⟩, fun _ => e0⟩
    · exact ⟨api_Link_z, fun h => absurd h hi⟩
  exact ⟨fun i => (key i).choose, fun i hi => (key i).choose_spec hi⟩
theorem links_arg {W : World} {a : Option Addr} {len cap : Nat} {g : Nat → List Value} (hS : SlR W 97 a cap g) (hl : len ≤ cap) (hF : ∀ i, i < cap → Fits W maxLen (.int .i64 (.ints .u8 32 (.ints .u8 64 .nil))) (g i)) :
    ∃ p : List api_Link, p.length = len ∧ RdSl E_api_Link W (.slice a len cap) p := by
  obtain ⟨f, hf⟩ := links_of hF
  have e1 : ∀ i, i < len → ((List.range len).map f).getD i api_Link_z = f i := fun i hi => by simp [List.getD_eq_getElem?_getD, hi]
  refine ⟨(List.range len).map f, by simp, ?_⟩
  refine rd_of_SlR (E := E_api_Link) hS hl (by simp) fun i hi => ?_
  rw [e1 i hi]
  exact hf i (by omega)

theorem rotateBytes_law (W : World) (args : Array Value) (hg : Given Try.checked Try.f3 W args) : LawAt Try.prog 3 args W := by
  have h := hg.open 30
  rw [Try.params3] at h
  obtain ⟨v0, q0, k0, ⟨b0, w0⟩, f0, h⟩ := h
  obtain ⟨v1, q1, k1, ⟨b1, w1⟩, f1, h⟩ := h
  have hend : q1 = [] := h
  have f0 := f0 (.sl 97 (.int .i64 (.ints .u8 32 (.ints .u8 64 .nil))) .nil) (by kernel_rfl)
  generalize hu0 : v0.cells.toList = u0 at f0
  obtain ⟨x0_0, lx0_0, cx0_0, gx0_0, _, rfl, qx0_0, bx0_0, sx0_0, ex0_0, rfl⟩ := f0
  obtain rfl := wide_one w0 (by kernel_rfl) hu0
  clear hu0
  have f1 := f1 (.sli .u8 .nil) (by kernel_rfl)
  generalize hu1 : v1.cells.toList = u1 at f1
  obtain ⟨x1_0, lx1_0, cx1_0, gx1_0, _, rfl, qx1_0, bx1_0, sx1_0, rfl⟩ := f1
  obtain rfl := wide_one w1 (by kernel_rfl) hu1
  clear hu1
  subst hend
  subst k1
  obtain rfl : args = #[.slice x0_0 lx0_0 cx0_0, .slice x1_0 lx1_0 cx1_0] := by cases args; simpa using k0
  clear k0
  have hb0 : lx0_0 * 104 ≤ 140737488351232 := by
    rcases sx0_0.at_ with h1 | h1 | ⟨b, off, h1, _⟩
    · omega
    · omega
    · subst h1
      have h1 := hg.slice_bytesN [] [] (t := 22) (ts := [23]) (e := 41) (by rw [Try.params3]; rfl) (by kernel_rfl) rfl rfl
      have h2 : Try.checked.prog.bytesOf 41 = 104 := by kernel_rfl
      have h3 : reachBytes = 140737488351232 := rfl
      rw [h2] at h1
      omega
  have hb1 : lx1_0 * 1 ≤ 140737488351232 := by
    rcases sx1_0.at_ with h1 | ⟨b, off, h1, _⟩
    · omega
    · subst h1
      have h1 := hg.slice_bytesN [22] [_] (t := 23) (ts := []) (e := 5) (by rw [Try.params3]; rfl) (by kernel_rfl) rfl rfl
      have h2 : Try.checked.prog.bytesOf 5 = 1 := by kernel_rfl
      have h3 : reachBytes = 140737488351232 := rfl
      rw [h2] at h1
      omega
  have hb5 : (gx1_0.take lx1_0).length ≤ lx1_0 := by rw [List.length_take]; omega
  obtain ⟨p0, hp0, A0⟩ := links_arg sx0_0 qx0_0 ex0_0
  have h := fareboxlaw30_RotateBytes_spec (rotateBytes_eq (p := p0) (by omega) (msg_byt (len := lx1_0) sx1_0) (by omega)) A0 (rd_of_SlI sx1_0 qx1_0)
  exact h.mono fun e w' hh => hh
theorem rotateBytes_own : ownKnob Try.prog.godebug = none := by kernel_rfl
theorem rotateBytes_lifted (os : Os) (started : os.Started) (H : Type) (enc : TypeId × Value → H) :
    ReturnsInHanded {} Try.checked os 3 .any (Rows.rotateBytesSpec.pre6 enc Try.prog Try.f3 Rows.rotateBytesRow.domain false) (Rows.rotateBytesSpec.post enc Try.prog Try.f3 false true false false) :=
  law_plain (C := Try.checked) rotateBytes_own started (by kernel_rfl) Try.func3 rfl
    (fun ds h => by
      rw [Try.params3] at h
      match ds, h with
      | [d0, d1], _ => rfl)
    (by kernel_rfl : Try.f3.resultTypes = #[4]) (by kernel_rfl) (by kernel_rfl) (by kernel_rfl)
    (ChangeSpec.witness6 (enc := enc) (C := Try.checked) false ⟨#[], #[.slice none 0 0, .slice none 0 0], []⟩ 8 (by kernel_rfl) (by kernel_rfl) (by kernel_rfl) (by kernel_rfl))
    (fun W args hg => rotateBytes_law W args hg)
/-- The row. -/
theorem rotateBytes_holds : Rows.RotateBytesSaid :=
  OpenClaim.holds_of_wide 3 Try.f3 rfl rfl rfl rfl rfl rfl rfl ⟨rfl, rfl, rfl, rfl, rfl⟩ rfl rfl rfl rfl rfl (by kernel_rfl) Try.func3 (by kernel_rfl)
    (of_decide_eq_true (by kernel_rfl)) (by unfold Func.isWrapper; first | (rw [if_pos (by decide +kernel)]; kernel_rfl) | (rw [if_neg (by decide +kernel)]; exact ⟨rfl, rfl⟩))
    (fun os started H enc _ => rotateBytes_lifted os started H enc)
#print axioms rotateBytes_holds
end Go.Proofs.Ytiflckckekjbnaa
