/- Texts of a proof: LawGoss. -/
import Derived.Test.YtaebomfgmadilaaM5
import Derived.Test.YtaebomfgmadilaaRows
/- Proved here: GossipDigests in its bounded form (GossipDigestsUptoSaid): where both lists together are of bulk at most 1048576 the law answers true and does not panic. Conditions: the statement's own bound and no others. -/
namespace Go.Proofs.Ytaebomfgmadilaa
open Go Go.Sx Go.RowKit
set_option linter.all false
set_option maxRecDepth 100000
theorem one_leB {H : Type} (d : DataW H) : 1 ≤ Rows.uptoBulk d := by
  cases d with
  | lit l => cases l <;> simp [Rows.uptoBulk]
  | nil => simp [Rows.uptoBulk]
  | ptr d => simp [Rows.uptoBulk]
  | slice elems spare => simp [Rows.uptoBulk]
  | agg parts => simp [Rows.uptoBulk]
  | iface t d => simp [Rows.uptoBulk]
  | map entries => simp [Rows.uptoBulk]
  | held h => simp [Rows.uptoBulk]
theorem len_leB {H : Type} : ∀ (l : List (DataW H)), l.length ≤ Rows.uptoBulkAll l
  | [] => by simp [Rows.uptoBulkAll]
  | x :: r => by have := one_leB x; have := len_leB r; simp only [Rows.uptoBulkAll, List.length_cons]; omega
theorem part_leB {H : Type} {d : DataW H} : ∀ {l : List (DataW H)}, d ∈ l → Rows.uptoBulk d ≤ Rows.uptoBulkAll l
  | x :: r, h => by
    simp only [Rows.uptoBulkAll]
    rcases List.mem_cons.1 h with rfl | h
    · omega
    · have := part_leB h; omega
theorem slice_leB {H : Type} {elems spare : List (DataW H)} {ds : List (DataW H)} (hk : Rows.uptoSmall H ds = true) (h : DataW.slice elems spare ∈ ds) : elems.length ≤ 1048576 := by
  have h0 : Rows.uptoBulkAll ds ≤ 1048576 := of_decide_eq_true hk
  have h1 := part_leB h
  have h2 := len_leB elems
  simp only [Rows.uptoBulk] at h1
  omega
theorem sums_of {W : World} {n : Nat} {g : Nat → List Value} (h : ∀ i, i < n → Fits W maxLen (.int .i64 (.int .i64 (.bool (.bool .nil)))) (g i)) :
    ∃ f : Nat → api_Summary, ∀ i, i < n → g i = E_api_Summary.cell (f i) := by
  have key : ∀ i, ∃ c : api_Summary, i < n → g i = E_api_Summary.cell c := by
    intro i
    by_cases hi : i < n
    · obtain ⟨x, _, e0, wx, y, _, e1, wy, b, _, e2, d, _, e3, e4⟩ := h i hi
      subst e4; subst e3; subst e2; subst e1
      exact ⟨⟨x, y, b, d⟩, fun _ => e0⟩
    · exact ⟨api_Summary_z, fun h => absurd h hi⟩
  exact ⟨fun i => (key i).choose, fun i hi => (key i).choose_spec hi⟩
theorem sums_arg {W : World} {a : Option Addr} {len cap : Nat} {g : Nat → List Value} (hS : SlR W 4 a cap g) (hl : len ≤ cap) (hF : ∀ i, i < cap → Fits W maxLen (.int .i64 (.int .i64 (.bool (.bool .nil)))) (g i)) :
    ∃ p : List api_Summary, p.length = len ∧ RdSl E_api_Summary W (.slice a len cap) p := by
  obtain ⟨f, hf⟩ := sums_of hF
  have e1 : ∀ i, i < len → ((List.range len).map f).getD i api_Summary_z = f i := fun i hi => by simp [List.getD_eq_getElem?_getD, hi]
  refine ⟨(List.range len).map f, by simp, ?_⟩
  refine rd_of_SlR (E := E_api_Summary) hS hl (by simp) fun i hi => ?_
  rw [e1 i hi]
  exact hf i (by omega)

theorem gossipDigests_law (W : World) (args : Array Value) (hg : Given Try.checked Try.f3 W args) (hM : Met Try.checked Try.f3 Rows.uptoSmall W args) : LawAt Try.prog 3 args W := by
  have h := hg.open 30
  rw [Try.params3] at h
  obtain ⟨v0, q0, k0, ⟨b0, w0⟩, f0, h⟩ := h
  obtain ⟨v1, q1, k1, ⟨b1, w1⟩, f1, h⟩ := h
  have hend : q1 = [] := h
  have f0 := f0 (.sl 4 (.int .i64 (.int .i64 (.bool (.bool .nil)))) .nil) (by kernel_rfl)
  generalize hu0 : v0.cells.toList = u0 at f0
  obtain ⟨x0_0, lx0_0, cx0_0, gx0_0, _, rfl, qx0_0, bx0_0, sx0_0, ex0_0, rfl⟩ := f0
  obtain rfl := wide_one w0 (by kernel_rfl) hu0
  clear hu0
  have f1 := f1 (.sl 4 (.int .i64 (.int .i64 (.bool (.bool .nil)))) .nil) (by kernel_rfl)
  generalize hu1 : v1.cells.toList = u1 at f1
  obtain ⟨x1_0, lx1_0, cx1_0, gx1_0, _, rfl, qx1_0, bx1_0, sx1_0, ex1_0, rfl⟩ := f1
  obtain rfl := wide_one w1 (by kernel_rfl) hu1
  clear hu1
  subst hend
  subst k1
  obtain rfl : args = #[.slice x0_0 lx0_0 cx0_0, .slice x1_0 lx1_0 cx1_0] := by cases args; simpa using k0
  clear k0
  obtain ⟨p0, hp0, A0⟩ := sums_arg sx0_0 qx0_0 ex0_0
  obtain ⟨p1, hp1, A1⟩ := sums_arg sx1_0 qx1_0 ex1_0
  obtain ⟨H, ds, hk, hsl⟩ := hM.slice
  have l0 : p0.length ≤ 1048576 := by
    rcases hsl [] [] 23 34 [22] _ _ _ _ (by rw [Try.params3]; rfl) (by kernel_rfl) rfl rfl with h1 | ⟨el, sp, h1, h2⟩
    · omega
    · have := slice_leB hk h1; omega
  have l1 : p1.length ≤ 1048576 := by
    rcases hsl [23] [_] 22 34 [] _ _ _ _ (by rw [Try.params3]; rfl) (by kernel_rfl) rfl rfl with h1 | ⟨el, sp, h1, h2⟩
    · omega
    · have := slice_leB hk h1; omega
  have h := fareboxlaw20_GossipDigests_spec (gossip_eq l0 l1) A0 A1
  exact h.mono fun e w' hh => hh
theorem gossipDigests_own : ownKnob Try.prog.godebug = none := by kernel_rfl
theorem gossipDigests_lifted (os : Os) (started : os.Started) (H : Type) (enc : TypeId × Value → H) (F : Stop.Interp) :
    ReturnsInHanded {} Try.checked os 3 .any ((Rows.OpenSpec.upto Rows.gossipDigestsSpec).pre6 enc Try.prog Try.f3 Rows.gossipDigestsUptoRow.domain false) (((Rows.OpenSpec.upto Rows.gossipDigestsSpec).at F).post enc Try.prog Try.f3 false true false false) :=
  law_cond (C := Try.checked) (s := Rows.gossipDigestsSpec) (k := Rows.uptoSmall) gossipDigests_own started (by kernel_rfl) Try.func3 rfl
    (fun ds h => by
      rw [Try.params3] at h
      match ds, h with
      | [d0, d1], _ => rfl)
    (by kernel_rfl : Try.f3.resultTypes = #[4]) (by kernel_rfl) (by kernel_rfl) (by kernel_rfl)
    (OpenSpec.witness (enc := enc) (C := Try.checked) (s := Rows.OpenSpec.upto Rows.gossipDigestsSpec) (k := Rows.uptoSmall) rfl false ⟨#[], #[.slice none 0 0, .slice none 0 0], []⟩ 8 (by kernel_rfl) (by kernel_rfl) (by kernel_rfl)
      (x := ([.nil, .nil], [], [])) (by kernel_rfl) (by kernel_rfl) (by kernel_rfl))
    (fun W args hg hM => gossipDigests_law W args hg hM)
/-- The row. -/
theorem gossipDigests_upto_holds : Rows.GossipDigestsUptoSaid :=
  OpenClaim.holds_of_cond 3 Try.f3 rfl rfl rfl rfl rfl rfl rfl ⟨rfl, rfl, rfl, rfl, rfl⟩ rfl rfl rfl rfl rfl (by kernel_rfl) Try.func3 (by kernel_rfl)
    (of_decide_eq_true (by kernel_rfl)) (by unfold Func.isWrapper; first | (rw [if_pos (by decide +kernel)]; kernel_rfl) | (rw [if_neg (by decide +kernel)]; exact ⟨rfl, rfl⟩))
    (fun os started H enc _ F => gossipDigests_lifted os started H enc F)
end Go.Proofs.Ytaebomfgmadilaa
#print axioms Go.Proofs.Ytaebomfgmadilaa.gossipDigests_upto_holds
