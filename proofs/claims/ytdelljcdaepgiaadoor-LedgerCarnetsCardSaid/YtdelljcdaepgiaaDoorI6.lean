/- LedgerCarnets walked. -/
import Derived.Test.YtdelljcdaepgiaaDoorP2
import Derived.Test.YtdelljcdaepgiaaDoorI3
namespace Go.Proofs.YtdelljcdaepgiaaDoor
open Go Go.Sx Go.RowKit
set_option linter.all false

theorem evenZ : evenV (List.replicate 3 0) = true := even_of ⟨0, 0, 0, rfl, by decide, by decide, by decide, by decide, by decide⟩
abbrev prOf (sales : Nat → LSale) (len : Nat) (j : Nat) : LSale := properV (sales j) j (w64 ((len : Int) - 1))
theorem pr_ok {sales : Nat → LSale} {len : Nat} (hlen : len ≤ 200) (hs : ∀ j, j < len → SaleIn (sales j)) {j : Nat} (hj : j < len) : PrOk (prOf sales len j) j (len - 1) ∧
    w64 (w64 (intoV (sales j).rides 1 4096 - 0) + 1) ≠ 0 ∧ w64 (w64 (w64 ((len : Int) - 1) - (j : Int)) + 1) ≠ 0 := by
  have e : w64 ((len : Int) - 1) = (len : Int) - 1 := w64_in ⟨by omega, by omega⟩
  unfold prOf
  rw [e]
  exact proper_ok (hs j hj) (by omega) (by omega) (by omega)
theorem lca_spec (a : Option Addr) (len cap : Nat) (g : Nat → List Value) (sales : Nat → LSale) (w : World) (hs : SideAt w) (hlc : len ≤ cap) (hA : len = 0 ∨ ∃ bb off, a = some ⟨bb, off, none⟩ ∧ Mem w bb off [.rows 5 cap g]) (hg : ∀ i, i < len → g i = cells (saleS (sales i))) (hsl : ∀ i, i < len → SaleIn (sales i)) : Calls Tryd.prog 4 [.slice a len cap].toArray w (ret1 w (.bool true)) := by
  refine calls_val mo ok4 rfl ?_
  refine wc_seq ?_
  refine wc_ops ?_
  refine wj_q _ (q_mv rfl) ?_
  refine wj_nil ?_
  refine wc_seq ?_
  refine wc_seq ?_
  refine wc_ops ?_
  refine wj_q _ (q_mv rfl) ?_
  refine wj_q _ (q_len rfl) ?_
  refine wj_q _ (q_bin rfl rfl rfl) ?_
  refine wj_nil ?_
  refine wc_if rfl (fun h1 => ?_) (fun h1 => ?_)
  · refine wc_seq ?_
    refine wc_ops ?_
    refine wj_q _ (q_mv rfl) ?_
    refine wj_nil ?_
    refine wc_ret ?_
    refine ⟨_, (.cons (.tmp rfl) .nil), ?_⟩
    rfl
  · refine wc_skip ?_
    refine wc_seq ?_
    refine wc_ops ?_
    refine wj_e (ef_al fun b3 hb3 => ?_)
    refine wj_nil ?_
    refine wc_seq ?_
    refine wc_ops ?_
    refine wj_q _ (q_mv rfl) ?_
    refine wj_nil ?_
    refine wc_seq ?_
    refine wc_ops ?_
    refine wj_q _ (q_mv rfl) ?_
    refine wj_nil ?_
    refine wc_seq ?_
    refine wc_ops ?_
    refine wj_q _ (q_mv rfl) ?_
    refine wj_nil ?_
    refine wc_seq ?_
    refine wc_seq ?_
    refine wc_ops ?_
    refine wj_q _ (q_mv rfl) ?_
    refine wj_nil ?_
    refine wc_block ?_
    refine wc_loop2 (X := Nat × List Int × Int × Int) (fun x => [(7, .int .i64 x.1), (5, .int .i64 x.2.2.1), (6, .int .i64 x.2.2.2), (0, _), (17, _), (18, _), (19, _), (3, _)]) (fun x => [ck b3 27 (bookS x.2.1)]) (fun x => x.1 ≤ len ∧ CI (prOf sales len) x.1 x.1 0 x.2.1 x.2.2.1 x.2.2.2) (fun x => len - x.1) (0, List.replicate 3 0, 0, 0) ⟨Nat.zero_le _, ⟨rfl, rfl, by decide, by decide, by decide⟩⟩ (subT_look ⟨rfl, rfl, rfl, rfl, rfl, rfl, rfl, rfl, trivial⟩) ⟨0, rfl⟩ ?_
    intro x hI
    refine wc_seq ?_
    refine wc_seq ?_
    refine wc_ops ?_
    refine wj_q _ (q_mv rfl) ?_
    refine wj_q _ (q_mv rfl) ?_
    refine wj_q _ (q_len rfl) ?_
    refine wj_q _ (q_bin rfl rfl rfl) ?_
    refine wj_nil ?_
    refine wc_if rfl (fun h2 => ?_) (fun h2 => ?_)
    · have hi : x.1 < len := by simpa using h2
      have hlen : len ≤ 200 := by simp at h1; omega
      have hN : x.1 < 200 := by omega
      rcases hA with h0 | ⟨bb, off, rfl, hm⟩
      · omega
      have hsell := ci_sell hI.2 hN (pr_ok hlen hsl hi).1
      refine wc_skip ?_
      refine wc_seq ?_
      refine wc_block ?_
      refine wc_seq ?_
      refine wc_ops ?_
      refine wj_q _ (q_mv rfl) ?_
      refine wj_q _ (q_mv rfl) ?_
      refine wj_q _ (q_ias rfl rfl (by omega)) ?_
      refine wj_q _ (q_memr (q := saleS (sales x.1)) (c := 0) rfl hm (by simp) (by omega) (hg x.1 hi) rfl rfl) ?_
      refine wj_q _ (q_mv rfl) ?_
      refine wj_q _ (q_mv rfl) ?_
      refine wj_q _ (q_len rfl) ?_
      refine wj_q _ (q_bin rfl rfl rfl) ?_
      refine wj_q _ (q_call rfl (fun w hw => proper_spec _ _ _ w (pr_ok hlen hsl hi).2.1 (pr_ok hlen hsl hi).2.2)) ?_
      refine wj_e (ef_al fun b8 hb8 => ?_)
      refine wj_e (ef_st rfl rfl rfl rfl rfl .here ?_)
      refine wj_nil ?_
      refine wc_seq ?_
      refine wc_ops ?_
      refine wj_q _ (q_ld rfl (.there .here) rfl) ?_
      refine wj_q _ (q_fa rfl) ?_
      refine wj_q _ (q_ld1 rfl .here rfl) ?_
      refine wj_q _ (q_fa rfl) ?_
      refine wj_q _ (q_ld1 rfl .here rfl) ?_
      refine wj_q _ (q_call rfl (fun w hw => sell_spec _ _ _ w (hs.below hw.now))) ?_
      refine wj_q _ (q_mv rfl) ?_
      refine wj_q _ (q_ext rfl rfl) ?_
      refine wj_q _ (q_ext rfl rfl) ?_
      refine wj_e (ef_st rfl rfl rfl rfl rfl (.there .here) ?_)
      refine wj_q _ (q_mv rfl) ?_
      refine wj_nil ?_
      refine wc_seq ?_
      refine wc_ops ?_
      refine wj_q _ (q_mv rfl) ?_
      refine wj_q _ (q_fa rfl) ?_
      refine wj_q _ (q_ld1 rfl .here rfl) ?_
      refine wj_q _ (q_fa rfl) ?_
      refine wj_q _ (q_ld1 rfl .here rfl) ?_
      refine wj_q _ (q_call rfl (fun w hw => cost_spec _ _ w)) ?_
      refine wj_q _ (q_bin rfl rfl rfl) ?_
      refine wj_q _ (q_mv rfl) ?_
      refine wj_nil ?_
      refine wc_seq ?_
      refine wc_seq ?_
      refine wc_ops ?_
      refine wj_q _ (q_mv rfl) ?_
      refine wj_q _ (q_bin rfl rfl rfl) ?_
      refine wj_nil ?_
      refine wc_if rfl (fun h3 => ?_) (fun h3 => ?_)
      · exact Bool.noConfusion ((show ((sellV x.2.1 (prOf sales len x.1).rides (prOf sales len x.1).price).2 != 0) = false by rw [hsell.2]; rfl).symm.trans h3)
      · refine wc_skip ?_
        refine wc_seq ?_
        refine wc_seq ?_
        refine wc_ops ?_
        refine wj_q _ (q_mv rfl) ?_
        refine wj_nil ?_
        refine wc_block ?_
        refine wc_loop2 (X := Nat × List Int × Int × Int) (fun y => [(9, .int .i64 y.1), (5, .int .i64 y.2.2.1), (6, .int .i64 y.2.2.2), (7, _), (0, _), (17, _), (18, _), (19, _), (3, _), (20, _), (21, _), (22, _), (23, _), (26, _), (27, _), (28, _), (29, _), (30, _), (31, _), (32, _), (33, _), (34, _), (8, _), (36, _), (37, _), (38, _), (39, _), (40, _), (41, _), (35, _), (42, _), (43, _), (44, _), (45, _), (46, _), (47, _), (48, _), (49, _), (50, _), (51, _), (52, _)]) (fun y => [⟨b8, _⟩, ck b3 27 (bookS y.2.1)]) (fun y => y.1 ≤ x.1 + 1 ∧ CI (prOf sales len) (x.1 + 1) x.1 y.1 y.2.1 y.2.2.1 y.2.2.2) (fun y => x.1 + 1 - y.1) (0, _, _, _) ⟨Nat.zero_le _, hsell.1⟩ (subT_look ⟨rfl, rfl, rfl, rfl, rfl, rfl, rfl, rfl, rfl, rfl, rfl, rfl, rfl, rfl, rfl, rfl, rfl, rfl, rfl, rfl, rfl, rfl, rfl, rfl, rfl, rfl, rfl, rfl, rfl, rfl, rfl, rfl, rfl, rfl, rfl, rfl, rfl, rfl, rfl, rfl, rfl, trivial⟩) ⟨0, rfl⟩ ?_
        intro y hI
        have hI2 := hI
        refine wc_seq ?_
        refine wc_seq ?_
        refine wc_ops ?_
        refine wj_q _ (q_mv rfl) ?_
        refine wj_q _ (q_mv rfl) ?_
        refine wj_q _ (q_bin rfl rfl rfl) ?_
        refine wj_nil ?_
        refine wc_if rfl (fun h4 => ?_) (fun h4 => ?_)
        · have hk0 : y.1 ≤ x.1 := by simpa using h4
          have hk : y.1 < len := by omega
          have hkm : y.1 < x.1 + 1 := by omega
          have hpk := (pr_ok hlen hsl hk).1
          have hC : ∀ j, j < x.1 + 1 → 0 ≤ costV (prOf sales len j) := fun j hj => (cost_in (pr_ok hlen hsl (show j < len by omega)).1).1
          refine wc_skip ?_
          refine wc_seq ?_
          refine wc_block ?_
          refine wc_seq ?_
          refine wc_ops ?_
          refine wj_q _ (q_mv rfl) ?_
          refine wj_q _ (q_mv rfl) ?_
          refine wj_q _ (q_ias rfl rfl (by omega)) ?_
          refine wj_q _ (q_memr (q := saleS (sales y.1)) (c := 0) rfl hm (by simp) (by omega) (hg y.1 hk) rfl rfl) ?_
          refine wj_q _ (q_mv rfl) ?_
          refine wj_q _ (q_mv rfl) ?_
          refine wj_q _ (q_len rfl) ?_
          refine wj_q _ (q_bin rfl rfl rfl) ?_
          refine wj_q _ (q_call rfl (fun w hw => proper_spec _ _ _ w (pr_ok hlen hsl hk).2.1 (pr_ok hlen hsl hk).2.2)) ?_
          refine wj_e (ef_al fun b10 hb10 => ?_)
          refine wj_e (ef_st rfl rfl rfl rfl rfl .here ?_)
          refine wj_nil ?_
          refine wc_seq ?_
          refine wc_seq ?_
          refine wc_ops ?_
          refine wj_q _ (q_fa rfl) ?_
          refine wj_q _ (q_ld1 rfl .here rfl) ?_
          refine wj_q _ (q_mv rfl) ?_
          refine wj_q _ (q_bin rfl rfl rfl) ?_
          refine wj_q _ (q_mv rfl) ?_
          refine wj_or rfl rfl rfl (fun hg1 => qj_g rfl _ (q_fa rfl) (qj_g rfl _ (q_ld1 rfl .here rfl) (qj_g rfl _ (q_bin rfl rfl rfl) (qj_nil)))) (fun hg1 => rfl) rfl ?_
          refine wj_q _ (q_mv rfl) ?_
          refine wj_or rfl rfl rfl (fun hg1 => qj_g rfl _ (q_fa rfl) (qj_g rfl _ (q_ld1 rfl .here rfl) (qj_g rfl _ (q_bin rfl rfl rfl) (qj_nil)))) (fun hg1 => rfl) rfl ?_
          refine wj_nil ?_
          refine wc_if rfl (fun h5 => ?_) (fun h5 => ?_)
          · have hsk : skipV (prOf sales len y.1) x.1 = true := h5
            refine wc_exit _ rfl ?_
            refine wc_ops ?_
            refine wj_q _ (q_mv rfl) ?_
            refine wj_q _ (q_bin rfl rfl rfl) ?_
            refine wj_q _ (q_mv rfl) ?_
            refine wj_nil ?_
            refine ⟨(y.1 + 1, _, _, _), ?_, ?_, subT_look ⟨(congrArg (fun z => some (Value.int .i64 z)) (w64_in (x := (y.1 : Int) + 1) ⟨by omega, by omega⟩)), rfl, rfl, rfl, rfl, rfl, rfl, rfl, rfl, rfl, rfl, rfl, rfl, rfl, rfl, rfl, rfl, rfl, rfl, rfl, rfl, rfl, rfl, rfl, rfl, rfl, rfl, rfl, rfl, rfl, rfl, rfl, rfl, rfl, rfl, rfl, rfl, rfl, rfl, rfl, rfl, trivial⟩, 1, rfl⟩
            · exact ⟨by simp only; omega, ci_skip hI2.2 hsk⟩
            · simp only; omega
          · have hsk : skipV (prOf sales len y.1) x.1 = false := h5
            have href := ci_refund hI2.2 (show x.1 + 1 ≤ 200 by omega) hkm hC hpk hsk
            have hret := ci_retire hI2.2 (show x.1 + 1 ≤ 200 by omega) hkm hC hpk hsk
            refine wc_skip ?_
            refine wc_seq ?_
            refine wc_ops ?_
            refine wj_q _ (q_mv rfl) ?_
            refine wj_q _ (q_fa rfl) ?_
            refine wj_q _ (q_ld1 rfl .here rfl) ?_
            refine wj_q _ (q_fa rfl) ?_
            refine wj_q _ (q_ld1 rfl .here rfl) ?_
            refine wj_q _ (q_call rfl (fun w hw => cost_spec _ _ w)) ?_
            refine wj_q _ (q_bin rfl rfl rfl) ?_
            refine wj_q _ (q_mv rfl) ?_
            refine wj_nil ?_
            refine wc_seq ?_
            refine wc_seq ?_
            refine wc_ops ?_
            refine wj_q _ (q_fa rfl) ?_
            refine wj_q _ (q_ld1 rfl .here rfl) ?_
            refine wj_q _ (q_bin rfl rfl rfl) ?_
            refine wj_nil ?_
            refine wc_if rfl (fun h6 => ?_) (fun h6 => ?_)
            · refine wc_seq ?_
              refine wc_ops ?_
              refine wj_q _ (q_ld rfl (.there (.there .here)) rfl) ?_
              refine wj_q _ (q_fa rfl) ?_
              refine wj_q _ (q_ld1 rfl .here rfl) ?_
              refine wj_q _ (q_fa rfl) ?_
              refine wj_q _ (q_ld1 rfl .here rfl) ?_
              refine wj_q _ (q_fa rfl) ?_
              refine wj_q _ (q_ld1 rfl .here rfl) ?_
              refine wj_q _ (q_call rfl (fun w hw => refund_spec _ _ _ _ w (hs.below hw.now))) ?_
              refine wj_q _ (q_mv rfl) ?_
              refine wj_q _ (q_ext rfl rfl) ?_
              refine wj_q _ (q_ext rfl rfl) ?_
              refine wj_e (ef_st rfl rfl rfl rfl rfl (.there (.there .here)) ?_)
              refine wj_q _ (q_mv rfl) ?_
              refine wj_nil ?_
              refine wc_ops ?_
              refine wj_q _ (q_mv rfl) ?_
              refine wj_q _ (q_fa rfl) ?_
              refine wj_q _ (q_ld1 rfl .here rfl) ?_
              refine wj_q _ (q_fa rfl) ?_
              refine wj_q _ (q_ld1 rfl .here rfl) ?_
              refine wj_q _ (q_bin rfl rfl rfl) ?_
              refine wj_q _ (q_fa rfl) ?_
              refine wj_q _ (q_ld1 rfl .here rfl) ?_
              refine wj_q _ (q_call rfl (fun w hw => cost_spec _ _ w)) ?_
              refine wj_q _ (q_bin rfl rfl rfl) ?_
              refine wj_q _ (q_mv rfl) ?_
              refine wj_nil ?_
              refine wc_seq ?_
              refine wc_ops ?_
              refine wj_q _ (q_mv rfl) ?_
              refine wj_q _ (q_bin rfl rfl rfl) ?_
              refine wj_nil ?_
              refine wc_if rfl (fun h7 => ?_) (fun h7 => ?_)
              · exact Bool.noConfusion ((show ((refundV y.2.1 (prOf sales len y.1).rides (prOf sales len y.1).back (prOf sales len y.1).price).2 != 0) = false by rw [href.2]; rfl).symm.trans h7)
              · refine wc_skip ?_
                refine wc_ops ?_
                refine wj_q _ (q_mv rfl) ?_
                refine wj_q _ (q_bin rfl rfl rfl) ?_
                refine wj_q _ (q_mv rfl) ?_
                refine wj_nil ?_
                refine ⟨(y.1 + 1, _, _, _), ?_, ?_, subT_look ⟨(congrArg (fun z => some (Value.int .i64 z)) (w64_in (x := (y.1 : Int) + 1) ⟨by omega, by omega⟩)), rfl, rfl, rfl, rfl, rfl, rfl, rfl, rfl, rfl, rfl, rfl, rfl, rfl, rfl, rfl, rfl, rfl, rfl, rfl, rfl, rfl, rfl, rfl, rfl, rfl, rfl, rfl, rfl, rfl, rfl, rfl, rfl, rfl, rfl, rfl, rfl, rfl, rfl, rfl, rfl, trivial⟩, 1, rfl⟩
                · exact ⟨by simp only; omega, href.1⟩
                · simp only; omega
            · refine wc_seq ?_
              refine wc_ops ?_
              refine wj_q _ (q_ld rfl (.there (.there .here)) rfl) ?_
              refine wj_q _ (q_fa rfl) ?_
              refine wj_q _ (q_ld1 rfl .here rfl) ?_
              refine wj_q _ (q_fa rfl) ?_
              refine wj_q _ (q_ld1 rfl .here rfl) ?_
              refine wj_q _ (q_call rfl (fun w hw => retire_spec _ _ _ w (hs.below hw.now))) ?_
              refine wj_q _ (q_mv rfl) ?_
              refine wj_q _ (q_ext rfl rfl) ?_
              refine wj_q _ (q_ext rfl rfl) ?_
              refine wj_e (ef_st rfl rfl rfl rfl rfl (.there (.there .here)) ?_)
              refine wj_q _ (q_mv rfl) ?_
              refine wj_nil ?_
              refine wc_ops ?_
              refine wj_q _ (q_mv rfl) ?_
              refine wj_q _ (q_fa rfl) ?_
              refine wj_q _ (q_ld1 rfl .here rfl) ?_
              refine wj_q _ (q_fa rfl) ?_
              refine wj_q _ (q_ld1 rfl .here rfl) ?_
              refine wj_q _ (q_call rfl (fun w hw => cost_spec _ _ w)) ?_
              refine wj_q _ (q_bin rfl rfl rfl) ?_
              refine wj_q _ (q_mv rfl) ?_
              refine wj_nil ?_
              refine wc_seq ?_
              refine wc_ops ?_
              refine wj_q _ (q_mv rfl) ?_
              refine wj_q _ (q_bin rfl rfl rfl) ?_
              refine wj_nil ?_
              refine wc_if rfl (fun h8 => ?_) (fun h8 => ?_)
              · exact Bool.noConfusion ((show ((retireV y.2.1 (prOf sales len y.1).rides (prOf sales len y.1).price).2 != 0) = false by rw [hret.2]; rfl).symm.trans h8)
              · refine wc_skip ?_
                refine wc_ops ?_
                refine wj_q _ (q_mv rfl) ?_
                refine wj_q _ (q_bin rfl rfl rfl) ?_
                refine wj_q _ (q_mv rfl) ?_
                refine wj_nil ?_
                refine ⟨(y.1 + 1, _, _, _), ?_, ?_, subT_look ⟨(congrArg (fun z => some (Value.int .i64 z)) (w64_in (x := (y.1 : Int) + 1) ⟨by omega, by omega⟩)), rfl, rfl, rfl, rfl, rfl, rfl, rfl, rfl, rfl, rfl, rfl, rfl, rfl, rfl, rfl, rfl, rfl, rfl, rfl, rfl, rfl, rfl, rfl, rfl, rfl, rfl, rfl, rfl, rfl, rfl, rfl, rfl, rfl, rfl, rfl, rfl, rfl, rfl, rfl, rfl, trivial⟩, 1, rfl⟩
                · exact ⟨by simp only; omega, hret.1⟩
                · simp only; omega
        · have hk1 : y.1 = x.1 + 1 := by have : ¬ y.1 ≤ x.1 := by simpa using h4
                                         omega
          refine wc_exit _ rfl ?_
          refine wc_seq ?_
          refine wc_ops ?_
          refine wj_q _ (q_ld rfl (.there .here) rfl) ?_
          refine wj_q _ (q_call rfl (fun w hw => bal_spec _ _ w (hs.below hw.now))) ?_
          refine wj_q _ (q_mv rfl) ?_
          refine wj_q _ (q_ext rfl rfl) ?_
          refine wj_q _ (q_ext rfl rfl) ?_
          refine wj_q _ (q_mv rfl) ?_
          refine wj_q _ (q_mv rfl) ?_
          refine wj_nil ?_
          refine wc_seq ?_
          refine wc_ops ?_
          refine wj_q _ (q_ld rfl (.there .here) rfl) ?_
          refine wj_q _ (q_call rfl (fun w hw => bal_spec _ _ w (hs.below hw.now))) ?_
          refine wj_q _ (q_mv rfl) ?_
          refine wj_q _ (q_ext rfl rfl) ?_
          refine wj_q _ (q_ext rfl rfl) ?_
          refine wj_q _ (q_mv rfl) ?_
          refine wj_q _ (q_mv rfl) ?_
          refine wj_nil ?_
          refine wc_seq ?_
          refine wc_ops ?_
          refine wj_q _ (q_ld rfl (.there .here) rfl) ?_
          refine wj_q _ (q_call rfl (fun w hw => bal_spec _ _ w (hs.below hw.now))) ?_
          refine wj_q _ (q_mv rfl) ?_
          refine wj_q _ (q_ext rfl rfl) ?_
          refine wj_q _ (q_ext rfl rfl) ?_
          refine wj_q _ (q_mv rfl) ?_
          refine wj_q _ (q_mv rfl) ?_
          refine wj_nil ?_
          refine wc_seq ?_
          refine wc_ops ?_
          refine wj_q _ (q_mv rfl) ?_
          refine wj_q _ (q_bin rfl rfl rfl) ?_
          refine wj_q _ (q_mv rfl) ?_
          refine wj_or rfl rfl rfl (fun hg1 => qj_g rfl _ (q_mv rfl) (qj_g rfl _ (q_bin rfl rfl rfl) (qj_nil))) (fun hg1 => rfl) rfl ?_
          refine wj_q _ (q_mv rfl) ?_
          refine wj_or rfl rfl rfl (fun hg1 => qj_g rfl _ (q_mv rfl) (qj_g rfl _ (q_bin rfl rfl rfl) (qj_nil))) (fun hg1 => rfl) rfl ?_
          refine wj_q _ (q_mv rfl) ?_
          refine wj_or rfl rfl rfl (fun hg1 => qj_g rfl _ (q_mv rfl) (qj_g rfl _ (q_mv rfl) (qj_g rfl _ (q_bin rfl rfl rfl) (qj_nil)))) (fun hg1 => rfl) rfl ?_
          refine wj_q _ (q_mv rfl) ?_
          refine wj_or rfl rfl rfl (fun hg1 => qj_g rfl _ (q_mv rfl) (qj_g rfl _ (q_mv rfl) (qj_g rfl _ (q_bin rfl rfl rfl) (qj_nil)))) (fun hg1 => rfl) rfl ?_
          refine wj_q _ (q_mv rfl) ?_
          refine wj_or rfl rfl rfl (fun hg1 => qj_g rfl _ (q_mv rfl) (qj_g rfl _ (q_mv rfl) (qj_g rfl _ (q_mv rfl) (qj_g rfl _ (q_bin rfl rfl rfl) (qj_g rfl _ (q_bin rfl rfl rfl) (qj_nil)))))) (fun hg1 => rfl) rfl ?_
          refine wj_q _ (q_mv rfl) ?_
          refine wj_or rfl rfl rfl (fun hg1 => qj_g rfl _ (q_ld rfl (.there .here) rfl) (qj_g rfl _ (q_call rfl (fun w hw => even_spec _ w (hs.below hw.now))) (qj_g rfl _ (q_un rfl rfl) (qj_nil)))) (fun hg1 => rfl) rfl ?_
          refine wj_nil ?_
          refine wc_if rfl (fun h9 => ?_) (fun h9 => ?_)
          · exact Bool.noConfusion ((ci_good (hk1 ▸ hI2.2) (show x.1 + 1 ≤ 200 by omega)).symm.trans (show carBadV y.2.1 y.2.2.1 y.2.2.2 = true from h9))
          · refine wc_skip ?_
            refine wc_ops ?_
            refine wj_q _ (q_mv rfl) ?_
            refine wj_q _ (q_bin rfl rfl rfl) ?_
            refine wj_q _ (q_mv rfl) ?_
            refine wj_nil ?_
            refine ⟨(x.1 + 1, y.2.1, y.2.2.1, y.2.2.2), ?_, ?_, subT_look ⟨(congrArg (fun z => some (Value.int .i64 z)) (w64_in (x := (x.1 : Int) + 1) ⟨by omega, by omega⟩)), rfl, rfl, rfl, rfl, rfl, rfl, rfl, trivial⟩, 1, rfl⟩
            · exact ⟨by simp only; omega, by have := hI2.2; rw [hk1] at this; exact ci_next this⟩
            · simp only; omega
    · refine wc_exit _ rfl ?_
      refine wc_seq ?_
      refine wc_ops ?_
      refine wj_q _ (q_ld rfl .here rfl) ?_
      refine wj_q _ (q_call rfl (fun w hw => even_spec _ w (hs.below hw.now))) ?_
      refine wj_q _ (q_mv rfl) ?_
      refine wj_nil ?_
      refine wc_ret ?_
      refine ⟨_, (.cons (.tmp rfl) .nil), ?_⟩
      exact congrArg Value.bool (ci_even hI.2 (by have h3 := hI.1; have h4 := h1; simp at h4; omega))
end Go.Proofs.YtdelljcdaepgiaaDoor
