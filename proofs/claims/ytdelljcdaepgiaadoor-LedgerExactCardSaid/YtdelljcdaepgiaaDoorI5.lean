/- LedgerExact walked. -/
import Derived.Test.YtdelljcdaepgiaaDoorP1
import Derived.Test.YtdelljcdaepgiaaDoorI4
namespace Go.Proofs.YtdelljcdaepgiaaDoor
open Go Go.Sx Go.RowKit
set_option linter.all false

/-- A book of three numbers that an int64 holds. -/
structure Bk (b : List Int) : Prop where
  ex : ∃ x y z, b = [x, y, z] ∧ I64 x ∧ I64 y ∧ I64 z
structure OpIn (o : LOp) : Prop where
  debit : I64 o.debit
  credit : I64 o.credit
  amount : I64 o.amount
  rides : I64 o.rides
  back : I64 o.back
  price : I64 o.price
theorem wrong_iff {a : Int} (n : Int) (ha : 0 ≤ a ∧ a < 3) : wrongV a n = true ↔ ¬ right a n := by
  unfold wrongV right
  by_cases h0 : a = 0
  · subst h0; simp
  · rw [if_neg (by simpa using h0), if_neg h0]; simp
theorem rpost_eq {b : List Int} (hb : Bk b) {d c m : Int} (hm : I64 m) : rpostV b d c m = postV b d c m := by
  obtain ⟨x, y, z, rfl, hx, hy, hz⟩ := hb.ex
  obtain ⟨hr, he⟩ := post_of (d := d) (c := c) hx hy hz hm
  unfold rpostV
  have hbad : rpBad d c m = true ↔ ¬ ((0 ≤ d ∧ d < 3) ∧ (0 ≤ c ∧ c < 3) ∧ d ≠ c ∧ 0 ≤ m) := by simp [rpBad, isAccR]; omega
  by_cases h1 : rpBad d c m = true
  · rw [if_pos h1]
    rw [if_pos (hbad.1 h1)] at he
    generalize postV [x, y, z] d c m = p at hr he
    cases hr with
    | bad e _ => simp at he; rw [he]
    | ok => simp at he
  · have h1' := Classical.not_not.1 (fun h => h1 (hbad.2 h))
    rw [if_neg h1]
    rw [if_neg (Classical.not_not.2 h1')] at he
    obtain ⟨hd, hc, hne, h0⟩ := h1'
    have hacc : ∀ a, I64 (acc x y z a) := fun a => by unfold acc; split; exact hx; split; exact hy; exact hz
    have ed : rpD [x, y, z] d m = plusV (acc x y z d) m := by unfold rpD; rw [getD_acc x y z hd]
    have ec : rpC [x, y, z] c m = minusV (acc x y z c) m := by unfold rpC; rw [getD_acc x y z hc]
    have hp : ∀ n, I64 n → (((plusV n m).2 = true ↔ n + m ≤ 9223372036854775807) ∧ ((plusV n m).2 = true → (plusV n m).1 = n + m)) := by
      intro n hn
      have hv : n > 0 → w64 (9223372036854775807 - n) = 9223372036854775807 - n := fun h => w64_in ⟨by have := hn.2; omega, by omega⟩
      unfold plusV
      by_cases hb : plusBad n m = true
      · rw [if_pos hb]
        simp only [plusBad, Bool.and_eq_true, decide_eq_true_eq] at hb
        rw [hv hb.1] at hb
        simp; omega
      · rw [if_neg hb]
        simp only [plusBad, Bool.and_eq_true, decide_eq_true_eq, not_and] at hb
        have hle : n + m ≤ 9223372036854775807 := by
          by_cases hpos : n > 0
          · have := hb hpos; rw [hv hpos] at this; omega
          · have := hm.2; omega
        exact ⟨by simp [hle], fun _ => w64_in ⟨by have := hn.1; omega, hle⟩⟩
    have hq : ∀ n, I64 n → (((minusV n m).2 = true ↔ -9223372036854775808 ≤ n - m) ∧ ((minusV n m).2 = true → (minusV n m).1 = n - m)) := by
      intro n hn
      have hv : n < 0 → w64 (n - -9223372036854775808) = n - -9223372036854775808 := fun h => w64_in ⟨by have := hn.1; omega, by omega⟩
      unfold minusV
      by_cases hb : minusBad n m = true
      · rw [if_pos hb]
        simp only [minusBad, Bool.and_eq_true, decide_eq_true_eq] at hb
        rw [hv hb.1] at hb
        simp; omega
      · rw [if_neg hb]
        simp only [minusBad, Bool.and_eq_true, decide_eq_true_eq, not_and] at hb
        have hle : -9223372036854775808 ≤ n - m := by
          by_cases hpos : n < 0
          · have := hb hpos; rw [hv hpos] at this; omega
          · have := hm.2; omega
        exact ⟨by simp [hle], fun _ => w64_in ⟨hle, by have := hn.2; omega⟩⟩
    obtain ⟨p1, p2⟩ := hp _ (hacc d)
    obtain ⟨q1, q2⟩ := hq _ (hacc c)
    have hmiss : rpMiss [x, y, z] d c m = true ↔ ¬ ((-9223372036854775808 < acc x y z d + m ∧ acc x y z d + m ≤ 9223372036854775807) ∧ (-9223372036854775808 < acc x y z c - m ∧ acc x y z c - m ≤ 9223372036854775807)) := by
      unfold rpMiss
      rw [ed, ec]
      have g1 := hacc d
      have g2 := hacc c
      cases hp2 : (plusV (acc x y z d) m).2 with
      | false =>
        have : ¬ acc x y z d + m ≤ 9223372036854775807 := fun h => by rw [p1.2 h] at hp2; cases hp2
        simp; omega
      | true =>
        have t1 := p1.1 hp2
        cases hq2 : (minusV (acc x y z c) m).2 with
        | false =>
          have : ¬ -9223372036854775808 ≤ acc x y z c - m := fun h => by rw [q1.2 h] at hq2; cases hq2
          simp; omega
        | true =>
          have t2 := q1.1 hq2
          rw [p2 hp2, q2 hq2]
          have := g2.2
          have := g1.1
          simp [fitsV]
          omega
    by_cases h2 : rpMiss [x, y, z] d c m = true
    · rw [if_pos h2]
      rw [if_pos (hmiss.1 h2)] at he
      generalize postV [x, y, z] d c m = p at hr he
      cases hr with
      | bad e _ => simp at he; rw [he]
      | ok => simp at he
    · have h2' := Classical.not_not.1 (fun h => h2 (hmiss.2 h))
      rw [if_neg h2]
      rw [if_neg (Classical.not_not.2 h2')] at he
      have v1 : (rpD [x, y, z] d m).1 = acc x y z d + m := by rw [ed]; exact p2 (p1.2 h2'.1.2)
      have v2 : (rpC [x, y, z] c m).1 = acc x y z c - m := by rw [ec]; exact q2 (q1.2 (by omega))
      have hw : rpWrong [x, y, z] d c m = true ↔ ¬ (right d (acc x y z d + m) ∧ right c (acc x y z c - m)) := by
        unfold rpWrong
        rw [v1, v2, Bool.or_eq_true, wrong_iff _ hd, wrong_iff _ hc]
        exact Decidable.not_and_iff_not_or_not.symm
      by_cases h3 : rpWrong [x, y, z] d c m = true
      · rw [if_pos h3]
        rw [if_pos (hw.1 h3)] at he
        generalize postV [x, y, z] d c m = p at hr he
        cases hr with
        | bad e _ => simp at he; rw [he]
        | ok => simp at he
      · have h3' := Classical.not_not.1 (fun h => h3 (hw.2 h))
        rw [if_neg h3]
        rw [if_neg (Classical.not_not.2 h3')] at he
        rw [v1, v2, postOut_eq hd hc hne]
        generalize postV [x, y, z] d c m = p at hr he
        cases hr with
        | bad e h => simp at he; exact absurd he h
        | ok =>
          rcases acc3 hd with rfl | rfl | rfl <;> rcases acc3 hc with rfl | rfl | rfl <;> first | (exact absurd rfl hne) | rfl

theorem post_bk {b : List Int} (hb : Bk b) {d c m : Int} (hm : I64 m) : Bk (postV b d c m).1 := by
  obtain ⟨x, y, z, rfl, hx, hy, hz⟩ := hb.ex
  obtain ⟨hr, _⟩ := post_of (d := d) (c := c) hx hy hz hm
  generalize postV [x, y, z] d c m = p at hr
  cases hr with
  | bad e he => exact ⟨x, y, z, rfl, hx, hy, hz⟩
  | ok hd hc hne h0 r1 r2 s1 s2 =>
    refine ⟨_, _, _, rfl, ?_⟩
    unfold I64 at *
    rcases acc3 hd with rfl | rfl | rfl <;> rcases acc3 hc with rfl | rfl | rfl <;> simp [acc] at * <;> omega
theorem car_may (r p : Int) : (carV r p).2 = mayV r p ∧ (mayV r p = true → (carV r p).1 = w64 (r * p)) := by
  unfold carV
  have : carBad r p = !mayV r p := by
    unfold carBad mayV
    rw [Bool.eq_iff_iff]
    simp
  rw [this]
  cases mayV r p <;> simp
theorem sell_eq {b : List Int} (hb : Bk b) (r p : Int) : rsellV b r p = sellV b r p := by
  unfold rsellV sellV
  obtain ⟨h1, h2⟩ := car_may r p
  rw [h1]
  cases hm : mayV r p with
  | false => rfl
  | true => rw [h2 hm, rpost_eq hb (w64_I64 _)]
theorem retire_eq {b : List Int} (hb : Bk b) (r p : Int) : rretireV b r p = retireV b r p := by
  unfold rretireV retireV
  obtain ⟨h1, h2⟩ := car_may r p
  rw [h1]
  cases hm : mayV r p with
  | false => rfl
  | true => rw [h2 hm, rpost_eq hb (w64_I64 _)]
theorem mul_range {r p : Int} (h1 : 0 ≤ r) (h2 : r ≤ 4096) (h3 : 0 ≤ p) (h4 : p ≤ 1000000000) : 0 ≤ r * p ∧ r * p ≤ 4096000000000 :=
  ⟨Int.mul_nonneg h1 h3, by have := Int.mul_le_mul h2 h4 h3 (by decide : (0 : Int) ≤ 4096); simpa using this⟩
theorem mul_in {r p : Int} (h1 : 0 ≤ r) (h2 : r ≤ 4096) (h3 : 0 ≤ p) (h4 : p ≤ 1000000000) : w64 (r * p) = r * p := by
  have := mul_range h1 h2 h3 h4
  exact w64_in ⟨by omega, by omega⟩
theorem may_iff {r p : Int} : mayV r p = true ↔ (1 ≤ r ∧ r ≤ 4096) ∧ 0 ≤ p ∧ p ≤ 1000000000 := by
  simp [mayV]; omega
theorem refund_eq {b : List Int} (hb : Bk b) (r k p : Int) : rrefundV b r k p = refundV b r k p := by
  unfold rrefundV refundV
  obtain ⟨h1, h2⟩ := car_may r p
  have hbad : refBad r k p = rrefBad r k p := by unfold refBad rrefBad; rw [h1]
  rw [hbad]
  by_cases hb2 : rrefBad r k p = true
  · rw [if_pos hb2, if_pos hb2]
  · rw [if_neg hb2, if_neg hb2]
    simp only [rrefBad, Bool.or_eq_true, Bool.not_eq_true', decide_eq_true_eq, not_or, Bool.not_eq_false] at hb2
    obtain ⟨⟨hmay, hk0⟩, hkr⟩ := hb2
    obtain ⟨⟨a1, a2⟩, a3, a4⟩ := may_iff.1 hmay
    have e1 : w64 (k * p) = k * p := mul_in (by omega) (by omega) a3 a4
    have e2 : w64 (r * p) = r * p := mul_in (by omega) a2 a3 a4
    have e3 : w64 (r - k) = r - k := w64_in ⟨by omega, by omega⟩
    have e4 : w64 ((r - k) * p) = (r - k) * p := mul_in (by omega) (by omega) a3 a4
    have e5 : ref1 b r k p = rref1 b r k p := by
      unfold ref1 rref1
      rw [h2 hmay, e1, e2, e3, e4, ← Int.sub_mul, e4]
      rw [rpost_eq hb (by rw [← e4]; exact w64_I64 _)]
    have hb1 : Bk (rref1 b r k p).1 := by rw [← e5]; exact post_bk hb (w64_I64 _)
    have e6 : ref2 b r k p = rref2 b r k p := by
      unfold ref2 rref2
      rw [e5, rpost_eq hb1 (w64_I64 _)]
    rw [e5, e6]
theorem mine_eq {b : List Int} (hb : Bk b) {o : LOp} (ho : OpIn o) : mineV b o = wantedV b o := by
  unfold mineV wantedV
  rw [rpost_eq hb ho.amount, sell_eq hb, refund_eq hb, retire_eq hb]
theorem mine_bk {b : List Int} (hb : Bk b) {o : LOp} (ho : OpIn o) : Bk (mineV b o).1 := by
  unfold mineV
  split
  · exact post_bk hb ho.amount
  split
  · unfold sellV; split
    · exact hb
    · exact post_bk hb (carV_I64 _ _)
  split
  · unfold refundV; split
    · exact hb
    split
    · exact hb
    split
    · exact hb
    · exact post_bk (post_bk hb (w64_I64 _)) (w64_I64 _)
  split
  · unfold retireV; split
    · exact hb
    · exact post_bk hb (carV_I64 _ _)
  · exact hb
theorem bal_eq {b : List Int} (hb : Bk b) (a : Int) : balV b a = rbalV b a := by
  obtain ⟨x, y, z, rfl, hx, hy, hz⟩ := hb.ex
  unfold balV rbalV
  have e1 : isAcc a = isAccR a := by unfold isAcc isAccR; rw [Bool.eq_iff_iff]; simp; omega
  rw [e1]
  cases h1 : isAccR a with
  | false => rfl
  | true =>
    have ha : 0 ≤ a ∧ a < 3 := raccArg (by rw [h1]; rfl)
    rw [getD_acc x y z ha]
    have hn : I64 (acc x y z a) := by unfold acc; split; exact hx; split; exact hy; exact hz
    by_cases hm : acc x y z a = -9223372036854775808
    · simp [hm]
    · have hm2 : (acc x y z a == -9223372036854775808) = false := by simpa using hm
      rw [hm2]
      rcases acc3 ha with rfl | rfl | rfl
      · show (w64 (1 * _), (0 : Int)) = (_, 0)
        rw [mulOne _ hn]
      · show (w64 (-1 * _), (0 : Int)) = (w64 (0 - _), 0)
        rw [show ∀ q : Int, -1 * q = 0 - q from fun q => by omega]
      · show (w64 (-1 * _), (0 : Int)) = (w64 (0 - _), 0)
        rw [show ∀ q : Int, -1 * q = 0 - q from fun q => by omega]
theorem even_eq {b : List Int} (hb : Bk b) : evenV b = revenV b := by
  have hbad : ∀ a, (0 ≤ a ∧ a < 3) → evenBad b a = revenBad b a := by
    intro a ha
    obtain ⟨x, y, z, rfl, hx, hy, hz⟩ := hb.ex
    have hn : I64 (acc x y z a) := by unfold acc; split; exact hx; split; exact hy; exact hz
    unfold evenBad revenBad balV
    have e1 : (!isAcc a) = false := by simp [isAcc]; omega
    rw [if_neg (by rw [e1]; decide), getD_acc x y z ha]
    by_cases hm : acc x y z a = -9223372036854775808
    · simp [hm, fitsV]
    · have hm2 : (acc x y z a == -9223372036854775808) = false := by simpa using hm
      rw [hm2]
      have := side_wrong ha hn hm
      have h0 : ((0 : Int) != 0) = false := rfl
      simp only [Bool.false_eq_true, if_false, this, fitsV, bne, hm2, h0]
      have := wrong_iff (acc x y z a) ha
      rw [Bool.eq_iff_iff]
      simp [this]
  unfold evenV revenV
  rw [hbad 0 (by decide), hbad 1 (by decide), hbad 2 (by decide)]
def lexBad (b : List Int) (o : LOp) : Bool := (!listEq (mineV b o).1 (wantedV b o).1) || ((mineV b o).2 != (wantedV b o).2) || !asksV (wantedV b o).1 o
theorem lex_ok {b : List Int} (hb : Bk b) {o : LOp} (ho : OpIn o) : lexBad b o = false := by
  unfold lexBad asksV
  rw [← mine_eq hb ho, bal_eq (mine_bk hb ho), even_eq (mine_bk hb ho)]
  simp [listEq_rfl]
theorem even0 : evenV (List.replicate 3 0) = true := even_of ⟨0, 0, 0, rfl, by decide, by decide, by decide, by decide, by decide⟩
theorem lex_spec (b : List Int) (a : Option Addr) (len cap : Nat) (g : Nat → List Value) (ops : Nat → LOp) (w : World) (hs : SideAt w) (hlc : len ≤ cap) (hmax : len ≤ 9223372036854775807) (hA : len = 0 ∨ ∃ bb off, a = some ⟨bb, off, none⟩ ∧ Mem w bb off [.rows 7 cap g]) (hg : ∀ i, i < len → g i = cells (opS (ops i)) ∧ OpIn (ops i)) (hb : Bk b) : Calls Tryd.prog 5 [agg (bookS b), .slice a len cap].toArray w (ret1 w (.bool true)) := by
  refine calls_val mo ok5 rfl ?_
  refine wc_seq ?_
  refine wc_ops ?_
  refine wj_e (ef_bx rfl fun b2 hb2 => ?_)
  refine wj_q _ (q_mv rfl) ?_
  refine wj_nil ?_
  refine wc_seq ?_
  refine wc_seq ?_
  refine wc_ops ?_
  refine wj_q _ (q_bd BdR.nil) ?_
  refine wj_q _ (q_call rfl (fun w hw => even_spec _ w (hs.below hw.now))) ?_
  refine wj_q _ (q_un rfl rfl) ?_
  refine wj_nil ?_
  refine wc_if rfl (fun h1 => ?_) (fun h1 => ?_)
  · exact Bool.noConfusion ((congrArg not even0).symm.trans h1)
  · refine wc_skip ?_
    refine wc_seq ?_
    refine wc_seq ?_
    refine wc_ops ?_
    refine wj_q _ (q_mv rfl) ?_
    refine wj_nil ?_
    refine wc_block ?_
    refine wc_loop2 (X := Nat × List Int) (fun x => [(5, .int .i64 x.1), (0, _), (1, _), (2, _), (11, _), (12, _), (13, _)]) (fun x => [ck b2 27 (bookS x.2)]) (fun x => x.1 ≤ len ∧ Bk x.2) (fun x => len - x.1) (0, b) ⟨by simp, hb⟩ (subT_look ⟨rfl, rfl, rfl, rfl, rfl, rfl, rfl, trivial⟩) ⟨0, rfl⟩ ?_
    intro x hI
    refine wc_seq ?_
    refine wc_seq ?_
    refine wc_ops ?_
    refine wj_q _ (q_mv rfl) ?_
    refine wj_q _ (q_mv rfl) ?_
    refine wj_q _ (q_len rfl) ?_
    refine wj_q _ (q_bin rfl rfl rfl) ?_
    refine wj_nil ?_
    refine wc_if rfl (fun h2 => ?_) (fun h2 => ?_)
    · have hi : x.1 < len := by simpa using h2
      rcases hA with h0 | ⟨bb, off, rfl, hm⟩
      · omega
      refine wc_skip ?_
      refine wc_seq ?_
      refine wc_block ?_
      refine wc_seq ?_
      refine wc_ops ?_
      refine wj_q _ (q_mv rfl) ?_
      refine wj_q _ (q_mv rfl) ?_
      refine wj_q _ (q_ias rfl rfl (by omega)) ?_
      refine wj_q _ (q_memr (q := opS (ops x.1)) (c := 0) rfl hm (by simp) (by omega) (hg x.1 hi).1 rfl rfl) ?_
      refine wj_e (ef_al fun b6 hb6 => ?_)
      refine wj_e (ef_st rfl rfl rfl rfl rfl .here ?_)
      refine wj_nil ?_
      refine wc_seq ?_
      refine wc_ops ?_
      refine wj_q _ (q_ld rfl (.there .here) rfl) ?_
      refine wj_q _ (q_ld rfl .here rfl) ?_
      refine wj_q _ (q_call rfl (fun w hw => mine_spec _ _ w (hs.below hw.now))) ?_
      refine wj_q _ (q_mv rfl) ?_
      refine wj_q _ (q_ext rfl rfl) ?_
      refine wj_q _ (q_ext rfl rfl) ?_
      refine wj_e (ef_al fun b7 hb7 => ?_)
      refine wj_e (ef_st rfl rfl rfl rfl rfl .here ?_)
      refine wj_q _ (q_mv rfl) ?_
      refine wj_nil ?_
      refine wc_seq ?_
      refine wc_ops ?_
      refine wj_q _ (q_ld rfl (.there (.there .here)) rfl) ?_
      refine wj_q _ (q_ld rfl (.there .here) rfl) ?_
      refine wj_q _ (q_call rfl (fun w hw => wanted_spec _ _ w)) ?_
      refine wj_q _ (q_mv rfl) ?_
      refine wj_q _ (q_ext rfl rfl) ?_
      refine wj_q _ (q_ext rfl rfl) ?_
      refine wj_e (ef_al fun b9 hb9 => ?_)
      refine wj_e (ef_st rfl rfl rfl rfl rfl .here ?_)
      refine wj_q _ (q_mv rfl) ?_
      refine wj_nil ?_
      refine wc_seq ?_
      refine wc_seq ?_
      refine wc_ops ?_
      refine wj_q _ (q_ld rfl (.there .here) rfl) ?_
      refine wj_q _ (q_ld rfl .here rfl) ?_
      refine wj_q _ (q_eqa rfl rfl rfl rfl _ (listEq_cells _ _)) ?_
      refine wj_q _ (q_mv rfl) ?_
      refine wj_or rfl rfl rfl (fun hg1 => qj_g rfl _ (q_mv rfl) (qj_g rfl _ (q_mv rfl) (qj_g rfl _ (q_bin rfl rfl rfl) (qj_nil)))) (fun hg1 => rfl) rfl ?_
      refine wj_q _ (q_mv rfl) ?_
      refine wj_or rfl rfl rfl (fun hg1 => qj_g rfl _ (q_ld rfl .here rfl) (qj_g rfl _ (q_ld rfl (.there (.there .here)) rfl) (qj_g rfl _ (q_call rfl (fun w hw => asks_spec _ _ w (hs.below hw.now))) (qj_g rfl _ (q_un rfl rfl) (qj_nil))))) (fun hg1 => rfl) rfl ?_
      refine wj_nil ?_
      refine wc_if rfl (fun h3 => ?_) (fun h3 => ?_)
      · exact Bool.noConfusion ((lex_ok hI.2 (hg x.1 hi).2).symm.trans (show lexBad x.2 (ops x.1) = true from h3))
      · refine wc_skip ?_
        refine wc_ops ?_
        refine wj_q _ (q_ld rfl .here rfl) ?_
        refine wj_e (ef_st rfl rfl rfl rfl rfl (.there (.there (.there .here))) ?_)
        refine wj_nil ?_
        refine wc_ops ?_
        refine wj_q _ (q_mv rfl) ?_
        refine wj_q _ (q_bin rfl rfl rfl) ?_
        refine wj_q _ (q_mv rfl) ?_
        refine wj_nil ?_
        exact ⟨(x.1 + 1, (wantedV x.2 (ops x.1)).1), ⟨hi, mine_eq hI.2 (hg _ hi).2 ▸ mine_bk hI.2 (hg _ hi).2⟩, (by simp only; omega), subT_look ⟨(congrArg (fun z => some (Value.int .i64 z)) (w64_in (x := (x.1 : Int) + 1) ⟨by omega, by omega⟩)), rfl, rfl, rfl, rfl, rfl, rfl, trivial⟩, 3, rfl⟩
    · refine wc_exit _ rfl ?_
      refine wc_seq ?_
      refine wc_ops ?_
      refine wj_q _ (q_mv rfl) ?_
      refine wj_nil ?_
      refine wc_ret ?_
      refine ⟨_, (.cons (.tmp rfl) .nil), ?_⟩
      rfl
end Go.Proofs.YtdelljcdaepgiaaDoor
