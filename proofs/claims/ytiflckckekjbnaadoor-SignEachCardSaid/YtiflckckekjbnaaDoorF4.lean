/- The field: the product, at last; sums, differences. -/
import Derived.Test.YtiflckckekjbnaaDoorF3
namespace Go.Proofs.YtiflckckekjbnaaDoor
open Go Go.Sx Go.RowKit
set_option linter.all false
set_option maxRecDepth 100000

theorem U5.mk5 {d0 d1 d2 d3 d4 : Int} (h0 : 0 ≤ d0 ∧ d0 < 18446744073709551616) (h1 : 0 ≤ d1 ∧ d1 < 18446744073709551616) (h2 : 0 ≤ d2 ∧ d2 < 18446744073709551616) (h3 : 0 ≤ d3 ∧ d3 < 18446744073709551616) (h4 : 0 ≤ d4 ∧ d4 < 18446744073709551616) : U5 [d0, d1, d2, d3, d4] :=
  ⟨h0.1, h1.1, h2.1, h3.1, h4.1, h0.2, h1.2, h2.2, h3.2, h4.2⟩
theorem mul_last {c d0 d1 d2 d3 d4 : Int} (hc : 0 ≤ c ∧ c < 900000000000000000)
    (h0 : 0 ≤ d0 ∧ d0 < 2251799813685248) (h1 : 0 ≤ d1 ∧ d1 < 2251799813685248) (h2 : 0 ≤ d2 ∧ d2 < 2251799813685248) (h3 : 0 ≤ d3 ∧ d3 < 2251799813685248) (h4 : 0 ≤ d4 ∧ d4 < 2251799813685248) :
    (opt (field_wide_add (List.replicate 2 0) 0 2 c 19) fun y1819 =>
      bnd (y1819.getD 1 0) fun z1823 =>
      bnd ([d0, d1, d2, d3, d4].getD 0 0) fun z1824 =>
      chk (addOk z1823 z1824 0) <|
      bnd (addLo z1823 z1824 0) fun z1826 =>
      bnd (addHi z1823 z1824 0) fun z1827 =>
      bnd (bitsV .and .u64 z1826 2251799813685247) fun z1829 =>
      bnd (setD [d0, d1, d2, d3, d4] 0 z1829) fun l1830 =>
      bnd (l1830.getD 1 0) fun z1832 =>
      bnd (y1819.getD 0 0) fun z1833 =>
      bnd (IntKind.wrap .u64 (z1833 + z1827)) fun z1834 =>
      bnd (shlV .u64 z1834 13) fun z1835 =>
      bnd (shrV .u64 z1826 51) fun z1836 =>
      bnd (bitsV .or .u64 z1835 z1836) fun z1837 =>
      bnd (IntKind.wrap .u64 (z1832 + z1837)) fun z1838 =>
      bnd (setD l1830 1 z1838) fun l1839 =>
      opt (field_reduce l1839) fun y1841 =>
      some y1841) = some (fdig ((d0 + d1 * 2251799813685248 + d2 * 5070602400912917605986812821504 + d3 * 11417981541647679048466287755595961091061972992 + d4 * 25711008708143844408671393477458601640355247900524685364822016 + 19 * c) % PP)) := by
  have hw : field_wide_add (List.replicate 2 0) 0 2 c 19 = some [hi64 (0 + c * 19), lo64 (0 + c * 19)] := wadd_eq (s := 0) (by decide) rfl rfl (by decide) (by omega) (by omega) (by omega)
  rw [opt_some hw]
  simp only [bnd_eq, List.getD_cons_zero, List.getD_cons_succ]
  have hl : lo64 (0 + c * 19) = c * 19 % 18446744073709551616 := by unfold lo64; rw [Int.zero_add]
  have hh : hi64 (0 + c * 19) = c * 19 / 18446744073709551616 := by unfold hi64; rw [Int.zero_add]
  rw [hl, hh]
  have hlt : c * 19 < 18446744073709551616 := by omega
  rw [Int.emod_eq_of_lt (by omega) hlt, Int.ediv_eq_zero_of_lt (by omega) hlt]
  rw [chk_t (by simp [addOk]; omega)]
  simp only [addLo_eq, addHi_eq, Int.add_zero, Int.zero_add]
  rw [Int.emod_eq_of_lt (a := c * 19 + d0) (by omega) (by omega), Int.ediv_eq_zero_of_lt (a := c * 19 + d0) (by omega) (by omega)]
  have ew : IntKind.wrap .u64 0 = 0 := by decide
  rw [ew, shr51, shl13, and51 (by omega) (by omega)]
  have e0 : (0 : Int) * 8192 % 18446744073709551616 = 0 := by decide
  rw [e0, or_add 13 (x := 0) (a := 0) (by simp) (by omega) (by omega) (by omega) (by omega), Int.zero_add]
  have hs1 : setD [d0, d1, d2, d3, d4] 0 ((c * 19 + d0) % 2251799813685248) = [(c * 19 + d0) % 2251799813685248, d1, d2, d3, d4] := rfl
  rw [hs1]
  simp only [List.getD_cons_zero, List.getD_cons_succ]
  rw [wu64_small (by omega) (by omega)]
  have hs2 : setD [(c * 19 + d0) % 2251799813685248, d1, d2, d3, d4] 1 (d1 + (c * 19 + d0) / 2251799813685248) = [(c * 19 + d0) % 2251799813685248, d1 + (c * 19 + d0) / 2251799813685248, d2, d3, d4] := rfl
  rw [hs2, opt_some (reduce_eq (U5.mk5 (by omega) (by omega) (by omega) (by omega) (by omega)))]
  unfold fred
  congr 3
  simp only [fval, List.getD_cons_zero, List.getD_cons_succ]
  omega
theorem C5.le {x : List Int} (h : C5 x 262144) : ∀ j, j < 5 → 0 ≤ x.getD j 0 ∧ x.getD j 0 ≤ 2251799813947392 := by
  have ⟨a0, a1, a2, a3, a4, b0, b1, b2, b3, b4⟩ := h
  intro j hj
  match j, hj with
  | 0, _ => omega
  | 1, _ => omega
  | 2, _ => omega
  | 3, _ => omega
  | 4, _ => omega
theorem mul_eq {x y : List Int} (hx : U5 x) (hy : U5 y) : field_Mul x y = some (fdig (fval x * fval y % PP)) := by
  have cx := (car_C hx).le
  have cy := (car_C hy).le
  rw [field_Mul, opt_some (carry_eq hx), opt_some (carry_eq hy), jn_eq, mul_outer cx cy, jn_eq]
  have hb := msum_bd cx cy
  obtain ⟨q, hq⟩ := msum_val (carL x) (carL y)
  have hm : fval x * fval y % PP = fval (carL x) * fval (carL y) % PP := by
    rw [Int.mul_emod, ← car_mod (x := x), ← car_mod (x := y), ← Int.mul_emod]
  rw [hm, hq, Int.add_mul_emod_self_right]
  generalize msum (carL x) (carL y) = S at *
  obtain ⟨n, hn⟩ : ∃ n, big = n + 1 + 1 + 1 + 1 + 1 + 1 := ⟨18446744073709551610, big_eq⟩
  generalize hkk : (fun (i1740 : Int) (a1741 : List Int) => _) = kk
  have step : ∀ (n i : Nat) (c : Int) (out : List Int), i < 5 → (0 ≤ c ∧ c < 18446744073709551616) → field_Mul_l3 (srow S) kk (n + 1) (i : Int) c out = field_Mul_l3 (srow S) kk n ((i + 1 : Nat) : Int) ((S i + c) / 2251799813685248) (setD out i ((S i + c) % 2251799813685248)) := by
    intro n i c out hi hc
    rw [field_Mul_l3, mul_carry hi (hb i hi) hc]
  have c0 := hb 0 (by decide)
  have c1 := hb 1 (by decide)
  have c2 := hb 2 (by decide)
  have c3 := hb 3 (by decide)
  have c4 := hb 4 (by decide)
  have k1 : ∃ d, (S 0 + 0) % 2251799813685248 = d ∧ (0 ≤ d ∧ d < 2251799813685248) := ⟨_, rfl, by omega⟩
  have s0 := step (n + 1 + 1 + 1 + 1 + 1) 0 0 (List.replicate 5 0) (by decide) (by decide)
  generalize hd0 : (S 0 + 0) % 2251799813685248 = d0 at s0
  generalize hv0 : (S 0 + 0) / 2251799813685248 = v0 at s0
  have s1 := step (n + 1 + 1 + 1 + 1) 1 v0 (setD (List.replicate 5 0) 0 d0) (by decide) (by omega)
  generalize hd1 : (S 1 + v0) % 2251799813685248 = d1 at s1
  generalize hv1 : (S 1 + v0) / 2251799813685248 = v1 at s1
  have s2 := step (n + 1 + 1 + 1) 2 v1 (setD (setD (List.replicate 5 0) 0 d0) 1 d1) (by decide) (by omega)
  generalize hd2 : (S 2 + v1) % 2251799813685248 = d2 at s2
  generalize hv2 : (S 2 + v1) / 2251799813685248 = v2 at s2
  have s3 := step (n + 1 + 1) 3 v2 (setD (setD (setD (List.replicate 5 0) 0 d0) 1 d1) 2 d2) (by decide) (by omega)
  generalize hd3 : (S 3 + v2) % 2251799813685248 = d3 at s3
  generalize hv3 : (S 3 + v2) / 2251799813685248 = v3 at s3
  have s4 := step (n + 1) 4 v3 (setD (setD (setD (setD (List.replicate 5 0) 0 d0) 1 d1) 2 d2) 3 d3) (by decide) (by omega)
  generalize hd4 : (S 4 + v3) % 2251799813685248 = d4 at s4
  generalize hv4 : (S 4 + v3) / 2251799813685248 = v4 at s4
  have hout : setD (setD (setD (setD (setD (List.replicate 5 0) 0 d0) 1 d1) 2 d2) 3 d3) 4 d4 = [d0, d1, d2, d3, d4] := rfl
  rw [hout] at s4
  have s5 : field_Mul_l3 (srow S) kk (n + 1) ((4 + 1 : Nat) : Int) v4 [d0, d1, d2, d3, d4] = kk v4 [d0, d1, d2, d3, d4] := by rw [field_Mul_l3, field_Mul_b3, br_ff (by decide)]
  subst hkk
  have s5 := s5.trans (mul_last (c := v4) (d0 := d0) (d1 := d1) (d2 := d2) (d3 := d3) (d4 := d4) (by omega) (by omega) (by omega) (by omega) (by omega) (by omega))
  rw [← hn] at s0
  refine s0.trans (s1.trans (s2.trans (s3.trans (s4.trans (s5.trans ?_)))))
  congr 2
  clear s0 s1 s2 s3 s4 s5 step hout hb hn k1 cx cy
  have e0 : S 0 = v0 * 2251799813685248 + d0 := by omega
  have e1 : S 1 + v0 = v1 * 2251799813685248 + d1 := by omega
  have e2 : S 2 + v1 = v2 * 2251799813685248 + d2 := by omega
  have e3 : S 3 + v2 = v3 * 2251799813685248 + d3 := by omega
  have e4 : S 4 + v3 = v4 * 2251799813685248 + d4 := by omega
  clear hd0 hd1 hd2 hd3 hd4 hv0 hv1 hv2 hv3 hv4
  have key : S 0 + S 1 * 2251799813685248 + S 2 * 5070602400912917605986812821504 + S 3 * 11417981541647679048466287755595961091061972992 + S 4 * 25711008708143844408671393477458601640355247900524685364822016 =
      d0 + d1 * 2251799813685248 + d2 * 5070602400912917605986812821504 + d3 * 11417981541647679048466287755595961091061972992 + d4 * 25711008708143844408671393477458601640355247900524685364822016 + 19 * v4 + v4 * PP := by
    simp only [PP]; omega
  rw [key, Int.add_mul_emod_self_right]
theorem square_eq {x : List Int} (hx : U5 x) : field_Square x = some (fdig (fval x * fval x % PP)) := by
  rw [field_Square, opt_some (mul_eq hx hx)]
end Go.Proofs.YtiflckckekjbnaaDoor
