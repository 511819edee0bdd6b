/- The field: sums, differences, comparisons, powers. -/
import Derived.Test.YtiflckckekjbnaaDoorF4
namespace Go.Proofs.YtiflckckekjbnaaDoor
open Go Go.Sx Go.RowKit
set_option linter.all false
set_option maxRecDepth 100000

/-- The limbs of a number modulo 2^255-19. -/
def fe (n : Int) : List Int := fdig (n % PP)
theorem fe_U5 (n : Int) : U5 (fe n) := fdig_U5 _
theorem PP_pos : (0 : Int) < PP := by decide
theorem fval_fe (n : Int) : fval (fe n) = n % PP := fval_fdig (Int.emod_nonneg _ (by decide)) (Int.emod_lt_of_pos _ PP_pos)
theorem fe_mod (n : Int) : fe (n % PP) = fe n := by unfold fe; rw [Int.emod_emod_of_dvd _ (Int.dvd_refl _)]
theorem fe_congr {a b : Int} (h : a % PP = b % PP) : fe a = fe b := by unfold fe; rw [h]
theorem fe_inj {a b : Int} (h : fe a = fe b) : a % PP = b % PP := by
  rw [← fval_fe, ← fval_fe, h]

theorem add_run (k : List Int → Option (List Int)) (x0 x1 x2 x3 x4 y0 y1 y2 y3 y4 : Int) : field_Add_l1 [y0, y1, y2, y3, y4] k big 0 [x0, x1, x2, x3, x4] =
    k ([IntKind.wrap .u64 (x0 + y0), IntKind.wrap .u64 (x1 + y1), IntKind.wrap .u64 (x2 + y2), IntKind.wrap .u64 (x3 + y3), IntKind.wrap .u64 (x4 + y4)]) := by kernel_rfl
theorem add_eq {x y : List Int} (hx : U5 x) (hy : U5 y) : field_Add x y = some (fe (fval x + fval y)) := by
  have cx := car_C hx
  have cy := car_C hy
  have ex := car_mod (x := x)
  have ey := car_mod (x := y)
  rw [field_Add, opt_some (carry_eq hx), opt_some (carry_eq hy), jn_eq]
  have hlx : carL x = [(carL x).getD 0 0, (carL x).getD 1 0, (carL x).getD 2 0, (carL x).getD 3 0, (carL x).getD 4 0] := rfl
  have hly : carL y = [(carL y).getD 0 0, (carL y).getD 1 0, (carL y).getD 2 0, (carL y).getD 3 0, (carL y).getD 4 0] := rfl
  have hm : (fval x + fval y) % PP = (fval (carL x) + fval (carL y)) % PP := by rw [Int.add_emod, ← ex, ← ey, ← Int.add_emod]
  rw [fe_congr hm]
  generalize carL x = a at *
  generalize carL y = b at *
  have ⟨p0, p1, p2, p3, p4, q0, q1, q2, q3, q4⟩ := cx
  have ⟨r0, r1, r2, r3, r4, s0, s1, s2, s3, s4⟩ := cy
  rw [hlx, hly, add_run]
  rw [wu64_small (by omega) (by omega), wu64_small (by omega) (by omega), wu64_small (by omega) (by omega), wu64_small (by omega) (by omega), wu64_small (by omega) (by omega)]
  rw [opt_some (reduce_eq (U5.mk5 (by omega) (by omega) (by omega) (by omega) (by omega)))]
  unfold fred fe
  congr 3
  simp only [fval, List.getD_cons_zero, List.getD_cons_succ]
  omega
theorem neg_run (k : List Int → Option (List Int)) (y0 y1 y2 y3 y4 z : Int) : field_Neg_l1 [y0, y1, y2, y3, y4] k big 1 [z, 0, 0, 0, 0] =
    k ([z, IntKind.wrap .u64 (4503599627370494 - y1), IntKind.wrap .u64 (4503599627370494 - y2), IntKind.wrap .u64 (4503599627370494 - y3), IntKind.wrap .u64 (4503599627370494 - y4)]) := by kernel_rfl
theorem neg_eq {x : List Int} (hx : U5 x) : field_Neg x = some (fe (- fval x)) := by
  rw [field_Neg, opt_some (reduce_eq hx)]
  simp only [bnd_eq, jn_eq]
  have hv : fval (fred x) = fval x % PP := fval_fe (fval x)
  have hl : fred x = [(fred x).getD 0 0, (fred x).getD 1 0, (fred x).getD 2 0, (fred x).getD 3 0, (fred x).getD 4 0] := rfl
  have hb : ∀ j, j < 5 → 0 ≤ (fred x).getD j 0 ∧ (fred x).getD j 0 < 2251799813685248 := by
    intro j hj
    unfold fred fdig
    match j, hj with
    | 0, _ => simp only [M51, List.getD_cons_zero, List.getD_cons_succ]; omega
    | 1, _ => simp only [M51, List.getD_cons_zero, List.getD_cons_succ]; omega
    | 2, _ => simp only [M51, List.getD_cons_zero, List.getD_cons_succ]; omega
    | 3, _ => simp only [M51, List.getD_cons_zero, List.getD_cons_succ]; omega
    | 4, _ => simp only [M51, List.getD_cons_zero, List.getD_cons_succ]; omega
  have hm : (- fval x) % PP = (2 * PP - fval (fred x)) % PP := by
    rw [hv]
    have e : - fval x = 2 * PP - fval x % PP + (-2 - fval x / PP) * PP := by
      have := Int.emod_add_mul_ediv (fval x) PP
      rw [Int.mul_comm] at this
      have h2 : (-2 - fval x / PP) * PP = -2 * PP - fval x / PP * PP := by rw [Int.sub_mul]
      omega
    rw [e, Int.add_mul_emod_self_right]
  rw [fe_congr hm]
  generalize fred x = a at *
  have b0 := hb 0 (by decide)
  have b1 := hb 1 (by decide)
  have b2 := hb 2 (by decide)
  have b3 := hb 3 (by decide)
  have b4 := hb 4 (by decide)
  rw [hl]
  simp only [List.getD_cons_zero]
  rw [neg_run]
  rw [wu64_small (by omega) (by omega), wu64_small (by omega) (by omega), wu64_small (by omega) (by omega), wu64_small (by omega) (by omega), wu64_small (by omega) (by omega)]
  rw [opt_some (reduce_eq (U5.mk5 (by omega) (by omega) (by omega) (by omega) (by omega)))]
  unfold fred fe
  congr 3
  simp only [fval, PP, List.getD_cons_zero, List.getD_cons_succ]
  omega
theorem sub_eq {x y : List Int} (hx : U5 x) (hy : U5 y) : field_Sub x y = some (fe (fval x - fval y)) := by
  rw [field_Sub, opt_some (neg_eq hy), opt_some (add_eq hx (fe_U5 _)), fval_fe]
  rw [fe_congr (a := fval x + -fval y % PP) (b := fval x - fval y)]
  rw [Int.sub_eq_add_neg, Int.add_emod, Int.emod_emod_of_dvd _ (Int.dvd_refl _), ← Int.add_emod]
theorem small_eq {n : Int} (h : 0 ≤ n ∧ n < 18446744073709551616) : field_Small n = some (fe n) := by
  rw [field_Small]
  simp only [bnd_eq]
  rw [opt_some (reduce_eq (U5.mk5 h (by omega) (by omega) (by omega) (by omega)))]
  unfold fred fe
  congr 3
  simp only [fval, List.getD_cons_zero, List.getD_cons_succ]
  omega
theorem fdig_inj {a b : Int} (ha : 0 ≤ a ∧ a < PP) (hb : 0 ≤ b ∧ b < PP) (h : fdig a = fdig b) : a = b := by
  rw [← fval_fdig ha.1 ha.2, ← fval_fdig hb.1 hb.2, h]
theorem tk_fdig (n : Int) : tk (fdig n) 0 5 = fdig n := rfl
theorem ieq_fe (a b : Int) : ieq 5 (fe a) (fe b) = decide (a % PP = b % PP) := by
  unfold ieq fe
  rw [tk_fdig, tk_fdig]
  rw [decide_eq_decide]
  constructor
  · exact fdig_inj ⟨Int.emod_nonneg _ (by decide), Int.emod_lt_of_pos _ PP_pos⟩ ⟨Int.emod_nonneg _ (by decide), Int.emod_lt_of_pos _ PP_pos⟩
  · intro h; rw [h]
theorem equal_eq {x y : List Int} (hx : U5 x) (hy : U5 y) : field_Equal x y = some (decide (fval x % PP = fval y % PP)) := by
  rw [field_Equal, opt_some (reduce_eq hx), opt_some (reduce_eq hy)]
  show some (ieq 5 (fe (fval x)) (fe (fval y))) = _
  rw [ieq_fe]
theorem isZero_eq {x : List Int} (hx : U5 x) : field_IsZero x = some (decide (fval x % PP = 0)) := by
  rw [field_IsZero, opt_some (reduce_eq hx)]
  simp only [bnd_eq]
  have e : ([0, 0, 0, 0, 0] : List Int) = fe 0 := by decide
  rw [e]
  show some (ieq 5 (fe (fval x)) (fe 0)) = _
  rw [ieq_fe]
  rfl
theorem and1_64 {x : Int} (h0 : 0 ≤ x) (h1 : x < 18446744073709551616) : bitsV .and .u64 x 1 = x % 2 := and_low 1 (by decide) (by decide) h0 h1
theorem isOdd_eq {x : List Int} (hx : U5 x) : field_IsOdd x = some (fval x % PP % 2 == 1) := by
  rw [field_IsOdd, opt_some (reduce_eq hx)]
  simp only [bnd_eq]
  have e : (fred x).getD 0 0 = fval x % PP % 2251799813685248 := rfl
  rw [e, and1_64 (by omega) (by omega)]
  congr 2
  omega
theorem select_eq {b : Bool} {x y : List Int} (hx : U5 x) (hy : U5 y) : field_Select b x y = some (fe (bif b then fval x else fval y)) := by
  rw [field_Select]
  cases b
  · rw [br_ff rfl, opt_some (reduce_eq hy)]; rfl
  · rw [br_tt rfl, opt_some (reduce_eq hx)]; rfl

/-! ## Powers -/
theorem bv8' (m : Nat) (h : m < 256) : (BitVec.ofInt 8 (m : Int)).toNat = m := bv8 m h
theorem and8 {x y : Int} (m n : Nat) (hx : x = m) (hy : y = n) (h1 : m < 256) (h2 : n < 256) : bitsV .and .u8 x y = ((m &&& n : Nat) : Int) := by
  subst hx; subst hy
  show IntKind.u8.wrap (((BitVec.ofInt 8 (m : Int) &&& BitVec.ofInt 8 (n : Int)).toNat : Nat) : Int) = _
  rw [BitVec.toNat_and, bv8 m h1, bv8 n h2, wu8_eq]
  have : m &&& n ≤ m := Nat.and_le_left
  omega
theorem and_low8 (k : Nat) {x y : Int} (hy : y = ((2 ^ k - 1 : Nat) : Int)) (hk : 2 ^ k ≤ 256) (h0 : 0 ≤ x) (h1 : x < 256) : bitsV .and .u8 x y = x % ((2 ^ k : Nat) : Int) := by
  have hp : 0 < 2 ^ k := Nat.pow_pos (by decide)
  rw [and8 x.toNat (2 ^ k - 1) (by omega) hy (by omega) (by omega), Nat.and_two_pow_sub_one_eq_mod]
  rw [Int.natCast_emod]
  congr 1; omega
theorem and1_8 {x : Int} (h0 : 0 ≤ x) (h1 : x < 256) : bitsV .and .u8 x 1 = x % 2 := and_low8 1 (by decide) (by decide) h0 h1
/-- Bytes. -/
def Byt (e : List Int) : Prop := ∀ i, 0 ≤ e.getD i 0 ∧ e.getD i 0 < 256
/-- The bit of a number that is told by bytes. -/
def ebit (e : List Int) (i : Nat) : Bool := (e.getD (i / 8) 0 / ((2 ^ (i % 8) : Nat) : Int)) % 2 == 1
/-- x to the power of the k highest of 256 bits. -/
def pw (x : Int) (e : List Int) : Nat → Int
  | 0 => 1
  | k + 1 => if ebit e (255 - k) then pw x e k * pw x e k % PP * x % PP else pw x e k * pw x e k % PP
theorem pw_rng (x : Int) (e : List Int) (k : Nat) : 0 ≤ pw x e k ∧ pw x e k < PP := by
  cases k with
  | zero => exact ⟨by show (0 : Int) ≤ 1; decide, by show (1 : Int) < PP; decide⟩
  | succ k =>
    unfold pw
    split
    · exact ⟨Int.emod_nonneg _ (by decide), Int.emod_lt_of_pos _ PP_pos⟩
    · exact ⟨Int.emod_nonneg _ (by decide), Int.emod_lt_of_pos _ PP_pos⟩
theorem fe_small {n : Int} (h0 : 0 ≤ n) (h1 : n < PP) : fe n = fdig n := by unfold fe; rw [Int.emod_eq_of_lt h0 h1]
theorem pow_round {x e : List Int} (hx : U5 x) (he : Byt e) {kk : List Int → Option (List Int)} {k' : Int → List Int → Option (List Int)} {i : Nat} (hi : i < 256) (a : Int) (ha : 0 ≤ a ∧ a < PP) :
    field_Pow_b1 x e kk k' (i : Int) (fdig a) = k' ((i : Int) - 1) (fdig (if ebit e i then a * a % PP * fval x % PP else a * a % PP)) := by
  have hsq : field_Square (fdig a) = some (fdig (a * a % PP)) := by rw [square_eq (fdig_U5 _), fval_fdig ha.1 ha.2]
  rw [field_Pow_b1, br_tt (by simp), jn_eq, opt_some hsq]
  simp only [bnd_eq]
  have hd : IntKind.wrap .i64 (Int.tdiv (i : Int) 8) = ((i / 8 : Nat) : Int) := by
    rw [Int.tdiv_eq_ediv_of_nonneg (by omega), wi64_small (by omega) (by omega)]; omega
  have hm : Int.tmod (i : Int) 8 = ((i % 8 : Nat) : Int) := by
    rw [Int.tmod_eq_emod_of_nonneg (by omega)]; omega
  rw [hd, hm, chk_t (inB_t (by omega) (by omega)), chk_t (by simp; omega)]
  have hb := he (i / 8)
  simp only [Int.toNat_natCast]
  rw [shr_eq .u8 (n := i % 8) (by show i % 8 ≤ 8; omega)]
  have hp : (0 : Int) < ((2 ^ (i % 8) : Nat) : Int) := by have := Nat.pow_pos (n := i % 8) (show 0 < 2 by decide); omega
  have hq0 := Int.ediv_nonneg hb.1 (Int.le_of_lt hp)
  have hq1 : e.getD (i / 8) 0 / ((2 ^ (i % 8) : Nat) : Int) < 256 := Int.lt_of_le_of_lt (Int.ediv_le_self _ hb.1) hb.2
  rw [and1_8 hq0 hq1]
  have hw : IntKind.wrap .i64 ((i : Int) - 1) = (i : Int) - 1 := wi64_small (by omega) (by omega)
  by_cases hbit : ebit e i = true
  · have hb' : (e.getD (i / 8) 0 / ((2 ^ (i % 8) : Nat) : Int) % 2 == 1) = true := hbit
    rw [br_tt hb', if_pos hbit, opt_some (mul_eq (fdig_U5 _) hx), fval_fdig (Int.emod_nonneg _ (by decide)) (Int.emod_lt_of_pos _ PP_pos), hw]
  · rw [Bool.not_eq_true] at hbit
    have hb' : (e.getD (i / 8) 0 / ((2 ^ (i % 8) : Nat) : Int) % 2 == 1) = false := hbit
    rw [br_ff hb', if_neg (by rw [hbit]; decide), hw]
theorem pow_loop {x e : List Int} (hx : U5 x) (he : Byt e) : ∀ (k n : Nat), k ≤ 256 → field_Pow_l1 x e some (n + 1 + k) ((k : Int) - 1) (fdig (pw (fval x) e (256 - k))) = some (fdig (pw (fval x) e 256))
  | 0, n, _ => by
    show field_Pow_l1 x e some (n + 1) _ _ = _
    rw [field_Pow_l1, field_Pow_b1, br_ff (by decide)]
  | k + 1, n, hk => by
    have ih := pow_loop hx he k n (by omega)
    rw [← Nat.add_assoc, field_Pow_l1]
    have hi : ((k + 1 : Nat) : Int) - 1 = (k : Int) := by omega
    rw [hi, pow_round hx he (by omega) _ (pw_rng _ _ _)]
    have e1 : 256 - k = (256 - (k + 1)) + 1 := by omega
    have e2 : 255 - (256 - (k + 1)) = k := by omega
    rw [e1, pw, e2] at ih
    exact ih
theorem pow_eq {x e : List Int} (hx : U5 x) (he : Byt e) : field_Pow x e = some (fdig (pw (fval x) e 256)) := by
  rw [field_Pow, opt_some (small_eq (by decide)), jn_eq]
  obtain ⟨n, hn⟩ : ∃ n, big = n + 1 + 256 := ⟨18446744073709551359, big_eq⟩
  have := pow_loop hx he 256 n (Nat.le_refl _)
  rw [← hn] at this
  have e1 : fe 1 = fdig (pw (fval x) e (256 - 256)) := rfl
  rw [e1]
  exact this
end Go.Proofs.YtiflckckekjbnaaDoor
