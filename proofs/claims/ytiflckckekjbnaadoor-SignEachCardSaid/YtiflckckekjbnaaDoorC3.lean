/- Decode and Combine. -/
import Derived.Test.YtiflckckekjbnaaDoorC2
namespace Go.Proofs.YtiflckckekjbnaaDoor
open Go Go.Sx Go.RowKit
set_option linter.all false
set_option maxRecDepth 100000

theorem comb_inner4 (q : Q4) {kk : List Int → List Int → List Int → List Int → Option api_Point} :
    curve_Combine_l2 kk big 0 (pt q).gX (pt q).gY (pt q).gZ (pt q).gT = kk (pt (dbl4 q)).gX (pt (dbl4 q)).gY (pt (dbl4 q)).gZ (pt (dbl4 q)).gT := by
  obtain ⟨n, hn⟩ : ∃ n, big = n + 1 + 1 + 1 + 1 + 1 := ⟨18446744073709551611, big_eq⟩
  have step : ∀ (n j : Nat) (q : Q4), j < 4 → curve_Combine_l2 kk (n + 1) (j : Int) (pt q).gX (pt q).gY (pt q).gZ (pt q).gT =
      curve_Combine_l2 kk n ((j + 1 : Nat) : Int) (pt (qdbl' q)).gX (pt (qdbl' q)).gY (pt (qdbl' q)).gZ (pt (qdbl' q)).gT := by
    intro n j q hj
    rw [curve_Combine_l2, curve_Combine_b2, br_tt (by simp; omega)]
    have := cdbl_eq' q
    rw [show (⟨(pt q).gX, (pt q).gY, (pt q).gZ, (pt q).gT⟩ : api_Point) = pt q from rfl, opt_some this]
    simp only [bnd_eq]
    rw [wi64_small (by omega) (by omega)]
    rfl
  rw [hn]
  have s0 := step (n + 1 + 1 + 1 + 1) 0 q (by decide)
  have s1 := step (n + 1 + 1 + 1) 1 (qdbl' q) (by decide)
  have s2 := step (n + 1 + 1) 2 (qdbl' (qdbl' q)) (by decide)
  have s3 := step (n + 1) 3 (qdbl' (qdbl' (qdbl' q))) (by decide)
  refine s0.trans (s1.trans (s2.trans (s3.trans ?_)))
  rw [curve_Combine_l2, curve_Combine_b2, br_ff (by decide)]
  rfl
def q2round (k l : List Int) (p r : Q4) (q : Q4) (i : Nat) : Q4 := qadd' (qadd' (dbl4 q) (tab p (nib k i).toNat)) (tab r (nib l i).toNat)
def q2acc (k l : List Int) (p r : Q4) : Nat → Q4
  | 0 => qzero
  | i + 1 => q2round k l p r (q2acc k l p r i) i
theorem pt_parts (q : Q4) : (⟨(pt q).gX, (pt q).gY, (pt q).gZ, (pt q).gT⟩ : api_Point) = pt q := rfl
theorem comb_rounds {k l : List Int} (hk : Byt k) (hl : Byt l) (p r : Q4) : ∀ (j n : Nat), j ≤ 64 → curve_Combine_l1 k l (tabL (fun j => pt (tab p j)) 15) (tabL (fun j => pt (tab r j)) 15) (fun a b c d => some ⟨a, b, c, d⟩) (n + 1 + j) ((64 - j : Nat) : Int) (pt (q2acc k l p r (64 - j))).gX (pt (q2acc k l p r (64 - j))).gY (pt (q2acc k l p r (64 - j))).gZ (pt (q2acc k l p r (64 - j))).gT = some (pt (q2acc k l p r 64))
  | 0, n, _ => by
    rw [show n + 1 + 0 = n + 1 from rfl, curve_Combine_l1, curve_Combine_b1, br_ff (by decide)]
  | j + 1, n, hj => by
    have ih := comb_rounds hk hl p r j n (by omega)
    have hr := nib_rng k (64 - (j + 1))
    have hr2 := nib_rng l (64 - (j + 1))
    rw [← Nat.add_assoc, curve_Combine_l1, curve_Combine_b1, br_tt (by simp; omega), jn_eq, comb_inner4]
    rw [opt_some (nibble_eq hk (by omega)), chk_t (inB_t hr.1 hr.2), bnd_eq, tabL_get _ (by omega) (by decide)]
    have hadd := cadd_eq' (dbl4 (q2acc k l p r (64 - (j + 1)))) (tab p (nib k (64 - (j + 1))).toNat)
    rw [pt_parts, opt_some hadd]
    rw [opt_some (nibble_eq hl (by omega)), chk_t (inB_t hr2.1 hr2.2), bnd_eq, tabL_get _ (by omega) (by decide)]
    have hadd2 := cadd_eq' (qadd' (dbl4 (q2acc k l p r (64 - (j + 1)))) (tab p (nib k (64 - (j + 1))).toNat)) (tab r (nib l (64 - (j + 1))).toNat)
    rw [opt_some hadd2, bnd_eq, wi64_small (by omega) (by omega)]
    have ei : ((64 - (j + 1) : Nat) : Int) + 1 = ((64 - (j + 1) + 1 : Nat) : Int) := by omega
    rw [ei]
    have e : 64 - (j + 1) + 1 = 64 - j := by omega
    rw [e]
    have e2 : qadd' (qadd' (dbl4 (q2acc k l p r (64 - (j + 1)))) (tab p (nib k (64 - (j + 1))).toNat)) (tab r (nib l (64 - (j + 1))).toNat) = q2acc k l p r (64 - j) := by rw [← e]; rfl
    rw [e2]
    exact ih
theorem combine_eq {k l : List Int} (hk : Byt k) (hl : Byt l) (p : Q4) : curve_Combine k (pt p) l = some (pt (q2acc k l p qbase 64)) := by
  rw [curve_Combine, opt_some start_eq, jn_eq, opt_some (multiples_eq p), opt_some (multiples_eq qbase)]
  dsimp only
  rw [opt_some zero_eq, jn_eq]
  obtain ⟨n, hn⟩ : ∃ n, big = n + 1 + 64 := ⟨18446744073709551551, big_eq⟩
  have := comb_rounds hk hl p qbase 64 n (by decide)
  rw [← hn] at this
  exact this
theorem canon_tot {x : List Int} (h : Byt x) : field_Canonical x = some (ieq 32 (byt (fval (fe (bval x)) % PP)) x) := by
  rw [field_Canonical, opt_some (fromBytes_eq h), opt_some (bytes_eq (fe_U5 _))]
def esq : List Int := [253, 255, 255, 255, 255, 255, 255, 255, 255, 255, 255, 255, 255, 255, 255, 255, 255, 255, 255, 255, 255, 255, 255, 255, 255, 255, 255, 255, 255, 255, 255, 15]
def ert : List Int := [251, 255, 255, 255, 255, 255, 255, 255, 255, 255, 255, 255, 255, 255, 255, 255, 255, 255, 255, 255, 255, 255, 255, 255, 255, 255, 255, 255, 255, 255, 255, 31]
theorem power_sq : field_power 253 15 = some esq := by kernel_rfl
theorem power_rt : field_power 251 31 = some ert := by kernel_rfl
theorem fpow (a : Int) {e : List Int} (he : Byt e) : field_Pow (fe a) e = some (fe (pw (a % PP) e 256)) := by
  rw [pow_eq (fe_U5 _) he, fe_rng (pw_rng _ _ _), fval_fe]
theorem fodd (a : Int) : field_IsOdd (fe a) = some (a % PP % 2 == 1) := by rw [isOdd_eq (fe_U5 _), fval_fe, emod_pp]
theorem fzero (a : Int) : field_IsZero (fe a) = some (decide (a % PP = 0)) := by rw [isZero_eq (fe_U5 _), fval_fe, emod_pp]
theorem feq (a b : Int) : field_Equal (fe a) (fe b) = some (decide (a % PP = b % PP)) := by rw [equal_eq (fe_U5 _) (fe_U5 _), fval_fe, fval_fe, emod_pp, emod_pp]
theorem fselect (c : Bool) (a b : Int) : field_Select c (fe a) (fe b) = some (fe (bif c then a else b)) := by
  rw [select_eq (fe_U5 _) (fe_U5 _), fval_fe, fval_fe]; cases c <;> simp [fe_mod]
def fabs (a : Int) : Int := bif a % PP % 2 == 1 then -a else a
def sqr0 (a b : Int) : Int := a * (b * b * b) * pw ((a * ((b * b * b) * (b * b * b)) * b) % PP) esq 256
def sqrt2 : Int := pw (2 % PP) ert 256
def sqrR (a b : Int) : Int × Bool :=
  if b % PP = 0 then (0, decide (a % PP = 0))
  else if (b * (sqr0 a b * sqr0 a b)) % PP = a % PP then (fabs (sqr0 a b), true)
  else if (b * (sqr0 a b * sqr0 a b)) % PP = (-a) % PP then (fabs (sqr0 a b * sqrt2), true)
  else (0, false)
theorem fe0 : ([0, 0, 0, 0, 0] : List Int) = fe 0 := by decide
theorem sqrt_eq (a b : Int) : field_SqrtRatio (fe a) (fe b) = some (fe (sqrR a b).1, (sqrR a b).2) := by
  rw [field_SqrtRatio, opt_some (fzero b)]
  unfold sqrR
  by_cases h : b % PP = 0
  · rw [if_pos h, br_tt (by simpa using h), bnd_eq, opt_some (fzero a), fe0]
  · rw [if_neg h, br_ff (by simpa using h), opt_some (fsquare b), opt_some (fmul _ _), opt_some (fsquare _), opt_some (fmul _ _), opt_some (fmul _ _), opt_some (fmul _ _), opt_some power_sq, opt_some (fpow _ (byt_of (by decide))), opt_some (fmul _ _)]
    have e0 : a * (b * b * b) * pw ((a * ((b * b * b) * (b * b * b)) * b) % PP) esq 256 = sqr0 a b := rfl
    rw [e0, opt_some (fsquare _), opt_some (fmul _ _), jn_eq, opt_some (feq _ _)]
    by_cases h1 : (b * (sqr0 a b * sqr0 a b)) % PP = a % PP
    · rw [if_pos h1, br_tt (by simpa using h1)]
      dsimp only
      rw [opt_some (fodd _), opt_some (fneg _), opt_some (fselect _ _ _)]
      rfl
    · rw [if_neg h1, br_ff (by simpa using h1), opt_some (fneg _), opt_some (feq _ _)]
      by_cases h2 : (b * (sqr0 a b * sqr0 a b)) % PP = (-a) % PP
      · rw [if_pos h2, br_tt (by simpa using h2), opt_some (small_eq (n := 2) (by decide)), opt_some power_rt, opt_some (fpow _ (byt_of (by decide))), opt_some (fmul _ _)]
        dsimp only
        rw [opt_some (fodd _), opt_some (fneg _), opt_some (fselect _ _ _)]
        rfl
      · rw [if_neg h2, br_ff (by simpa using h2), bnd_eq, fe0]
def DD : Int := 37095705934669439343138083508754565189542113879843219016388785533085940283555
theorem limbs_eq : curve_limbs = some (fe DD) := by rw [curve_limbs, bnd_eq]; decide
/-- Decode in plain terms -/
def ybytes (p : List Int) : List Int := setD p 31 (p.getD 31 0 % 128)
def dtop (p : List Int) : Int := p.getD 31 0 / 128
def dcan (p : List Int) : Bool := ieq 32 (byt (fval (fe (bval (ybytes p))) % PP)) (ybytes p)
def droot (y : Int) : Int × Bool := sqrR (y * y - 1) (DD * (y * y) + 1)
def dx (p : List Int) : Int := if dtop p = 1 then - (droot (bval (ybytes p))).1 else (droot (bval (ybytes p))).1
def dok (p : List Int) : Bool := dcan p && (droot (bval (ybytes p))).2 && !(dtop p == 1 && decide ((droot (bval (ybytes p))).1 % PP = 0))
def dpt (p : List Int) : Q4 := ⟨dx p, bval (ybytes p), 1, dx p * bval (ybytes p)⟩
theorem setD_byt {p : List Int} (h : Byt p) {j : Nat} {v : Int} (hv : 0 ≤ v ∧ v < 256) : Byt (setD p j v) := by
  intro i
  rw [getD_setD]
  split
  · exact hv
  · exact h i
theorem and127 {x : Int} (h0 : 0 ≤ x) (h1 : x < 256) : bitsV .and .u8 x 127 = x % 128 := and_low8 7 (by decide) (by decide) h0 h1
theorem decode_eq {p : List Int} (h : Byt p) : curve_Decode p = some (if dok p then (pt (dpt p), true) else (api_Point_z, false)) := by
  have h31 := h 31
  have hy : Byt (ybytes p) := setD_byt h (by omega)
  have hs : shrV .u8 (p.getD 31 0) 7 = dtop p := by have := shr_eq .u8 (x := p.getD 31 0) (n := 7) (by decide); simpa [dtop] using this
  rw [curve_Decode, bnd_eq, bnd_eq, bnd_eq, bnd_eq, bnd_eq, and127 h31.1 h31.2, hs]
  show opt (field_Canonical (ybytes p)) _ = _
  rw [opt_some (canon_tot hy)]
  have ec : ieq 32 (byt (fval (fe (bval (ybytes p))) % PP)) (ybytes p) = dcan p := rfl
  rw [ec]
  unfold dok
  cases hc : dcan p
  · rw [br_tt (by rfl)]; rfl
  · rw [br_ff (by rfl)]
    show opt (field_FromBytes (ybytes p)) _ = _
    rw [opt_some (fromBytes_eq hy), opt_some (fsquare _), opt_some unit_eq, opt_some (fsub _ _), opt_some limbs_eq, opt_some (fmul _ _), opt_some (fadd _ _), opt_some (sqrt_eq _ _)]
    have er : sqrR (bval (ybytes p) * bval (ybytes p) - 1) (DD * (bval (ybytes p) * bval (ybytes p)) + 1) = droot (bval (ybytes p)) := rfl
    rw [er]
    simp only [fzero]
    cases hd : (droot (bval (ybytes p))).2
    · rw [chk_t (by simp [imp]), br_tt (by simp)]; rfl
    · rw [chk_t (by simp [imp])]
      by_cases hz : (dtop p == 1 && decide ((droot (bval (ybytes p))).1 % PP = 0)) = true
      · rw [br_tt (by simpa using hz), if_neg (by simp [hz])]; rfl
      · have hz' : (dtop p == 1 && decide ((droot (bval (ybytes p))).1 % PP = 0)) = false := by simpa using hz
        rw [br_ff (by simpa using hz'), if_pos (by simp [hz']), jn_eq]
        unfold dpt dx
        by_cases ht : dtop p = 1
        · rw [br_tt (by simp [ht]), opt_some (fneg _), if_pos ht]
          dsimp only
          rw [opt_some (fmul _ _)]; rfl
        · rw [br_ff (by simpa using ht), if_neg ht]
          dsimp only
          rw [opt_some (fmul _ _)]; rfl
end Go.Proofs.YtiflckckekjbnaaDoor
