/- The curve: what the mirrors of its functions come to, in whole numbers. -/
import Derived.Test.YtiflckckekjbnaaDoorF6
namespace Go.Proofs.YtiflckckekjbnaaDoor
open Go Go.Sx Go.RowKit
set_option linter.all false
set_option maxRecDepth 100000

theorem emod_pp (a : Int) : a % PP % PP = a % PP := Int.emod_emod_of_dvd _ (Int.dvd_refl _)
theorem fmul (a b : Int) : field_Mul (fe a) (fe b) = some (fe (a * b)) := by
  rw [mul_eq (fe_U5 a) (fe_U5 b), fval_fe, fval_fe, ← Int.mul_emod]; rfl
theorem fsquare (a : Int) : field_Square (fe a) = some (fe (a * a)) := by
  rw [square_eq (fe_U5 a), fval_fe, ← Int.mul_emod]; rfl
theorem fadd (a b : Int) : field_Add (fe a) (fe b) = some (fe (a + b)) := by
  rw [add_eq (fe_U5 a) (fe_U5 b), fval_fe, fval_fe, fe_congr]
  exact (Int.add_emod _ _ _).symm
theorem fsub (a b : Int) : field_Sub (fe a) (fe b) = some (fe (a - b)) := by
  rw [sub_eq (fe_U5 a) (fe_U5 b), fval_fe, fval_fe, fe_congr]
  exact (Int.sub_emod _ _ _).symm
theorem fneg (a : Int) : field_Neg (fe a) = some (fe (-a)) := by
  rw [neg_eq (fe_U5 a), fval_fe, fe_congr]
  have h := Int.sub_emod 0 a PP
  simp only [Int.zero_sub] at h
  rw [h]
  simp
/-- A point, by four numbers. -/
structure Q4 where
  x : Int
  y : Int
  z : Int
  t : Int
  deriving DecidableEq
def pt (q : Q4) : api_Point := ⟨fe q.x, fe q.y, fe q.z, fe q.t⟩
def qred (q : Q4) : Q4 := ⟨q.x % PP, q.y % PP, q.z % PP, q.t % PP⟩
theorem pt_red (q : Q4) : pt (qred q) = pt q := by simp only [pt, qred, fe_mod]
/-- Twice the curve's number. -/
def D2 : Int := 16295367250680780974490674513165176452449235426866156013048779062215315747161
def qclosed (e f g h : Int) : Q4 := ⟨e * f, g * h, f * g, e * h⟩
def qadd (p q : Q4) : Q4 :=
  let a := (p.y - p.x) * (q.y - q.x)
  let b := (p.y + p.x) * (q.y + q.x)
  let c := p.t * D2 * q.t
  let d := (p.z + p.z) * q.z
  qclosed (b - a) (d - c) (d + c) (b + a)
def qdbl (p : Q4) : Q4 :=
  let a := p.x * p.x
  let b := p.y * p.y
  let z := p.z * p.z
  let h := a + b
  let e := h - (p.x + p.y) * (p.x + p.y)
  let g := a - b
  qclosed e (z + z + g) g h
theorem closed_eq (e f g h : Int) : curve_closed (fe e) (fe f) (fe g) (fe h) = some (pt (qclosed e f g h)) := by
  rw [curve_closed, opt_some (fmul e f), opt_some (fmul g h), opt_some (fmul f g), opt_some (fmul e h)]; rfl
theorem doubled_eq : curve_doubled = some (fe D2) := by
  rw [curve_doubled, bnd_eq]
  congr 1
theorem cadd_eq (p q : Q4) : curve_Add (pt p) (pt q) = some (pt (qadd p q)) := by
  rw [curve_Add]
  show opt (field_Sub (fe p.y) (fe p.x)) _ = _
  rw [opt_some (fsub p.y p.x)]
  show opt (field_Sub (fe q.y) (fe q.x)) _ = _
  rw [opt_some (fsub q.y q.x), opt_some (fmul _ _)]
  show opt (field_Add (fe p.y) (fe p.x)) _ = _
  rw [opt_some (fadd p.y p.x)]
  show opt (field_Add (fe q.y) (fe q.x)) _ = _
  rw [opt_some (fadd q.y q.x), opt_some (fmul _ _), opt_some doubled_eq]
  show opt (field_Mul (fe p.t) (fe D2)) _ = _
  rw [opt_some (fmul _ _)]
  show opt (field_Mul (fe (p.t * D2)) (fe q.t)) _ = _
  rw [opt_some (fmul _ _)]
  show opt (field_Add (fe p.z) (fe p.z)) _ = _
  rw [opt_some (fadd _ _)]
  show opt (field_Mul (fe (p.z + p.z)) (fe q.z)) _ = _
  rw [opt_some (fmul _ _), opt_some (fsub _ _), opt_some (fsub _ _), opt_some (fadd _ _), opt_some (fadd _ _), opt_some (closed_eq _ _ _ _)]
  rfl
theorem cdbl_eq (p : Q4) : curve_Double (pt p) = some (pt (qdbl p)) := by
  rw [curve_Double]
  show opt (field_Square (fe p.x)) _ = _
  rw [opt_some (fsquare _)]
  show opt (field_Square (fe p.y)) _ = _
  rw [opt_some (fsquare _)]
  show opt (field_Square (fe p.z)) _ = _
  rw [opt_some (fsquare _), opt_some (fadd _ _)]
  show opt (field_Add (fe p.x) (fe p.y)) _ = _
  rw [opt_some (fadd _ _), opt_some (fsquare _), opt_some (fsub _ _), opt_some (fsub _ _), opt_some (fadd _ _), opt_some (fadd _ _), opt_some (closed_eq _ _ _ _)]
  rfl
def qzero : Q4 := ⟨0, 1, 1, 0⟩
theorem unit_eq : curve_unit = some (fe 1) := by rw [curve_unit, bnd_eq]; congr 1
theorem zero_eq : curve_Zero = some (pt qzero) := by
  rw [curve_Zero, opt_some unit_eq, opt_some unit_eq]
  have : (List.replicate 5 0 : List Int) = fe 0 := by decide
  rw [this]; rfl
theorem cneg_eq (p : Q4) : curve_Neg (pt p) = some (pt ⟨-p.x, p.y, p.z, -p.t⟩) := by
  rw [curve_Neg]
  show opt (field_Neg (fe p.x)) _ = _
  rw [opt_some (fneg _)]
  show opt (field_Neg (fe p.t)) _ = _
  rw [opt_some (fneg _)]
  rfl

/-! ## Multiples -/
def qadd' (p q : Q4) : Q4 := qred (qadd p q)
def qdbl' (p : Q4) : Q4 := qred (qdbl p)
theorem cadd_eq' (p q : Q4) : curve_Add (pt p) (pt q) = some (pt (qadd' p q)) := by rw [cadd_eq]; unfold qadd'; rw [pt_red]
theorem cdbl_eq' (p : Q4) : curve_Double (pt p) = some (pt (qdbl' p)) := by rw [cdbl_eq]; unfold qdbl'; rw [pt_red]
def tab (p : Q4) : Nat → Q4
  | 0 => qzero
  | i + 1 => qadd' (tab p i) p
def tabL (f : Nat → api_Point) (i : Nat) : List api_Point := (List.range 16).map fun j => if j ≤ i then f j else api_Point_z
theorem tabL_set (f : Nat → api_Point) {i : Nat} (hi : i < 15) : setG api_Point_z (tabL f i) (i + 1) (f (i + 1)) = tabL f (i + 1) := by
  rw [setG_eq (by simp [tabL]; omega)]
  apply List.ext_getElem
  · simp [tabL]
  · intro j h1 h2
    simp only [tabL, List.getElem_set, List.getElem_map, List.getElem_range]
    by_cases hj : i + 1 = j
    · subst hj; simp
    · rw [if_neg hj]
      by_cases h : j ≤ i
      · rw [if_pos h, if_pos (by omega)]
      · rw [if_neg h, if_neg (by omega)]
theorem tabL_get (f : Nat → api_Point) {i j : Nat} (hj : j ≤ i) (hi : i < 16) : (tabL f i).getD j api_Point_z = f j := by
  simp only [tabL, List.getD, List.getElem?_map, List.getElem?_range (show j < 16 by omega), Option.map_some, Option.getD_some, if_pos hj]
theorem mult_round (p : Q4) {kk : List api_Point → Option (List api_Point)} {k' : Int → List api_Point → Option (List api_Point)} {i : Nat} (hi : i < 15) :
    curve_multiples_b1 (pt p) kk k' (i : Int) (tabL (fun j => pt (tab p j)) i) = k' ((i + 1 : Nat) : Int) (tabL (fun j => pt (tab p j)) (i + 1)) := by
  rw [curve_multiples_b1, br_tt (by simp; omega)]
  simp only [bnd_eq]
  rw [wi64_small (by omega) (by omega), chk_t (inB_t (by omega) (by omega)), Int.toNat_natCast, tabL_get _ (Nat.le_refl i) (by omega), opt_some (cadd_eq' _ _), chk_t (inB_t (by omega) (by omega))]
  have e : ((i : Int) + 1).toNat = i + 1 := by omega
  have e2 : (i : Int) + 1 = ((i + 1 : Nat) : Int) := by omega
  rw [e]
  have := tabL_set (fun j => pt (tab p j)) hi
  rw [show pt (qadd' (tab p i) p) = pt (tab p (i + 1)) from rfl, this, e2]
theorem mult_loop (p : Q4) : ∀ (k n : Nat), k ≤ 15 → curve_multiples_l1 (pt p) some (n + 1 + k) ((15 - k : Nat) : Int) (tabL (fun j => pt (tab p j)) (15 - k)) = some (tabL (fun j => pt (tab p j)) 15)
  | 0, n, _ => by
    rw [show n + 1 + 0 = n + 1 from rfl, curve_multiples_l1, curve_multiples_b1, br_ff (by decide)]
  | k + 1, n, hk => by
    have ih := mult_loop p k n (by omega)
    rw [← Nat.add_assoc, curve_multiples_l1, mult_round p (by omega)]
    rw [show 15 - (k + 1) + 1 = 15 - k by omega]
    exact ih
theorem multiples_eq (p : Q4) : curve_multiples (pt p) = some (tabL (fun j => pt (tab p j)) 15) := by
  rw [curve_multiples, opt_some zero_eq, bnd_eq, jn_eq]
  obtain ⟨n, hn⟩ : ∃ n, big = n + 1 + 15 := ⟨18446744073709551600, big_eq⟩
  have := mult_loop p 15 n (by decide)
  rw [← hn] at this
  have e : setG api_Point_z (List.replicate 16 api_Point_z) 0 (pt qzero) = tabL (fun j => pt (tab p j)) (15 - 15) := by
    rw [setG_eq (by simp)]
    rfl
  rw [e]
  exact this
/-- The i-th digit to the base 16, the highest first. -/
def nib (k : List Int) (i : Nat) : Int := if i % 2 = 0 then k.getD (31 - i / 2) 0 / 16 % 16 else k.getD (31 - i / 2) 0 % 16
theorem nibble_eq {k : List Int} (hk : Byt k) {i : Nat} (hi : i < 64) : curve_nibble k (i : Int) = some (nib k i) := by
  rw [curve_nibble]
  simp only [bnd_eq]
  have h1 : IntKind.wrap .i64 (Int.tdiv (i : Int) 2) = ((i / 2 : Nat) : Int) := by
    rw [Int.tdiv_eq_ediv_of_nonneg (by omega), wi64_small (by omega) (by omega)]; omega
  have h2 : Int.tmod (i : Int) 2 = ((i % 2 : Nat) : Int) := by
    rw [Int.tmod_eq_emod_of_nonneg (by omega)]; omega
  rw [h1, h2, wi64_small (x := 31 - ((i / 2 : Nat) : Int)) (by omega) (by omega), chk_t (inB_t (by omega) (by omega))]
  have h3 : (31 - ((i / 2 : Nat) : Int)).toNat = 31 - i / 2 := by omega
  rw [h3]
  have hb := hk (31 - i / 2)
  rw [wi64_small (x := 1 - ((i % 2 : Nat) : Int)) (by omega) (by omega), wi64_small (by omega) (by omega)]
  rcases Nat.mod_two_eq_zero_or_one i with h | h
  · rw [h, chk_t (by decide)]
    have e : shrV .u8 (k.getD (31 - i / 2) 0) (4 * (1 - ((0 : Nat) : Int))) = k.getD (31 - i / 2) 0 / 16 := shr_eq .u8 (n := 4) (by decide)
    rw [e]
    have e2 : bitsV .and .u8 (k.getD (31 - i / 2) 0 / 16) 15 = k.getD (31 - i / 2) 0 / 16 % 16 := and_low8 4 (by decide) (by decide) (by omega) (by omega)
    rw [e2, nib, if_pos h]
  · rw [h, chk_t (by decide)]
    have e : shrV .u8 (k.getD (31 - i / 2) 0) (4 * (1 - ((1 : Nat) : Int))) = k.getD (31 - i / 2) 0 := by
      have := shr_eq .u8 (x := k.getD (31 - i / 2) 0) (n := 0) (by decide)
      simpa using this
    rw [e]
    have e2 : bitsV .and .u8 (k.getD (31 - i / 2) 0) 15 = k.getD (31 - i / 2) 0 % 16 := and_low8 4 (by decide) (by decide) (by omega) (by omega)
    rw [e2, nib, if_neg (by omega)]
theorem nib_rng (k : List Int) (i : Nat) : 0 ≤ nib k i ∧ nib k i < 16 := by unfold nib; split <;> omega
def dbl4 (q : Q4) : Q4 := qdbl' (qdbl' (qdbl' (qdbl' q)))
def qround (k : List Int) (p : Q4) (q : Q4) (i : Nat) : Q4 := qadd' (dbl4 q) (tab p (nib k i).toNat)
def qacc (k : List Int) (p : Q4) : Nat → Q4
  | 0 => qzero
  | i + 1 => qround k p (qacc k p i) i
theorem mul_inner4 (q : Q4) {kk : List Int → List Int → List Int → List Int → Option api_Point} :
    curve_Mul_l2 kk big 0 (pt q).gX (pt q).gY (pt q).gZ (pt q).gT = kk (pt (dbl4 q)).gX (pt (dbl4 q)).gY (pt (dbl4 q)).gZ (pt (dbl4 q)).gT := by
  obtain ⟨n, hn⟩ : ∃ n, big = n + 1 + 1 + 1 + 1 + 1 := ⟨18446744073709551611, big_eq⟩
  have step : ∀ (n j : Nat) (q : Q4), j < 4 → curve_Mul_l2 kk (n + 1) (j : Int) (pt q).gX (pt q).gY (pt q).gZ (pt q).gT =
      curve_Mul_l2 kk n ((j + 1 : Nat) : Int) (pt (qdbl' q)).gX (pt (qdbl' q)).gY (pt (qdbl' q)).gZ (pt (qdbl' q)).gT := by
    intro n j q hj
    rw [curve_Mul_l2, curve_Mul_b2, br_tt (by simp; omega)]
    have := cdbl_eq' q
    rw [show (⟨(pt q).gX, (pt q).gY, (pt q).gZ, (pt q).gT⟩ : api_Point) = pt q from rfl, opt_some this]
    simp only [bnd_eq]
    rw [wi64_small (by omega) (by omega)]
    rfl
  rw [hn]
  have s0 := step (n + 1 + 1 + 1 + 1) 0 q (by decide)
  have s1 := step (n + 1 + 1 + 1) 1 (qdbl' q) (by decide)
  have s2 := step (n + 1 + 1) 2 (qdbl' (qdbl' q)) (by decide)
  have s3 := step (n + 1) 3 (qdbl' (qdbl' (qdbl' q))) (by decide)
  refine s0.trans (s1.trans (s2.trans (s3.trans ?_)))
  rw [curve_Mul_l2, curve_Mul_b2, br_ff (by decide)]
  rfl
theorem mul_rounds {k : List Int} (hk : Byt k) (p : Q4) : ∀ (j n : Nat), j ≤ 64 → curve_Mul_l1 k (tabL (fun j => pt (tab p j)) 15) (fun a b c d => some ⟨a, b, c, d⟩) (n + 1 + j) ((64 - j : Nat) : Int) (pt (qacc k p (64 - j))).gX (pt (qacc k p (64 - j))).gY (pt (qacc k p (64 - j))).gZ (pt (qacc k p (64 - j))).gT = some (pt (qacc k p 64))
  | 0, n, _ => by
    rw [show n + 1 + 0 = n + 1 from rfl, curve_Mul_l1, curve_Mul_b1, br_ff (by decide)]
  | j + 1, n, hj => by
    have ih := mul_rounds hk p j n (by omega)
    have hr := nib_rng k (64 - (j + 1))
    rw [← Nat.add_assoc, curve_Mul_l1, curve_Mul_b1, br_tt (by simp; omega), jn_eq, mul_inner4]
    rw [opt_some (nibble_eq hk (by omega)), chk_t (inB_t hr.1 hr.2), bnd_eq, tabL_get _ (by omega) (by decide)]
    have hadd := cadd_eq' (dbl4 (qacc k p (64 - (j + 1)))) (tab p (nib k (64 - (j + 1))).toNat)
    rw [show (⟨(pt (dbl4 (qacc k p (64 - (j + 1))))).gX, (pt (dbl4 (qacc k p (64 - (j + 1))))).gY, (pt (dbl4 (qacc k p (64 - (j + 1))))).gZ, (pt (dbl4 (qacc k p (64 - (j + 1))))).gT⟩ : api_Point) = pt (dbl4 (qacc k p (64 - (j + 1)))) from rfl, opt_some hadd, bnd_eq, wi64_small (by omega) (by omega)]
    have ei : ((64 - (j + 1) : Nat) : Int) + 1 = ((64 - (j + 1) + 1 : Nat) : Int) := by omega
    rw [ei]
    have e : 64 - (j + 1) + 1 = 64 - j := by omega
    rw [e]
    have e2 : qadd' (dbl4 (qacc k p (64 - (j + 1)))) (tab p (nib k (64 - (j + 1))).toNat) = qacc k p (64 - j) := by rw [← e]; rfl
    rw [e2]
    exact ih
theorem cmul_eq {k : List Int} (hk : Byt k) (p : Q4) : curve_Mul k (pt p) = some (pt (qacc k p 64)) := by
  rw [curve_Mul, opt_some (multiples_eq p), opt_some zero_eq, jn_eq]
  obtain ⟨n, hn⟩ : ∃ n, big = n + 1 + 64 := ⟨18446744073709551551, big_eq⟩
  have := mul_rounds hk p 64 n (by decide)
  rw [← hn] at this
  exact this
end Go.Proofs.YtiflckckekjbnaaDoor
