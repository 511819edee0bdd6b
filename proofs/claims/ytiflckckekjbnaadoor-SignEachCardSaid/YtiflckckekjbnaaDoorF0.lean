/- Numbers: bits, digits, and what the words of a mirror come to. -/
import Derived.Test.YtiflckckekjbnaaDoorLZ
namespace Go.Proofs.YtiflckckekjbnaaDoor
open Go Go.Sx Go.RowKit
set_option linter.all false

theorem wu64_eq (x : Int) : IntKind.u64.wrap x = x % 18446744073709551616 := by simp [IntKind.wrap, IntKind.bits, IntKind.signed]
theorem wu8_eq (x : Int) : IntKind.u8.wrap x = x % 256 := by simp [IntKind.wrap, IntKind.bits, IntKind.signed]
theorem wu64_small {x : Int} (h0 : 0 ≤ x) (h1 : x < 18446744073709551616) : IntKind.u64.wrap x = x := by rw [wu64_eq]; omega
theorem wi64_small {x : Int} (h0 : -9223372036854775808 ≤ x) (h1 : x ≤ 9223372036854775807) : IntKind.i64.wrap x = x := by rw [IntKind.wrap_i64]; omega
theorem bv64 (m : Nat) (h : m < 18446744073709551616) : (BitVec.ofInt 64 (m : Int)).toNat = m := by
  rw [BitVec.toNat_ofInt]; simp; omega
theorem bv8 (m : Nat) (h : m < 256) : (BitVec.ofInt 8 (m : Int)).toNat = m := by
  rw [BitVec.toNat_ofInt]; simp; omega
theorem and64 {x y : Int} (m n : Nat) (hx : x = m) (hy : y = n) (h1 : m < 18446744073709551616) (h2 : n < 18446744073709551616) : bitsV .and .u64 x y = ((m &&& n : Nat) : Int) := by
  subst hx; subst hy
  show IntKind.u64.wrap (((BitVec.ofInt 64 (m : Int) &&& BitVec.ofInt 64 (n : Int)).toNat : Nat) : Int) = _
  rw [BitVec.toNat_and, bv64 m h1, bv64 n h2, wu64_small (by omega)]
  have : m &&& n ≤ m := Nat.and_le_left
  omega
theorem or64 {x y : Int} (m n : Nat) (hx : x = m) (hy : y = n) (h1 : m < 18446744073709551616) (h2 : n < 18446744073709551616) : bitsV .or .u64 x y = ((m ||| n : Nat) : Int) := by
  subst hx; subst hy
  show IntKind.u64.wrap (((BitVec.ofInt 64 (m : Int) ||| BitVec.ofInt 64 (n : Int)).toNat : Nat) : Int) = _
  rw [BitVec.toNat_or, bv64 m h1, bv64 n h2, wu64_small (by omega)]
  have : m ||| n < 2 ^ 64 := Nat.or_lt_two_pow (by simpa using h1) (by simpa using h2)
  simp at this; omega
theorem xor64 {x y : Int} (m n : Nat) (hx : x = m) (hy : y = n) (h1 : m < 18446744073709551616) (h2 : n < 18446744073709551616) : bitsV .xor .u64 x y = ((m ^^^ n : Nat) : Int) := by
  subst hx; subst hy
  show IntKind.u64.wrap (((BitVec.ofInt 64 (m : Int) ^^^ BitVec.ofInt 64 (n : Int)).toNat : Nat) : Int) = _
  rw [BitVec.toNat_xor, bv64 m h1, bv64 n h2, wu64_small (by omega)]
  have : m ^^^ n < 2 ^ 64 := Nat.xor_lt_two_pow (by simpa using h1) (by simpa using h2)
  simp at this; omega
theorem and_low (k : Nat) {x y : Int} (hy : y = ((2 ^ k - 1 : Nat) : Int)) (hk : 2 ^ k ≤ 18446744073709551616) (h0 : 0 ≤ x) (h1 : x < 18446744073709551616) : bitsV .and .u64 x y = x % ((2 ^ k : Nat) : Int) := by
  have hp : 0 < 2 ^ k := Nat.pow_pos (by decide)
  rw [and64 x.toNat (2 ^ k - 1) (by omega) hy (by omega) (by omega), Nat.and_two_pow_sub_one_eq_mod]
  rw [Int.natCast_emod]
  congr 1; omega
theorem and51 {x : Int} (h0 : 0 ≤ x) (h1 : x < 18446744073709551616) : bitsV .and .u64 x 2251799813685247 = x % 2251799813685248 := and_low 51 (by decide) (by decide) h0 h1
theorem and32 {x : Int} (h0 : 0 ≤ x) (h1 : x < 18446744073709551616) : bitsV .and .u64 x 4294967295 = x % 4294967296 := and_low 32 (by decide) (by decide) h0 h1
theorem or_add (k : Nat) {x y a : Int} (hx : x = a * ((2 ^ k : Nat) : Int)) (ha : 0 ≤ a) (h0 : 0 ≤ y) (hy : y < ((2 ^ k : Nat) : Int)) (h1 : x + y < 18446744073709551616) : bitsV .or .u64 x y = x + y := by
  have hp : (0 : Int) ≤ ((2 ^ k : Nat) : Int) := Int.natCast_nonneg _
  have hx0 : 0 ≤ x := by rw [hx]; exact Int.mul_nonneg ha hp
  rw [or64 x.toNat y.toNat (by omega) (by omega) (by omega) (by omega)]
  have e : x.toNat = a.toNat <<< k := by
    rw [Nat.shiftLeft_eq]
    have : (x.toNat : Int) = ((a.toNat * 2 ^ k : Nat) : Int) := by
      rw [Int.natCast_mul, Int.toNat_of_nonneg hx0, Int.toNat_of_nonneg ha, hx]
    exact Int.ofNat_inj.1 this
  rw [e, ← Nat.shiftLeft_add_eq_or_of_lt (by omega : y.toNat < 2 ^ k), ← e]
  omega
theorem shr_eq (k : IntKind) {x : Int} {n : Nat} (h : n ≤ k.bits) : shrV k x (n : Int) = x / ((2 ^ n : Nat) : Int) := by
  simp only [shrV, Int.toNat_natCast, Nat.min_eq_left h]
  rw [Int.fdiv_eq_ediv_of_nonneg]
  · simp
  · exact Int.le_of_lt (Int.pow_pos (by decide))
theorem shr51 (x : Int) : shrV .u64 x 51 = x / 2251799813685248 := by have := shr_eq .u64 (x := x) (n := 51) (by decide); simpa using this
theorem shr32 (x : Int) : shrV .u64 x 32 = x / 4294967296 := by have := shr_eq .u64 (x := x) (n := 32) (by decide); simpa using this
theorem shl_eq (k : IntKind) {x : Int} {n : Nat} (h : n ≤ k.bits) : shlV k x (n : Int) = k.wrap (x * ((2 ^ n : Nat) : Int)) := by
  simp only [shlV, Int.toNat_natCast, Nat.min_eq_left h]
  simp
theorem shl13 (x : Int) : shlV .u64 x 13 = (x * 8192) % 18446744073709551616 := by have := shl_eq .u64 (x := x) (n := 13) (by decide); rw [wu64_eq] at this; simpa using this

/-! ## The mirror's words, evaluated -/
section
variable {α β : Type}
/- These two are not to be taken for equations by reduction: the kernel would unfold the loops behind them. -/
theorem bnd_eq (x : α) (f : α → Option β) : bnd x f = f x := by
  have h : ∀ y, y = bnd x f → y = f x := fun y e => e
  exact h _ rfl
theorem chk_t {c : Bool} {o : Option β} (h : c = true) : chk c o = o := by subst h; rfl
theorem opt_some {o : Option α} {f : α → Option β} {y : α} (h : o = some y) : opt o f = f y := by subst h; rfl
theorem br_tt {c : Bool} {a b : Option β} (h : c = true) : br c a b = a := by subst h; rfl
theorem br_ff {c : Bool} {a b : Option β} (h : c = false) : br c a b = b := by subst h; rfl
theorem jn_eq {K : Type} (k : K) (g : K → Option β) : jn k g = g k := by
  have h : ∀ y, y = jn k g → y = g k := fun y e => e
  exact h _ rfl
end
theorem big_succ : ∃ n, big = n + 1 := ⟨18446744073709551615, big_eq⟩
theorem inB_t {z : Int} {n : Nat} (h0 : 0 ≤ z) (h1 : z < n) : inB z n = true := by simp [inB, h0, h1]

/-! ## The number 2^255 - 19, and numbers by five digits of 51 bits -/
abbrev PP : Int := 57896044618658097711785492504343953926634992332820282019728792003956564819949
abbrev M51 : Int := 2251799813685248
def fval (x : List Int) : Int := x.getD 0 0 + x.getD 1 0 * 2251799813685248 + x.getD 2 0 * 5070602400912917605986812821504 + x.getD 3 0 * 11417981541647679048466287755595961091061972992 + x.getD 4 0 * 25711008708143844408671393477458601640355247900524685364822016
/-- Five numbers of 64 bits. -/
structure U5 (x : List Int) : Prop where
  a0 : 0 ≤ x.getD 0 0
  a1 : 0 ≤ x.getD 1 0
  a2 : 0 ≤ x.getD 2 0
  a3 : 0 ≤ x.getD 3 0
  a4 : 0 ≤ x.getD 4 0
  b0 : x.getD 0 0 < 18446744073709551616
  b1 : x.getD 1 0 < 18446744073709551616
  b2 : x.getD 2 0 < 18446744073709551616
  b3 : x.getD 3 0 < 18446744073709551616
  b4 : x.getD 4 0 < 18446744073709551616
/-- The digits of a number. -/
def fdig (n : Int) : List Int := [n % M51, n / M51 % M51, n / (M51 * M51) % M51, n / (M51 * M51 * M51) % M51, n / (M51 * M51 * M51 * M51) % M51]
theorem fdig_unique {n d0 d1 d2 d3 d4 : Int} (h : n = d0 + d1 * 2251799813685248 + d2 * 5070602400912917605986812821504 + d3 * 11417981541647679048466287755595961091061972992 + d4 * 25711008708143844408671393477458601640355247900524685364822016)
    (h0 : 0 ≤ d0 ∧ d0 < 2251799813685248) (h1 : 0 ≤ d1 ∧ d1 < 2251799813685248) (h2 : 0 ≤ d2 ∧ d2 < 2251799813685248) (h3 : 0 ≤ d3 ∧ d3 < 2251799813685248) (h4 : 0 ≤ d4 ∧ d4 < 2251799813685248) : [d0, d1, d2, d3, d4] = fdig n := by
  unfold fdig
  simp only [M51, List.cons.injEq, and_true]
  refine ⟨?_, ?_, ?_, ?_, ?_⟩ <;> omega
theorem fval_fdig {n : Int} (h0 : 0 ≤ n) (h1 : n < PP) : fval (fdig n) = n := by
  simp only [fval, fdig, M51, PP, List.getD_cons_zero, List.getD_cons_succ] at *
  omega
theorem fdig_U5 (n : Int) : U5 (fdig n) := by
  constructor <;> simp only [fdig, M51, List.getD_cons_zero, List.getD_cons_succ] <;> omega
end Go.Proofs.YtiflckckekjbnaaDoor
