/- The field: products. -/
import Derived.Test.YtiflckckekjbnaaDoorF1
namespace Go.Proofs.YtiflckckekjbnaaDoor
open Go Go.Sx Go.RowKit
set_option linter.all false
set_option maxRecDepth 100000

theorem mul_bd {a b : Int} {A B : Int} (ha : 0 ≤ a ∧ a ≤ A) (hb : 0 ≤ b ∧ b ≤ B) : 0 ≤ a * b ∧ a * b ≤ A * B :=
  ⟨Int.mul_nonneg ha.1 hb.1, Int.mul_le_mul ha.2 hb.2 hb.1 (Int.le_trans ha.1 ha.2)⟩
theorem mul64_eq {x y : Int} (hx : 0 ≤ x ∧ x < 18446744073709551616) (hy : 0 ≤ y ∧ y < 18446744073709551616) :
    math_bits_Mul64 x y = some (x * y / 18446744073709551616, x * y % 18446744073709551616) := by
  simp only [math_bits_Mul64, bnd_eq, and32 hx.1 hx.2, and32 hy.1 hy.2, shr32]
  have ex : x = x / 4294967296 * 4294967296 + x % 4294967296 := by omega
  have ey : y = y / 4294967296 * 4294967296 + y % 4294967296 := by omega
  have bxl : 0 ≤ x % 4294967296 ∧ x % 4294967296 ≤ 4294967295 := by omega
  have byl : 0 ≤ y % 4294967296 ∧ y % 4294967296 ≤ 4294967295 := by omega
  have bxh : 0 ≤ x / 4294967296 ∧ x / 4294967296 ≤ 4294967295 := by omega
  have byh : 0 ≤ y / 4294967296 ∧ y / 4294967296 ≤ 4294967295 := by omega
  have hxy : x * y = x / 4294967296 * (y / 4294967296) * 18446744073709551616 + (x / 4294967296 * (y % 4294967296) + x % 4294967296 * (y / 4294967296)) * 4294967296 + x % 4294967296 * (y % 4294967296) := by
    conv => lhs; rw [ex, ey]
    generalize x / 4294967296 = a
    generalize x % 4294967296 = b
    generalize y / 4294967296 = c
    generalize y % 4294967296 = d
    grind
  have p00 := mul_bd bxl byl
  have p10 := mul_bd bxh byl
  have p01 := mul_bd bxl byh
  have p11 := mul_bd bxh byh
  rw [hxy]
  generalize x % 4294967296 * (y % 4294967296) = A at *
  generalize x / 4294967296 * (y % 4294967296) = B at *
  generalize x % 4294967296 * (y / 4294967296) = D at *
  generalize x / 4294967296 * (y / 4294967296) = F at *
  clear hxy ex ey bxl byl bxh byh
  rw [wu64_small (x := A) (by omega) (by omega), wu64_small (x := B) (by omega) (by omega), wu64_small (x := D) (by omega) (by omega), wu64_small (x := F) (by omega) (by omega)]
  rw [wu64_small (x := B + A / 4294967296) (by omega) (by omega), and32 (by omega) (by omega)]
  rw [wu64_small (x := (B + A / 4294967296) % 4294967296 + D) (by omega) (by omega), wu64_small (x := F + (B + A / 4294967296) / 4294967296) (by omega) (by omega)]
  rw [wu64_small (by omega) (by omega), wu64_eq]
  congr 1
  refine Prod.ext ?_ rfl
  show F + (B + A / 4294967296) / 4294967296 + ((B + A / 4294967296) % 4294967296 + D) / 4294967296 = _
  omega
/-- A sum of products in two words. -/
def hi64 (s : Int) : Int := s / 18446744073709551616
def lo64 (s : Int) : Int := s % 18446744073709551616
theorem addLo_eq (a b c : Int) : addLo a b c = (a + b + c) % 18446744073709551616 := rfl
theorem addHi_eq (a b c : Int) : addHi a b c = (a + b + c) / 18446744073709551616 := rfl
/-- Two words of a row of numbers stand for s; they get the product. -/
theorem wadd_eq {xs : List Int} {o L : Nat} {s a c : Int} (hs : 0 ≤ s) (h1 : xs.getD o 0 = hi64 s) (h2 : xs.getD (o + 1) 0 = lo64 s) (hL : o + 1 < L) (ha : 0 ≤ a ∧ a < 18446744073709551616) (hc : 0 ≤ c ∧ c < 18446744073709551616)
    (hb : s + a * c < 340282366920938463463374607431768211456) :
    field_wide_add xs o L a c = some (setD (setD xs (o + 1) (lo64 (s + a * c))) o (hi64 (s + a * c))) := by
  have hp := mul_bd (A := 18446744073709551615) (B := 18446744073709551615) (a := a) (b := c) (by omega) (by omega)
  rw [field_wide_add, opt_some (mul64_eq ha hc)]
  rw [chk_t (by simpa using hL)]
  simp only [bnd_eq, h2]
  have e1 : lo64 s + a * c % 18446744073709551616 = lo64 s + a * c % 18446744073709551616 := rfl
  generalize a * c = p at *
  have hlo : 0 ≤ lo64 s ∧ lo64 s < 18446744073709551616 := by unfold lo64; omega
  have hhi : 0 ≤ hi64 s ∧ hi64 s < 18446744073709551616 := by unfold hi64; omega
  rw [chk_t (by simp [addOk]; omega), chk_t (by simpa using hL), chk_t (by simp; omega)]
  simp only [Nat.add_zero, getD_setD]
  rw [if_neg (by omega), h1, chk_t (by simp [addOk, addHi_eq]; omega), chk_t (by simp; omega)]
  simp only [addLo_eq, addHi_eq]
  congr 2
  · congr 1
    unfold lo64; omega
  · unfold hi64 lo64; omega
end Go.Proofs.YtiflckckekjbnaaDoor
