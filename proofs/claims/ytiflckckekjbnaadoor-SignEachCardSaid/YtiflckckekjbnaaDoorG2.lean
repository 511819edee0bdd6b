/- Scalars: loads, stores, products, reduction. -/
import Derived.Test.YtiflckckekjbnaaDoorG1
namespace Go.Proofs.YtiflckckekjbnaaDoor
open Go Go.Sx Go.RowKit
set_option linter.all false
set_option maxRecDepth 100000


theorem loadLE_run (p : List Int) : scalar_load p = some [bitsV .or .u64 (bitsV .or .u64 (bitsV .or .u64 (bitsV .or .u64 (bitsV .or .u64 (bitsV .or .u64 (bitsV .or .u64 (bitsV .or .u64 (0) (shlV .u64 (IntKind.wrap .u64 (p.getD 0 0)) 0)) (shlV .u64 (IntKind.wrap .u64 (p.getD 1 0)) 8)) (shlV .u64 (IntKind.wrap .u64 (p.getD 2 0)) 16)) (shlV .u64 (IntKind.wrap .u64 (p.getD 3 0)) 24)) (shlV .u64 (IntKind.wrap .u64 (p.getD 4 0)) 32)) (shlV .u64 (IntKind.wrap .u64 (p.getD 5 0)) 40)) (shlV .u64 (IntKind.wrap .u64 (p.getD 6 0)) 48)) (shlV .u64 (IntKind.wrap .u64 (p.getD 7 0)) 56), bitsV .or .u64 (bitsV .or .u64 (bitsV .or .u64 (bitsV .or .u64 (bitsV .or .u64 (bitsV .or .u64 (bitsV .or .u64 (bitsV .or .u64 (0) (shlV .u64 (IntKind.wrap .u64 (p.getD 8 0)) 0)) (shlV .u64 (IntKind.wrap .u64 (p.getD 9 0)) 8)) (shlV .u64 (IntKind.wrap .u64 (p.getD 10 0)) 16)) (shlV .u64 (IntKind.wrap .u64 (p.getD 11 0)) 24)) (shlV .u64 (IntKind.wrap .u64 (p.getD 12 0)) 32)) (shlV .u64 (IntKind.wrap .u64 (p.getD 13 0)) 40)) (shlV .u64 (IntKind.wrap .u64 (p.getD 14 0)) 48)) (shlV .u64 (IntKind.wrap .u64 (p.getD 15 0)) 56), bitsV .or .u64 (bitsV .or .u64 (bitsV .or .u64 (bitsV .or .u64 (bitsV .or .u64 (bitsV .or .u64 (bitsV .or .u64 (bitsV .or .u64 (0) (shlV .u64 (IntKind.wrap .u64 (p.getD 16 0)) 0)) (shlV .u64 (IntKind.wrap .u64 (p.getD 17 0)) 8)) (shlV .u64 (IntKind.wrap .u64 (p.getD 18 0)) 16)) (shlV .u64 (IntKind.wrap .u64 (p.getD 19 0)) 24)) (shlV .u64 (IntKind.wrap .u64 (p.getD 20 0)) 32)) (shlV .u64 (IntKind.wrap .u64 (p.getD 21 0)) 40)) (shlV .u64 (IntKind.wrap .u64 (p.getD 22 0)) 48)) (shlV .u64 (IntKind.wrap .u64 (p.getD 23 0)) 56), bitsV .or .u64 (bitsV .or .u64 (bitsV .or .u64 (bitsV .or .u64 (bitsV .or .u64 (bitsV .or .u64 (bitsV .or .u64 (bitsV .or .u64 (0) (shlV .u64 (IntKind.wrap .u64 (p.getD 24 0)) 0)) (shlV .u64 (IntKind.wrap .u64 (p.getD 25 0)) 8)) (shlV .u64 (IntKind.wrap .u64 (p.getD 26 0)) 16)) (shlV .u64 (IntKind.wrap .u64 (p.getD 27 0)) 24)) (shlV .u64 (IntKind.wrap .u64 (p.getD 28 0)) 32)) (shlV .u64 (IntKind.wrap .u64 (p.getD 29 0)) 40)) (shlV .u64 (IntKind.wrap .u64 (p.getD 30 0)) 48)) (shlV .u64 (IntKind.wrap .u64 (p.getD 31 0)) 56)] := by kernel_rfl
theorem Reduce_run (p : List Int) (k : List Int → Option (List Int)) : scalar_Reduce_l1 p k big 0 (List.replicate 8 0) = k [bitsV .or .u64 (bitsV .or .u64 (bitsV .or .u64 (bitsV .or .u64 (bitsV .or .u64 (bitsV .or .u64 (bitsV .or .u64 (bitsV .or .u64 (0) (shlV .u64 (IntKind.wrap .u64 (p.getD 0 0)) 0)) (shlV .u64 (IntKind.wrap .u64 (p.getD 1 0)) 8)) (shlV .u64 (IntKind.wrap .u64 (p.getD 2 0)) 16)) (shlV .u64 (IntKind.wrap .u64 (p.getD 3 0)) 24)) (shlV .u64 (IntKind.wrap .u64 (p.getD 4 0)) 32)) (shlV .u64 (IntKind.wrap .u64 (p.getD 5 0)) 40)) (shlV .u64 (IntKind.wrap .u64 (p.getD 6 0)) 48)) (shlV .u64 (IntKind.wrap .u64 (p.getD 7 0)) 56), bitsV .or .u64 (bitsV .or .u64 (bitsV .or .u64 (bitsV .or .u64 (bitsV .or .u64 (bitsV .or .u64 (bitsV .or .u64 (bitsV .or .u64 (0) (shlV .u64 (IntKind.wrap .u64 (p.getD 8 0)) 0)) (shlV .u64 (IntKind.wrap .u64 (p.getD 9 0)) 8)) (shlV .u64 (IntKind.wrap .u64 (p.getD 10 0)) 16)) (shlV .u64 (IntKind.wrap .u64 (p.getD 11 0)) 24)) (shlV .u64 (IntKind.wrap .u64 (p.getD 12 0)) 32)) (shlV .u64 (IntKind.wrap .u64 (p.getD 13 0)) 40)) (shlV .u64 (IntKind.wrap .u64 (p.getD 14 0)) 48)) (shlV .u64 (IntKind.wrap .u64 (p.getD 15 0)) 56), bitsV .or .u64 (bitsV .or .u64 (bitsV .or .u64 (bitsV .or .u64 (bitsV .or .u64 (bitsV .or .u64 (bitsV .or .u64 (bitsV .or .u64 (0) (shlV .u64 (IntKind.wrap .u64 (p.getD 16 0)) 0)) (shlV .u64 (IntKind.wrap .u64 (p.getD 17 0)) 8)) (shlV .u64 (IntKind.wrap .u64 (p.getD 18 0)) 16)) (shlV .u64 (IntKind.wrap .u64 (p.getD 19 0)) 24)) (shlV .u64 (IntKind.wrap .u64 (p.getD 20 0)) 32)) (shlV .u64 (IntKind.wrap .u64 (p.getD 21 0)) 40)) (shlV .u64 (IntKind.wrap .u64 (p.getD 22 0)) 48)) (shlV .u64 (IntKind.wrap .u64 (p.getD 23 0)) 56), bitsV .or .u64 (bitsV .or .u64 (bitsV .or .u64 (bitsV .or .u64 (bitsV .or .u64 (bitsV .or .u64 (bitsV .or .u64 (bitsV .or .u64 (0) (shlV .u64 (IntKind.wrap .u64 (p.getD 24 0)) 0)) (shlV .u64 (IntKind.wrap .u64 (p.getD 25 0)) 8)) (shlV .u64 (IntKind.wrap .u64 (p.getD 26 0)) 16)) (shlV .u64 (IntKind.wrap .u64 (p.getD 27 0)) 24)) (shlV .u64 (IntKind.wrap .u64 (p.getD 28 0)) 32)) (shlV .u64 (IntKind.wrap .u64 (p.getD 29 0)) 40)) (shlV .u64 (IntKind.wrap .u64 (p.getD 30 0)) 48)) (shlV .u64 (IntKind.wrap .u64 (p.getD 31 0)) 56), bitsV .or .u64 (bitsV .or .u64 (bitsV .or .u64 (bitsV .or .u64 (bitsV .or .u64 (bitsV .or .u64 (bitsV .or .u64 (bitsV .or .u64 (0) (shlV .u64 (IntKind.wrap .u64 (p.getD 32 0)) 0)) (shlV .u64 (IntKind.wrap .u64 (p.getD 33 0)) 8)) (shlV .u64 (IntKind.wrap .u64 (p.getD 34 0)) 16)) (shlV .u64 (IntKind.wrap .u64 (p.getD 35 0)) 24)) (shlV .u64 (IntKind.wrap .u64 (p.getD 36 0)) 32)) (shlV .u64 (IntKind.wrap .u64 (p.getD 37 0)) 40)) (shlV .u64 (IntKind.wrap .u64 (p.getD 38 0)) 48)) (shlV .u64 (IntKind.wrap .u64 (p.getD 39 0)) 56), bitsV .or .u64 (bitsV .or .u64 (bitsV .or .u64 (bitsV .or .u64 (bitsV .or .u64 (bitsV .or .u64 (bitsV .or .u64 (bitsV .or .u64 (0) (shlV .u64 (IntKind.wrap .u64 (p.getD 40 0)) 0)) (shlV .u64 (IntKind.wrap .u64 (p.getD 41 0)) 8)) (shlV .u64 (IntKind.wrap .u64 (p.getD 42 0)) 16)) (shlV .u64 (IntKind.wrap .u64 (p.getD 43 0)) 24)) (shlV .u64 (IntKind.wrap .u64 (p.getD 44 0)) 32)) (shlV .u64 (IntKind.wrap .u64 (p.getD 45 0)) 40)) (shlV .u64 (IntKind.wrap .u64 (p.getD 46 0)) 48)) (shlV .u64 (IntKind.wrap .u64 (p.getD 47 0)) 56), bitsV .or .u64 (bitsV .or .u64 (bitsV .or .u64 (bitsV .or .u64 (bitsV .or .u64 (bitsV .or .u64 (bitsV .or .u64 (bitsV .or .u64 (0) (shlV .u64 (IntKind.wrap .u64 (p.getD 48 0)) 0)) (shlV .u64 (IntKind.wrap .u64 (p.getD 49 0)) 8)) (shlV .u64 (IntKind.wrap .u64 (p.getD 50 0)) 16)) (shlV .u64 (IntKind.wrap .u64 (p.getD 51 0)) 24)) (shlV .u64 (IntKind.wrap .u64 (p.getD 52 0)) 32)) (shlV .u64 (IntKind.wrap .u64 (p.getD 53 0)) 40)) (shlV .u64 (IntKind.wrap .u64 (p.getD 54 0)) 48)) (shlV .u64 (IntKind.wrap .u64 (p.getD 55 0)) 56), bitsV .or .u64 (bitsV .or .u64 (bitsV .or .u64 (bitsV .or .u64 (bitsV .or .u64 (bitsV .or .u64 (bitsV .or .u64 (bitsV .or .u64 (0) (shlV .u64 (IntKind.wrap .u64 (p.getD 56 0)) 0)) (shlV .u64 (IntKind.wrap .u64 (p.getD 57 0)) 8)) (shlV .u64 (IntKind.wrap .u64 (p.getD 58 0)) 16)) (shlV .u64 (IntKind.wrap .u64 (p.getD 59 0)) 24)) (shlV .u64 (IntKind.wrap .u64 (p.getD 60 0)) 32)) (shlV .u64 (IntKind.wrap .u64 (p.getD 61 0)) 40)) (shlV .u64 (IntKind.wrap .u64 (p.getD 62 0)) 48)) (shlV .u64 (IntKind.wrap .u64 (p.getD 63 0)) 56)] := by kernel_rfl
theorem storeLE_run (x : Int) : bits_StoreLE_uint64 x = some [IntKind.wrap .u8 (x), IntKind.wrap .u8 (shrV .u64 (x) 8), IntKind.wrap .u8 (shrV .u64 (shrV .u64 (x) 8) 8), IntKind.wrap .u8 (shrV .u64 (shrV .u64 (shrV .u64 (x) 8) 8) 8), IntKind.wrap .u8 (shrV .u64 (shrV .u64 (shrV .u64 (shrV .u64 (x) 8) 8) 8) 8), IntKind.wrap .u8 (shrV .u64 (shrV .u64 (shrV .u64 (shrV .u64 (shrV .u64 (x) 8) 8) 8) 8) 8), IntKind.wrap .u8 (shrV .u64 (shrV .u64 (shrV .u64 (shrV .u64 (shrV .u64 (shrV .u64 (x) 8) 8) 8) 8) 8) 8), IntKind.wrap .u8 (shrV .u64 (shrV .u64 (shrV .u64 (shrV .u64 (shrV .u64 (shrV .u64 (shrV .u64 (x) 8) 8) 8) 8) 8) 8) 8)] := by kernel_rfl
theorem store_run (p : List Int) : scalar_store p = some [IntKind.wrap .u8 (p.getD 0 0), IntKind.wrap .u8 (shrV .u64 (p.getD 0 0) 8), IntKind.wrap .u8 (shrV .u64 (shrV .u64 (p.getD 0 0) 8) 8), IntKind.wrap .u8 (shrV .u64 (shrV .u64 (shrV .u64 (p.getD 0 0) 8) 8) 8), IntKind.wrap .u8 (shrV .u64 (shrV .u64 (shrV .u64 (shrV .u64 (p.getD 0 0) 8) 8) 8) 8), IntKind.wrap .u8 (shrV .u64 (shrV .u64 (shrV .u64 (shrV .u64 (shrV .u64 (p.getD 0 0) 8) 8) 8) 8) 8), IntKind.wrap .u8 (shrV .u64 (shrV .u64 (shrV .u64 (shrV .u64 (shrV .u64 (shrV .u64 (p.getD 0 0) 8) 8) 8) 8) 8) 8), IntKind.wrap .u8 (shrV .u64 (shrV .u64 (shrV .u64 (shrV .u64 (shrV .u64 (shrV .u64 (shrV .u64 (p.getD 0 0) 8) 8) 8) 8) 8) 8) 8), IntKind.wrap .u8 (p.getD 1 0), IntKind.wrap .u8 (shrV .u64 (p.getD 1 0) 8), IntKind.wrap .u8 (shrV .u64 (shrV .u64 (p.getD 1 0) 8) 8), IntKind.wrap .u8 (shrV .u64 (shrV .u64 (shrV .u64 (p.getD 1 0) 8) 8) 8), IntKind.wrap .u8 (shrV .u64 (shrV .u64 (shrV .u64 (shrV .u64 (p.getD 1 0) 8) 8) 8) 8), IntKind.wrap .u8 (shrV .u64 (shrV .u64 (shrV .u64 (shrV .u64 (shrV .u64 (p.getD 1 0) 8) 8) 8) 8) 8), IntKind.wrap .u8 (shrV .u64 (shrV .u64 (shrV .u64 (shrV .u64 (shrV .u64 (shrV .u64 (p.getD 1 0) 8) 8) 8) 8) 8) 8), IntKind.wrap .u8 (shrV .u64 (shrV .u64 (shrV .u64 (shrV .u64 (shrV .u64 (shrV .u64 (shrV .u64 (p.getD 1 0) 8) 8) 8) 8) 8) 8) 8), IntKind.wrap .u8 (p.getD 2 0), IntKind.wrap .u8 (shrV .u64 (p.getD 2 0) 8), IntKind.wrap .u8 (shrV .u64 (shrV .u64 (p.getD 2 0) 8) 8), IntKind.wrap .u8 (shrV .u64 (shrV .u64 (shrV .u64 (p.getD 2 0) 8) 8) 8), IntKind.wrap .u8 (shrV .u64 (shrV .u64 (shrV .u64 (shrV .u64 (p.getD 2 0) 8) 8) 8) 8), IntKind.wrap .u8 (shrV .u64 (shrV .u64 (shrV .u64 (shrV .u64 (shrV .u64 (p.getD 2 0) 8) 8) 8) 8) 8), IntKind.wrap .u8 (shrV .u64 (shrV .u64 (shrV .u64 (shrV .u64 (shrV .u64 (shrV .u64 (p.getD 2 0) 8) 8) 8) 8) 8) 8), IntKind.wrap .u8 (shrV .u64 (shrV .u64 (shrV .u64 (shrV .u64 (shrV .u64 (shrV .u64 (shrV .u64 (p.getD 2 0) 8) 8) 8) 8) 8) 8) 8), IntKind.wrap .u8 (p.getD 3 0), IntKind.wrap .u8 (shrV .u64 (p.getD 3 0) 8), IntKind.wrap .u8 (shrV .u64 (shrV .u64 (p.getD 3 0) 8) 8), IntKind.wrap .u8 (shrV .u64 (shrV .u64 (shrV .u64 (p.getD 3 0) 8) 8) 8), IntKind.wrap .u8 (shrV .u64 (shrV .u64 (shrV .u64 (shrV .u64 (p.getD 3 0) 8) 8) 8) 8), IntKind.wrap .u8 (shrV .u64 (shrV .u64 (shrV .u64 (shrV .u64 (shrV .u64 (p.getD 3 0) 8) 8) 8) 8) 8), IntKind.wrap .u8 (shrV .u64 (shrV .u64 (shrV .u64 (shrV .u64 (shrV .u64 (shrV .u64 (p.getD 3 0) 8) 8) 8) 8) 8) 8), IntKind.wrap .u8 (shrV .u64 (shrV .u64 (shrV .u64 (shrV .u64 (shrV .u64 (shrV .u64 (shrV .u64 (p.getD 3 0) 8) 8) 8) 8) 8) 8) 8)] := by kernel_rfl
theorem u8_rng (x : Int) : 0 ≤ IntKind.wrap .u8 x ∧ IntKind.wrap .u8 x < 256 := by rw [wu8_eq]; omega
theorem store_tot (p : List Int) : ∃ r, scalar_store p = some r ∧ Byt r ∧ r.length = 32 := by
  refine ⟨_, store_run p, byt_of ?_, rfl⟩
  repeat' (first | exact u8_rng _ | exact List.forall_mem_nil _ | refine List.forall_mem_cons.2 ⟨?_, ?_⟩)
theorem load_tot (p : List Int) : ∃ r, scalar_load p = some r ∧ W64 r := by
  refine ⟨_, loadLE_run p, w64_of ?_⟩
  repeat' (first | exact or_rng _ _ | exact List.forall_mem_nil _ | refine List.forall_mem_cons.2 ⟨?_, ?_⟩)
theorem canonical_tot (p : List Int) : ∃ b, scalar_Canonical p = some b := by
  obtain ⟨r, e, hr⟩ := load_tot p
  obtain ⟨a, c, e2, _⟩ := minus_eq hr W64_order
  exact ⟨_, by rw [scalar_Canonical, opt_some e, opt_some e2]⟩
/-! ## times -/
theorem addOk_t0 {x y : Int} (hx : 0 ≤ x) (hy : 0 ≤ y) : addOk x y 0 = true := by
  unfold addOk
  rw [decide_eq_true hx, decide_eq_true hy]; rfl
theorem u64_rng (x : Int) : 0 ≤ IntKind.wrap .u64 x ∧ IntKind.wrap .u64 x < 18446744073709551616 := by rw [wu64_eq]; omega
theorem addLo_rng (x y c : Int) : 0 ≤ addLo x y c ∧ addLo x y c < 18446744073709551616 := by unfold addLo; omega
theorem times_inner {q : List Int} (hq : W64 q) {i : Nat} {z : Int} (hz : 0 ≤ z ∧ z < 18446744073709551616) {L : Nat} (hL : i + q.length ≤ L) (hb : L < 1000000) (m : Nat) : ∀ (n : Nat) (j : Nat) (l : List Int) (c : Int), j + m = q.length → l.length = L → W64 l → (0 ≤ c ∧ c < 18446744073709551616) →
    ∃ l' c', (∀ k, scalar_times_l2 q (i : Int) z k (n + 1 + m) l c (j : Int) = k l' c') ∧ l'.length = L ∧ W64 l' ∧ (0 ≤ c' ∧ c' < 18446744073709551616) := by
  induction m with
  | zero =>
    intro n j l c hj hl hw hc
    refine ⟨l, c, fun k => ?_, hl, hw, hc⟩
    rw [Nat.add_zero, scalar_times_l2, scalar_times_b2, br_ff (by simp; omega)]
  | succ m ih =>
    intro n j l c hj hl hw hc
    have hqj := hq j
    have hmul := mul64_eq hz hqj
    have hlj := hw (i + j)
    have hp : 0 ≤ z * q.getD j 0 := Int.mul_nonneg hz.1 hqj.1
    have e1 : IntKind.wrap .i64 ((i : Int) + (j : Int)) = ((i + j : Nat) : Int) := by rw [wi64_small (by omega) (by omega)]; omega
    have e2 : IntKind.wrap .i64 ((j : Int) + 1) = ((j + 1 : Nat) : Int) := by rw [wi64_small (by omega) (by omega)]; rfl
    have hj' : j < q.length := by omega
    have hbr : decide ((j : Int) < (q.length : Int)) = true := by simp; omega
    have hlo : 0 ≤ z * q.getD j 0 % 18446744073709551616 := by omega
    obtain ⟨l', c', e, h1, h2, h3⟩ := ih n (j + 1) (setG 0 l (i + j) (addLo (addLo (z * q.getD j 0 % 18446744073709551616) (l.getD (i + j) 0) 0) c 0)) (IntKind.wrap .u64 (IntKind.wrap .u64 (z * q.getD j 0 / 18446744073709551616 + addHi (z * q.getD j 0 % 18446744073709551616) (l.getD (i + j) 0) 0) + addHi (addLo (z * q.getD j 0 % 18446744073709551616) (l.getD (i + j) 0) 0) c 0)) (by omega) (by rw [setG_eq (by omega), List.length_set, hl]) (W64_setG hw (addLo_rng _ _ _)) (u64_rng _)
    refine ⟨l', c', fun k => ?_, h1, h2, h3⟩
    rw [← Nat.add_assoc, scalar_times_l2, scalar_times_b2, br_tt hbr, chk_t (inB_t (by omega) (by omega)), bnd_eq]
    simp only [Int.toNat_natCast]
    rw [opt_some hmul, bnd_eq, e1, chk_t (inB_t (by omega) (by omega)), bnd_eq]
    simp only [Int.toNat_natCast]
    rw [chk_t (addOk_t0 hlo hlj.1), bnd_eq, bnd_eq, bnd_eq, chk_t (addOk_t0 (addLo_rng _ _ _).1 hc.1), bnd_eq, bnd_eq, bnd_eq, bnd_eq, chk_t (inB_t (by omega) (by omega)), bnd_eq, bnd_eq, e2]
    exact e k
theorem times_outer {p q : List Int} (hp : W64 p) (hq : W64 q) {L : Nat} (hL : p.length + q.length = L) (hb : L < 1000000) (m : Nat) : ∀ (n : Nat) (i : Nat) (l : List Int), i + m = p.length → l.length = L → W64 l →
    ∃ l', scalar_times_l1 p q some (n + 1 + m) l (i : Int) = some l' ∧ l'.length = L ∧ W64 l' := by
  induction m with
  | zero =>
    intro n i l hi hl hw
    refine ⟨l, ?_, hl, hw⟩
    rw [Nat.add_zero, scalar_times_l1, scalar_times_b1, br_ff (by simp; omega)]
  | succ m ih =>
    intro n i l hi hl hw
    have hbr : decide ((i : Int) < (p.length : Int)) = true := by simp; omega
    obtain ⟨n', hn⟩ : ∃ n', big = n' + 1 + q.length := ⟨18446744073709551615 - q.length, by have : big = 18446744073709551616 := big_eq; omega⟩
    obtain ⟨l', c', e, hl', hw', hc'⟩ := times_inner hq (i := i) (hp i) (L := L) (by omega) hb q.length n' 0 l 0 (by omega) hl hw (by decide)
    have e1 : IntKind.wrap .i64 ((i : Int) + (q.length : Int)) = ((i + q.length : Nat) : Int) := by rw [wi64_small (by omega) (by omega)]; omega
    have e2 : IntKind.wrap .i64 ((i : Int) + 1) = ((i + 1 : Nat) : Int) := by rw [wi64_small (by omega) (by omega)]; rfl
    obtain ⟨l2, e3, hl2, hw2⟩ := ih n (i + 1) (setG 0 l' (i + q.length) c') (by omega) (by rw [setG_eq (by omega), List.length_set, hl']) (W64_setG hw' hc')
    refine ⟨l2, ?_, hl2, hw2⟩
    rw [← Nat.add_assoc, scalar_times_l1, scalar_times_b1, br_tt hbr, chk_t (inB_t (by omega) (by omega)), bnd_eq, jn_eq]
    simp only [Int.toNat_natCast]
    rw [hn]
    refine (e _).trans ?_
    simp only [bnd_eq, e1, e2]
    rw [chk_t (inB_t (by omega) (by omega))]
    exact e3
theorem times_tot {p q : List Int} (hp : W64 p) (hq : W64 q) (hb : p.length + q.length < 1000000) : ∃ r, scalar_times p q = some r ∧ r.length = p.length + q.length ∧ W64 r := by
  have e1 : IntKind.wrap .i64 ((p.length : Int) + (q.length : Int)) = ((p.length + q.length : Nat) : Int) := by rw [wi64_small (by omega) (by omega)]; omega
  obtain ⟨n, hn⟩ : ∃ n', big = n' + 1 + p.length := ⟨18446744073709551615 - p.length, by have : big = 18446744073709551616 := big_eq; omega⟩
  obtain ⟨r, e, h1, h2⟩ := times_outer hp hq (L := p.length + q.length) rfl hb p.length n 0 (List.replicate (p.length + q.length) 0) (by omega) (by simp) (W64_replicate _)
  refine ⟨r, ?_, h1, h2⟩
  rw [scalar_times, bnd_eq, e1, chk_t (by unfold mkB; simp; omega), jn_eq, Int.toNat_natCast, hn]
  exact e
/-! ## split -/
theorem shr60_rng {x : Int} (h : 0 ≤ x ∧ x < 18446744073709551616) : 0 ≤ shrV .u64 x 60 ∧ shrV .u64 x 60 < 18446744073709551616 := by
  have := shr_eq .u64 (x := x) (n := 60) (by decide)
  rw [show ((60 : Nat) : Int) = 60 from rfl] at this
  rw [this]
  have : ((2 ^ 60 : Nat) : Int) = 1152921504606846976 := by decide
  rw [this]; omega
theorem W64_app {l r : List Int} (h : W64 l) (hr : W64 r) : W64 (l ++ r) := by
  intro i
  by_cases hi : i < l.length
  · have : (l ++ r).getD i 0 = l.getD i 0 := by simp [List.getD_eq_getElem?_getD, List.getElem?_append_left hi]
    rw [this]; exact h i
  · have : (l ++ r).getD i 0 = r.getD (i - l.length) 0 := by simp [List.getD_eq_getElem?_getD, List.getElem?_append_right (Nat.le_of_not_lt hi)]
    rw [this]; exact hr _
theorem W64_one {z : Int} (h : 0 ≤ z ∧ z < 18446744073709551616) : W64 [z] := w64_of (by simpa using h)
theorem split_loop {p : List Int} (hp : W64 p) (hb : p.length < 1000000) {k : List Int → Option (List Int × List Int)} (m : Nat) : ∀ (n i : Nat) (l : List Int), i + m = p.length → l.length ≤ i → W64 l →
    ∃ l', scalar_split_l1 p k (n + 1 + m) l (i : Int) = k l' ∧ l'.length = l.length + m ∧ W64 l' := by
  induction m with
  | zero =>
    intro n i l hi hl hw
    refine ⟨l, ?_, rfl, hw⟩
    rw [Nat.add_zero, scalar_split_l1, scalar_split_b1, br_ff (by simp; omega)]
  | succ m ih =>
    intro n i l hi hl hw
    have hbr : decide ((i : Int) < (p.length : Int)) = true := by simp; omega
    have e2 : IntKind.wrap .i64 ((i : Int) + 1) = ((i + 1 : Nat) : Int) := by rw [wi64_small (by omega) (by omega)]; rfl
    have hs := shr60_rng (hp i)
    by_cases h : i + 1 < p.length
    · obtain ⟨l', e, h1, h2⟩ := ih n (i + 1) (l ++ [bitsV .or .u64 (shrV .u64 (p.getD i 0) 60) (shlV .u64 (p.getD (i + 1) 0) 4)]) (by omega) (by simp; omega) (W64_app hw (W64_one (or_rng _ _)))
      refine ⟨l', ?_, by rw [h1]; simp; omega, h2⟩
      rw [← Nat.add_assoc, scalar_split_l1, scalar_split_b1, br_tt hbr, chk_t (inB_t (by omega) (by omega))]
      simp only [bnd_eq, e2, jn_eq, Int.toNat_natCast]
      rw [br_tt (by simp; omega), chk_t (inB_t (by omega) (by omega))]
      rw [chk_t (by simp; omega)]
      exact e
    · obtain ⟨l', e, h1, h2⟩ := ih n (i + 1) (l ++ [shrV .u64 (p.getD i 0) 60]) (by omega) (by simp; omega) (W64_app hw (W64_one hs))
      refine ⟨l', ?_, by rw [h1]; simp; omega, h2⟩
      rw [← Nat.add_assoc, scalar_split_l1, scalar_split_b1, br_tt hbr, chk_t (inB_t (by omega) (by omega))]
      simp only [bnd_eq, e2, jn_eq, Int.toNat_natCast]
      rw [br_ff (by simp; omega)]
      rw [chk_t (by simp; omega)]
      exact e
theorem split_tot {p : List Int} (hp : W64 p) (h4 : 4 ≤ p.length) (hb : p.length < 1000000) : ∃ a h, scalar_split p = some (a, h) ∧ W64 a ∧ W64 h ∧ h.length = p.length - 3 := by
  obtain ⟨n, hn⟩ : ∃ n', big = n' + 1 + (p.length - 3) := ⟨18446744073709551615 - (p.length - 3), by have : big = 18446744073709551616 := big_eq; omega⟩
  have hw0 : W64 (wr (List.replicate 4 0) 0 (p.take 4)) := by
    intro i
    rw [wr_getD]
    split
    · rename_i h
      have : (p.take 4).getD (i - 0) 0 = p.getD i 0 := by
        simp only [List.length_take] at h
        have h4' : i < 4 := by omega
        simp [List.getD_eq_getElem?_getD, List.getElem?_take, h4']
      rw [this]; exact hp i
    · exact W64_replicate 4 i
  obtain ⟨l', e, h1, h2⟩ := split_loop hp hb (k := fun l128 => some (setD (wr (List.replicate 4 0) 0 (p.take 4)) 3 (bitsV .and .u64 ((wr (List.replicate 4 0) 0 (p.take 4)).getD 3 0) 1152921504606846975), l128)) (p.length - 3) n 3 [] (by omega) (by simp) (W64_replicate 0)
  refine ⟨setD (wr (List.replicate 4 0) 0 (p.take 4)) 3 (bitsV .and .u64 ((wr (List.replicate 4 0) 0 (p.take 4)).getD 3 0) 1152921504606846975), l', ?_, W64_set hw0 (and_rng _ _), h2, by simpa using h1⟩
  simp only [scalar_split, bnd_eq, jn_eq]
  rw [hn]
  exact e
/-! ## reduce -/
theorem W64_rest : W64 [6346243789798364141, 1503914060200516822] := w64_of (by decide)
theorem reduce_round {l : List Int} (n : Nat) {i : Nat} {a : List (List Int)} {k : List (List Int) → Option (List Int)} (hi : i < 4) (hl : W64 l) (h4 : 4 ≤ l.length) (hb : l.length < 1000) (ha : ∀ i, W64 (a.getD i (List.replicate 4 0))) :
    ∃ l' a', scalar_reduce_l1 k (n + 1) l (i : Int) a = scalar_reduce_l1 k n l' ((i + 1 : Nat) : Int) a' ∧ W64 l' ∧ l'.length = l.length - 1 ∧ (∀ i, W64 (a'.getD i (List.replicate 4 0))) := by
  obtain ⟨lo, h, e, w1, w2, w3⟩ := split_tot hl h4 (by omega)
  obtain ⟨s, c, e2, ws, _, _⟩ := plus_eq (ha (i % 2)) w1
  obtain ⟨t, e3, l3, wt⟩ := times_tot w2 W64_rest (by simp; omega)
  have em : Int.tmod (i : Int) 2 = ((i % 2 : Nat) : Int) := by rw [Int.tmod_eq_emod_of_nonneg (by omega)]; omega
  have e1 : IntKind.wrap .i64 ((i : Int) + 1) = ((i + 1 : Nat) : Int) := by rw [wi64_small (by omega) (by omega)]; rfl
  refine ⟨t, setG (List.replicate 4 0) a (i % 2) s, ?_, wt, by rw [l3, w3]; simp; omega, ?_⟩
  · rw [scalar_reduce_l1, scalar_reduce_b1, br_tt (by simp; omega), opt_some e]
    simp only [bnd_eq, em, e1, Int.toNat_natCast]
    rw [chk_t (inB_t (by omega) (by omega)), opt_some e2, chk_t (inB_t (by omega) (by omega)), scalar_rest, opt_some rfl, opt_some e3]
  · intro j
    rw [getD_setG]
    split
    · exact ws
    · exact ha j
theorem reduce_tot {p : List Int} (hp : W64 p) (h8 : p.length = 8) : ∃ r, scalar_reduce p = some r ∧ W64 r ∧ 0 ≤ V4 r ∧ V4 r < VL := by
  obtain ⟨n, hn⟩ : ∃ n, big = n + 1 + 1 + 1 + 1 + 1 := ⟨18446744073709551611, big_eq⟩
  rw [scalar_reduce, jn_eq, hn]
  have ha0 : ∀ i, W64 ((List.replicate 2 (List.replicate 4 0) : List (List Int)).getD i (List.replicate 4 0)) := by
    intro i
    have : (List.replicate 2 (List.replicate 4 0) : List (List Int)).getD i (List.replicate 4 0) = List.replicate 4 0 := by
      match i with
      | 0 => rfl
      | 1 => rfl
      | i + 2 => rfl
    rw [this]; exact W64_replicate 4
  obtain ⟨l1, a1, f1, w1, n1, h1⟩ := reduce_round (n + 1 + 1 + 1 + 1) (i := 0) (k := fun (a121 : List (List Int)) => opt (scalar_plus G_order G_order) fun y239 =>
 bnd (a121.getD 0 (List.replicate 4 0)) fun x242 =>
 opt (scalar_plus x242 y239.1) fun y243 =>
 bnd (a121.getD 1 (List.replicate 4 0)) fun x246 =>
 opt (scalar_minus y243.1 x246) fun y247 =>
 opt (scalar_below y247.1) fun y249 =>
 some y249) (by decide) hp (by omega) (by omega) ha0
  obtain ⟨l2, a2, f2, w2, n2, h2⟩ := reduce_round (n + 1 + 1 + 1) (i := 1) (k := _) (by decide) w1 (by omega) (by omega) h1
  obtain ⟨l3, a3, f3, w3, n3, h3⟩ := reduce_round (n + 1 + 1) (i := 2) (k := _) (by decide) w2 (by omega) (by omega) h2
  obtain ⟨l4, a4, f4, w4, n4, h4⟩ := reduce_round (n + 1) (i := 3) (k := _) (by decide) w3 (by omega) (by omega) h3
  obtain ⟨g1, c1, q1, v1, _, _⟩ := plus_eq W64_order W64_order
  obtain ⟨g2, c2, q2, v2, _, _⟩ := plus_eq (h4 0) v1
  obtain ⟨g3, c3, q3, v3, _, _⟩ := minus_eq v2 (h4 1)
  obtain ⟨r, q4, v4, v5⟩ := below_eq v3
  refine ⟨r, ?_, v4, (V4_rng v4).1, by rw [v5]; exact Int.emod_lt_of_pos _ (by decide)⟩
  refine f1.trans (f2.trans (f3.trans (f4.trans ?_)))
  rw [scalar_reduce_l1, scalar_reduce_b1, br_ff (by decide), opt_some q1, bnd_eq, opt_some q2, bnd_eq, opt_some q3, opt_some q4]
theorem tk8 (a b c d e f g h : Int) : tk [a, b, c, d, e, f, g, h] 0 8 = [a, b, c, d, e, f, g, h] := rfl
theorem Reduce_tot (p : List Int) : ∃ r, scalar_Reduce p = some r ∧ Byt r ∧ r.length = 32 := by
  rw [scalar_Reduce, jn_eq, Reduce_run]
  obtain ⟨r, e, w, _⟩ := reduce_tot (p := [bitsV .or .u64 (bitsV .or .u64 (bitsV .or .u64 (bitsV .or .u64 (bitsV .or .u64 (bitsV .or .u64 (bitsV .or .u64 (bitsV .or .u64 (0) (shlV .u64 (IntKind.wrap .u64 (p.getD 0 0)) 0)) (shlV .u64 (IntKind.wrap .u64 (p.getD 1 0)) 8)) (shlV .u64 (IntKind.wrap .u64 (p.getD 2 0)) 16)) (shlV .u64 (IntKind.wrap .u64 (p.getD 3 0)) 24)) (shlV .u64 (IntKind.wrap .u64 (p.getD 4 0)) 32)) (shlV .u64 (IntKind.wrap .u64 (p.getD 5 0)) 40)) (shlV .u64 (IntKind.wrap .u64 (p.getD 6 0)) 48)) (shlV .u64 (IntKind.wrap .u64 (p.getD 7 0)) 56), bitsV .or .u64 (bitsV .or .u64 (bitsV .or .u64 (bitsV .or .u64 (bitsV .or .u64 (bitsV .or .u64 (bitsV .or .u64 (bitsV .or .u64 (0) (shlV .u64 (IntKind.wrap .u64 (p.getD 8 0)) 0)) (shlV .u64 (IntKind.wrap .u64 (p.getD 9 0)) 8)) (shlV .u64 (IntKind.wrap .u64 (p.getD 10 0)) 16)) (shlV .u64 (IntKind.wrap .u64 (p.getD 11 0)) 24)) (shlV .u64 (IntKind.wrap .u64 (p.getD 12 0)) 32)) (shlV .u64 (IntKind.wrap .u64 (p.getD 13 0)) 40)) (shlV .u64 (IntKind.wrap .u64 (p.getD 14 0)) 48)) (shlV .u64 (IntKind.wrap .u64 (p.getD 15 0)) 56), bitsV .or .u64 (bitsV .or .u64 (bitsV .or .u64 (bitsV .or .u64 (bitsV .or .u64 (bitsV .or .u64 (bitsV .or .u64 (bitsV .or .u64 (0) (shlV .u64 (IntKind.wrap .u64 (p.getD 16 0)) 0)) (shlV .u64 (IntKind.wrap .u64 (p.getD 17 0)) 8)) (shlV .u64 (IntKind.wrap .u64 (p.getD 18 0)) 16)) (shlV .u64 (IntKind.wrap .u64 (p.getD 19 0)) 24)) (shlV .u64 (IntKind.wrap .u64 (p.getD 20 0)) 32)) (shlV .u64 (IntKind.wrap .u64 (p.getD 21 0)) 40)) (shlV .u64 (IntKind.wrap .u64 (p.getD 22 0)) 48)) (shlV .u64 (IntKind.wrap .u64 (p.getD 23 0)) 56), bitsV .or .u64 (bitsV .or .u64 (bitsV .or .u64 (bitsV .or .u64 (bitsV .or .u64 (bitsV .or .u64 (bitsV .or .u64 (bitsV .or .u64 (0) (shlV .u64 (IntKind.wrap .u64 (p.getD 24 0)) 0)) (shlV .u64 (IntKind.wrap .u64 (p.getD 25 0)) 8)) (shlV .u64 (IntKind.wrap .u64 (p.getD 26 0)) 16)) (shlV .u64 (IntKind.wrap .u64 (p.getD 27 0)) 24)) (shlV .u64 (IntKind.wrap .u64 (p.getD 28 0)) 32)) (shlV .u64 (IntKind.wrap .u64 (p.getD 29 0)) 40)) (shlV .u64 (IntKind.wrap .u64 (p.getD 30 0)) 48)) (shlV .u64 (IntKind.wrap .u64 (p.getD 31 0)) 56), bitsV .or .u64 (bitsV .or .u64 (bitsV .or .u64 (bitsV .or .u64 (bitsV .or .u64 (bitsV .or .u64 (bitsV .or .u64 (bitsV .or .u64 (0) (shlV .u64 (IntKind.wrap .u64 (p.getD 32 0)) 0)) (shlV .u64 (IntKind.wrap .u64 (p.getD 33 0)) 8)) (shlV .u64 (IntKind.wrap .u64 (p.getD 34 0)) 16)) (shlV .u64 (IntKind.wrap .u64 (p.getD 35 0)) 24)) (shlV .u64 (IntKind.wrap .u64 (p.getD 36 0)) 32)) (shlV .u64 (IntKind.wrap .u64 (p.getD 37 0)) 40)) (shlV .u64 (IntKind.wrap .u64 (p.getD 38 0)) 48)) (shlV .u64 (IntKind.wrap .u64 (p.getD 39 0)) 56), bitsV .or .u64 (bitsV .or .u64 (bitsV .or .u64 (bitsV .or .u64 (bitsV .or .u64 (bitsV .or .u64 (bitsV .or .u64 (bitsV .or .u64 (0) (shlV .u64 (IntKind.wrap .u64 (p.getD 40 0)) 0)) (shlV .u64 (IntKind.wrap .u64 (p.getD 41 0)) 8)) (shlV .u64 (IntKind.wrap .u64 (p.getD 42 0)) 16)) (shlV .u64 (IntKind.wrap .u64 (p.getD 43 0)) 24)) (shlV .u64 (IntKind.wrap .u64 (p.getD 44 0)) 32)) (shlV .u64 (IntKind.wrap .u64 (p.getD 45 0)) 40)) (shlV .u64 (IntKind.wrap .u64 (p.getD 46 0)) 48)) (shlV .u64 (IntKind.wrap .u64 (p.getD 47 0)) 56), bitsV .or .u64 (bitsV .or .u64 (bitsV .or .u64 (bitsV .or .u64 (bitsV .or .u64 (bitsV .or .u64 (bitsV .or .u64 (bitsV .or .u64 (0) (shlV .u64 (IntKind.wrap .u64 (p.getD 48 0)) 0)) (shlV .u64 (IntKind.wrap .u64 (p.getD 49 0)) 8)) (shlV .u64 (IntKind.wrap .u64 (p.getD 50 0)) 16)) (shlV .u64 (IntKind.wrap .u64 (p.getD 51 0)) 24)) (shlV .u64 (IntKind.wrap .u64 (p.getD 52 0)) 32)) (shlV .u64 (IntKind.wrap .u64 (p.getD 53 0)) 40)) (shlV .u64 (IntKind.wrap .u64 (p.getD 54 0)) 48)) (shlV .u64 (IntKind.wrap .u64 (p.getD 55 0)) 56), bitsV .or .u64 (bitsV .or .u64 (bitsV .or .u64 (bitsV .or .u64 (bitsV .or .u64 (bitsV .or .u64 (bitsV .or .u64 (bitsV .or .u64 (0) (shlV .u64 (IntKind.wrap .u64 (p.getD 56 0)) 0)) (shlV .u64 (IntKind.wrap .u64 (p.getD 57 0)) 8)) (shlV .u64 (IntKind.wrap .u64 (p.getD 58 0)) 16)) (shlV .u64 (IntKind.wrap .u64 (p.getD 59 0)) 24)) (shlV .u64 (IntKind.wrap .u64 (p.getD 60 0)) 32)) (shlV .u64 (IntKind.wrap .u64 (p.getD 61 0)) 40)) (shlV .u64 (IntKind.wrap .u64 (p.getD 62 0)) 48)) (shlV .u64 (IntKind.wrap .u64 (p.getD 63 0)) 56)]) (w64_of (by
    repeat' (first | exact or_rng _ _ | exact List.forall_mem_nil _ | refine List.forall_mem_cons.2 ⟨?_, ?_⟩))) rfl
  obtain ⟨s, e2, b⟩ := store_tot r
  refine ⟨s, ?_, b⟩
  rw [tk8, opt_some e, opt_some e2]

end Go.Proofs.YtiflckckekjbnaaDoor
