/- Scalars: sums, differences, the loop below the order. -/
import Derived.Test.YtiflckckekjbnaaDoorC3
namespace Go.Proofs.YtiflckckekjbnaaDoor
open Go Go.Sx Go.RowKit
set_option linter.all false
set_option maxRecDepth 100000

def W64 (l : List Int) : Prop := ∀ i, 0 ≤ l.getD i 0 ∧ l.getD i 0 < 18446744073709551616
def V4 (l : List Int) : Int := l.getD 0 0 + l.getD 1 0 * 18446744073709551616 + l.getD 2 0 * 340282366920938463463374607431768211456 + l.getD 3 0 * 6277101735386680763835789423207666416102355444464034512896
def B4 : Int := 115792089237316195423570985008687907853269984665640564039457584007913129639936
def VL : Int := 7237005577332262213973186563042994240857116359379907606001950938285454250989
theorem V4_order : V4 G_order = VL := by decide
theorem w64_of {l : List Int} (h : ∀ x ∈ l, 0 ≤ x ∧ x < 18446744073709551616) : W64 l := by
  intro i
  simp only [List.getD]
  cases hi : l[i]? with
  | none => simp
  | some v => exact h v (List.mem_of_getElem? hi)
theorem W64_order : W64 G_order := w64_of (by decide)
theorem W64_set {l : List Int} (h : W64 l) {i : Nat} {z : Int} (hz : 0 ≤ z ∧ z < 18446744073709551616) : W64 (setD l i z) := by
  intro j; rw [getD_setD]; split
  · exact hz
  · exact h j
theorem W64_setG {l : List Int} (h : W64 l) {i : Nat} {z : Int} (hz : 0 ≤ z ∧ z < 18446744073709551616) : W64 (setG 0 l i z) := by
  intro j; rw [getD_setG]; split
  · exact hz
  · exact h j
theorem W64_replicate (n : Nat) : W64 (List.replicate n 0) := w64_of (by intro x hx; rw [List.mem_replicate] at hx; omega)
theorem or_rng (x y : Int) : 0 ≤ bitsV .or .u64 x y ∧ bitsV .or .u64 x y < 18446744073709551616 := by
  show 0 ≤ IntKind.u64.wrap _ ∧ IntKind.u64.wrap _ < _
  rw [wu64_eq]; omega
theorem and_rng (x y : Int) : 0 ≤ bitsV .and .u64 x y ∧ bitsV .and .u64 x y < 18446744073709551616 := by
  show 0 ≤ IntKind.u64.wrap _ ∧ IntKind.u64.wrap _ < _
  rw [wu64_eq]; omega
theorem addOk_t {x y c : Int} (hx : 0 ≤ x ∧ x < 18446744073709551616) (hy : 0 ≤ y ∧ y < 18446744073709551616) (hc : c = 0 ∨ c = 1) : addOk x y c = true := by
  unfold addOk
  rw [decide_eq_true hx.1, decide_eq_true hy.1, decide_eq_true (show 0 ≤ c by omega), decide_eq_true (show c ≤ 1 by omega)]; rfl
theorem subOk_t {x y c : Int} (hx : 0 ≤ x ∧ x < 18446744073709551616) (hy : 0 ≤ y ∧ y < 18446744073709551616) (hc : c = 0 ∨ c = 1) : subOk x y c = true := by
  unfold subOk
  rw [decide_eq_true hx.1, decide_eq_true hy.1, decide_eq_true hy.2, decide_eq_true (show 0 ≤ c by omega), decide_eq_true (show c ≤ 1 by omega)]; rfl
theorem minus_step {q : List Int} {k : Int → List Int → Option (List Int × Int)} {a : List Int} {c : Int} (n : Nat) {i : Nat} (hi : i < 4) (ha : W64 a) (hq : W64 q) (hc : c = 0 ∨ c = 1) :
    ∃ c' lo, scalar_minus_l1 q k (n + 1) c (i : Int) a = scalar_minus_l1 q k n c' ((i + 1 : Nat) : Int) (setD a i lo) ∧ 0 ≤ lo ∧ lo < 18446744073709551616 ∧ (c' = 0 ∨ c' = 1) ∧ lo = a.getD i 0 - q.getD i 0 - c + c' * 18446744073709551616 := by
  have h1 := ha i
  have h2 := hq i
  refine ⟨subHi (a.getD i 0) (q.getD i 0) c, subLo (a.getD i 0) (q.getD i 0) c, ?_, ?_⟩
  · rw [scalar_minus_l1, scalar_minus_b1, br_tt (by simp; omega), chk_t (inB_t (by omega) (by omega)), chk_t (inB_t (by omega) (by omega)), bnd_eq, bnd_eq]
    simp only [Int.toNat_natCast]
    rw [chk_t (subOk_t h1 h2 hc), bnd_eq, bnd_eq, chk_t (inB_t (by omega) (by omega)), bnd_eq, bnd_eq, wi64_small (by omega) (by omega)]
    rfl
  · unfold subHi subLo
    generalize a.getD i 0 = x at *
    generalize q.getD i 0 = y at *
    split <;> omega
theorem minus_eq {p q : List Int} (hp : W64 p) (hq : W64 q) : ∃ a c, scalar_minus p q = some (a, c) ∧ W64 a ∧ (c = 0 ∨ c = 1) ∧ V4 a = V4 p - V4 q + c * B4 := by
  obtain ⟨n, hn⟩ : ∃ n, big = n + 1 + 1 + 1 + 1 + 1 := ⟨18446744073709551611, big_eq⟩
  rw [scalar_minus, jn_eq, hn]
  obtain ⟨c0, l0, e0, b0, b0', hc0, v0⟩ := minus_step (k := fun i a => some (a, i)) (n + 1 + 1 + 1 + 1) (i := 0) (by decide) hp hq (.inl rfl)
  have w0 := W64_set hp (i := 0) ⟨b0, b0'⟩
  obtain ⟨c1, l1, e1, b1, b1', hc1, v1⟩ := minus_step (k := fun i a => some (a, i)) (n + 1 + 1 + 1) (i := 1) (by decide) w0 hq hc0
  have w1 := W64_set w0 (i := 1) ⟨b1, b1'⟩
  obtain ⟨c2, l2, e2, b2, b2', hc2, v2⟩ := minus_step (k := fun i a => some (a, i)) (n + 1 + 1) (i := 2) (by decide) w1 hq hc1
  have w2 := W64_set w1 (i := 2) ⟨b2, b2'⟩
  obtain ⟨c3, l3, e3, b3, b3', hc3, v3⟩ := minus_step (k := fun i a => some (a, i)) (n + 1) (i := 3) (by decide) w2 hq hc2
  have w3 := W64_set w2 (i := 3) ⟨b3, b3'⟩
  refine ⟨_, c3, (e0.trans (e1.trans (e2.trans (e3.trans ?_)))), w3, hc3, ?_⟩
  · rw [scalar_minus_l1, scalar_minus_b1, br_ff (by decide)]
  · simp only [V4, getD_setD] at v1 v2 v3 ⊢
    simp [-List.getD_eq_getElem?_getD] at v1 v2 v3 ⊢
    unfold B4
    omega
theorem plus_step {q : List Int} {k : Int → List Int → Option (List Int × Int)} {a : List Int} {c : Int} (n : Nat) {i : Nat} (hi : i < 4) (ha : W64 a) (hq : W64 q) (hc : c = 0 ∨ c = 1) :
    ∃ c' lo, scalar_plus_l1 q k (n + 1) c (i : Int) a = scalar_plus_l1 q k n c' ((i + 1 : Nat) : Int) (setD a i lo) ∧ 0 ≤ lo ∧ lo < 18446744073709551616 ∧ (c' = 0 ∨ c' = 1) ∧ lo = a.getD i 0 + q.getD i 0 + c - c' * 18446744073709551616 := by
  have h1 := ha i
  have h2 := hq i
  refine ⟨addHi (a.getD i 0) (q.getD i 0) c, addLo (a.getD i 0) (q.getD i 0) c, ?_, ?_⟩
  · rw [scalar_plus_l1, scalar_plus_b1, br_tt (by simp; omega), chk_t (inB_t (by omega) (by omega)), chk_t (inB_t (by omega) (by omega)), bnd_eq, bnd_eq]
    simp only [Int.toNat_natCast]
    rw [chk_t (addOk_t h1 h2 hc), bnd_eq, bnd_eq, chk_t (inB_t (by omega) (by omega)), bnd_eq, bnd_eq, wi64_small (by omega) (by omega)]
    rfl
  · unfold addHi addLo
    generalize a.getD i 0 = x at *
    generalize q.getD i 0 = y at *
    omega
theorem plus_eq {p q : List Int} (hp : W64 p) (hq : W64 q) : ∃ a c, scalar_plus p q = some (a, c) ∧ W64 a ∧ (c = 0 ∨ c = 1) ∧ V4 a = V4 p + V4 q - c * B4 := by
  obtain ⟨n, hn⟩ : ∃ n, big = n + 1 + 1 + 1 + 1 + 1 := ⟨18446744073709551611, big_eq⟩
  rw [scalar_plus, jn_eq, hn]
  obtain ⟨c0, l0, e0, b0, b0', hc0, v0⟩ := plus_step (k := fun i a => some (a, i)) (n + 1 + 1 + 1 + 1) (i := 0) (by decide) hp hq (.inl rfl)
  have w0 := W64_set hp (i := 0) ⟨b0, b0'⟩
  obtain ⟨c1, l1, e1, b1, b1', hc1, v1⟩ := plus_step (k := fun i a => some (a, i)) (n + 1 + 1 + 1) (i := 1) (by decide) w0 hq hc0
  have w1 := W64_set w0 (i := 1) ⟨b1, b1'⟩
  obtain ⟨c2, l2, e2, b2, b2', hc2, v2⟩ := plus_step (k := fun i a => some (a, i)) (n + 1 + 1) (i := 2) (by decide) w1 hq hc1
  have w2 := W64_set w1 (i := 2) ⟨b2, b2'⟩
  obtain ⟨c3, l3, e3, b3, b3', hc3, v3⟩ := plus_step (k := fun i a => some (a, i)) (n + 1) (i := 3) (by decide) w2 hq hc2
  have w3 := W64_set w2 (i := 3) ⟨b3, b3'⟩
  refine ⟨_, c3, (e0.trans (e1.trans (e2.trans (e3.trans ?_)))), w3, hc3, ?_⟩
  · rw [scalar_plus_l1, scalar_plus_b1, br_ff (by decide)]
  · simp only [V4, getD_setD] at v1 v2 v3 ⊢
    simp [-List.getD_eq_getElem?_getD] at v1 v2 v3 ⊢
    unfold B4
    omega
theorem V4_rng {l : List Int} (h : W64 l) : 0 ≤ V4 l ∧ V4 l < B4 := by
  have h0 := h 0
  have h1 := h 1
  have h2 := h 2
  have h3 := h 3
  unfold V4 B4
  omega
theorem below_step {k2 : List Int → Option (List Int)} {k5 : Unit → Option (List Int)} {a : List Int} (n : Nat) {i : Nat} (hi : i < 4) :
    scalar_below_l2 k2 a k5 (n + 1) (i : Int) = if a.getD i 0 < G_order.getD i 0 then k2 a else if a.getD i 0 > G_order.getD i 0 then k5 () else scalar_below_l2 k2 a k5 n ((i : Int) - 1) := by
  rw [scalar_below_l2, scalar_below_b2, br_tt (by simp), chk_t (inB_t (by omega) (by omega)), chk_t (inB_t (by omega) (by omega)), bnd_eq, bnd_eq]
  simp only [Int.toNat_natCast]
  by_cases h1 : a.getD i 0 < G_order.getD i 0
  · rw [br_tt (by simpa using h1), if_pos h1]
  · rw [br_ff (by simpa using h1), if_neg h1, chk_t (inB_t (by omega) (by omega)), chk_t (inB_t (by omega) (by omega)), bnd_eq, bnd_eq]
    by_cases h2 : a.getD i 0 > G_order.getD i 0
    · rw [br_tt (by simpa using h2), if_pos h2]
    · rw [br_ff (by simpa using h2), if_neg h2, bnd_eq, wi64_small (by omega) (by omega)]
theorem below_cmp {k2 : List Int → Option (List Int)} {k5 : Unit → Option (List Int)} {a : List Int} (ha : W64 a) : scalar_below_l2 k2 a k5 big 3 = if V4 a < VL then k2 a else k5 () := by
  obtain ⟨n, hn⟩ : ∃ n, big = n + 1 + 1 + 1 + 1 + 1 := ⟨18446744073709551611, big_eq⟩
  rw [hn]
  have s3 := below_step (k2 := k2) (k5 := k5) (a := a) (n + 1 + 1 + 1 + 1) (i := 3) (by decide)
  have s2 := below_step (k2 := k2) (k5 := k5) (a := a) (n + 1 + 1 + 1) (i := 2) (by decide)
  have s1 := below_step (k2 := k2) (k5 := k5) (a := a) (n + 1 + 1) (i := 1) (by decide)
  have s0 := below_step (k2 := k2) (k5 := k5) (a := a) (n + 1) (i := 0) (by decide)
  have e : scalar_below_l2 k2 a k5 (n + 1) (-1) = k5 () := by
    rw [scalar_below_l2, scalar_below_b2, br_ff (by decide)]
  have o0 : G_order.getD 0 0 = 6346243789798364141 := rfl
  have o1 : G_order.getD 1 0 = 1503914060200516822 := rfl
  have o2 : G_order.getD 2 0 = 0 := rfl
  have o3 : G_order.getD 3 0 = 1152921504606846976 := rfl
  rw [o0] at s0
  rw [o1] at s1
  rw [o2] at s2
  rw [o3] at s3
  have s0' : scalar_below_l2 k2 a k5 (n + 1 + 1) (1 - 1) = _ := s0
  have s1' : scalar_below_l2 k2 a k5 (n + 1 + 1 + 1) (2 - 1) = _ := s1
  have s2' : scalar_below_l2 k2 a k5 (n + 1 + 1 + 1 + 1) (3 - 1) = _ := s2
  have e' : scalar_below_l2 k2 a k5 (n + 1) (0 - 1) = k5 () := e
  have f3 : scalar_below_l2 k2 a k5 (n + 1 + 1 + 1 + 1 + 1) 3 = _ := s3
  rw [f3]
  rw [show ((3 : Nat) : Int) - 1 = 3 - 1 from rfl, s2', show ((2 : Nat) : Int) - 1 = 2 - 1 from rfl, s1', show ((1 : Nat) : Int) - 1 = 1 - 1 from rfl, s0', show ((0 : Nat) : Int) - 1 = 0 - 1 from rfl, e']
  have h0 := ha 0
  have h1 := ha 1
  have h2 := ha 2
  have h3 := ha 3
  unfold V4 VL
  generalize a.getD 0 0 = a0 at *
  generalize a.getD 1 0 = a1 at *
  generalize a.getD 2 0 = a2 at *
  generalize a.getD 3 0 = a3 at *
  by_cases hv : a0 + a1 * 18446744073709551616 + a2 * 340282366920938463463374607431768211456 + a3 * 6277101735386680763835789423207666416102355444464034512896 < 7237005577332262213973186563042994240857116359379907606001950938285454250989
  · rw [if_pos hv]
    repeat' split
    all_goals first | rfl | (exfalso; omega)
  · rw [if_neg hv]
    repeat' split
    all_goals first | rfl | (exfalso; omega)
theorem below_loop (m : Nat) : ∀ (n : Nat) {a : List Int}, W64 a → V4 a < ((m : Int) + 1) * VL → ∃ r, scalar_below_l1 some (n + 1 + m) a = some r ∧ W64 r ∧ V4 r = V4 a % VL := by
  induction m with
  | zero =>
    intro n a ha hv
    have h0 := V4_rng ha
    have hv' : V4 a < VL := by omega
    refine ⟨a, ?_, ha, ?_⟩
    · rw [Nat.add_zero, scalar_below_l1, scalar_below_b1, jn_eq, below_cmp ha, if_pos hv']
    · rw [Int.emod_eq_of_lt h0.1 hv']
  | succ m ih =>
    intro n a ha hv
    have h0 := V4_rng ha
    rw [← Nat.add_assoc, scalar_below_l1, scalar_below_b1, jn_eq, below_cmp ha]
    by_cases h : V4 a < VL
    · rw [if_pos h]
      exact ⟨a, rfl, ha, by rw [Int.emod_eq_of_lt h0.1 h]⟩
    · rw [if_neg h]
      obtain ⟨b, c, e, hb, hc, hv2⟩ := minus_eq ha W64_order
      have hbr := V4_rng hb
      rw [V4_order] at hv2
      have hc0 : c = 0 := by
        unfold B4 VL at *
        rcases hc with h | h
        · exact h
        · exfalso; subst h; omega
      rw [opt_some e]
      have hv3 : V4 b = V4 a - VL := by rw [hv2, hc0]; omega
      have hlt : V4 b < ((m : Int) + 1) * VL := by
        rw [hv3]
        have : ((m + 1 : Nat) : Int) + 1 = ((m : Int) + 1) + 1 := by omega
        rw [this, Int.add_mul ((m : Int) + 1) 1 VL] at hv
        omega
      obtain ⟨r, er, hr, vr⟩ := ih n hb hlt
      exact ⟨r, er, hr, by rw [vr, hv3, Int.sub_emod_right]⟩
theorem below_eq {a : List Int} (ha : W64 a) : ∃ r, scalar_below a = some r ∧ W64 r ∧ V4 r = V4 a % VL := by
  rw [scalar_below, jn_eq]
  obtain ⟨n, hn⟩ : ∃ n, big = n + 1 + 16 := ⟨18446744073709551599, big_eq⟩
  rw [hn]
  have h := V4_rng ha
  exact below_loop 16 n ha (by unfold B4 at h; unfold VL; omega)
end Go.Proofs.YtiflckckekjbnaaDoor
