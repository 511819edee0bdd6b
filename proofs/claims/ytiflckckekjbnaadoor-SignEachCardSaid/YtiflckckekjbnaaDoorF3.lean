/- The field: the product of two numbers. -/
import Derived.Test.YtiflckckekjbnaaDoorF2
namespace Go.Proofs.YtiflckckekjbnaaDoor
open Go Go.Sx Go.RowKit
set_option linter.all false
set_option maxRecDepth 100000

def srow (S : Nat → Int) : List Int := [hi64 (S 0), lo64 (S 0), hi64 (S 1), lo64 (S 1), hi64 (S 2), lo64 (S 2), hi64 (S 3), lo64 (S 3), hi64 (S 4), lo64 (S 4)]
theorem srow_congr {S T : Nat → Int} (h : ∀ k, k < 5 → S k = T k) : srow S = srow T := by
  simp only [srow, h 0 (by decide), h 1 (by decide), h 2 (by decide), h 3 (by decide), h 4 (by decide)]
def updN (S : Nat → Int) (k : Nat) (v : Int) : Nat → Int := fun j => if j = k then v else S j
theorem wadd_row {S : Nat → Int} {k : Nat} {a c : Int} (hk : k < 5) (hs : 0 ≤ S k) (ha : 0 ≤ a ∧ a < 18446744073709551616) (hc : 0 ≤ c ∧ c < 18446744073709551616) (hb : S k + a * c < 340282366920938463463374607431768211456) :
    field_wide_add (srow S) (0 + k * 2) 10 a c = some (srow (updN S k (S k + a * c))) := by
  have h1 : (srow S).getD (0 + k * 2) 0 = hi64 (S k) := by
    match k, hk with
    | 0, _ => rfl
    | 1, _ => rfl
    | 2, _ => rfl
    | 3, _ => rfl
    | 4, _ => rfl
  have h2 : (srow S).getD (0 + k * 2 + 1) 0 = lo64 (S k) := by
    match k, hk with
    | 0, _ => rfl
    | 1, _ => rfl
    | 2, _ => rfl
    | 3, _ => rfl
    | 4, _ => rfl
  rw [wadd_eq hs h1 h2 (by omega) ha hc hb]
  congr 1
  match k, hk with
  | 0, _ => rfl
  | 1, _ => rfl
  | 2, _ => rfl
  | 3, _ => rfl
  | 4, _ => rfl
/-- What a round of the inner loop adds. -/
def mterm (x : Int) (y : List Int) (i j : Nat) : Int := x * (if i + j < 5 then y.getD j 0 else 19 * y.getD j 0)
def BL : Int := 2251799813947392
theorem mul_round {y : List Int} {i j : Nat} {kk : List Int → Option (List Int)} {k' : Int → List Int → Option (List Int)} {x : Int} {S : Nat → Int} {T : Int} (hi : i < 5) (hj : j < 5) (hx : 0 ≤ x ∧ x ≤ 2251799813947392) (hy : ∀ j, j < 5 → 0 ≤ y.getD j 0 ∧ y.getD j 0 ≤ 2251799813947392)
    (hS : ∀ k, k < 5 → 0 ≤ S k ∧ S k ≤ T) (hT : T ≤ 100000000000000000000000000000000000) :
    field_Mul_b2 y (i : Int) x kk k' (j : Int) (srow S) = k' ((j + 1 : Nat) : Int) (srow (updN S ((i + j) % 5) (S ((i + j) % 5) + mterm x y i j))) := by
  have hyj := hy j hj
  rw [field_Mul_b2, br_tt (by simp; omega), jn_eq, chk_t (inB_t (by omega) (by omega))]
  simp only [bnd_eq, Int.toNat_natCast]
  have hij : IntKind.wrap .i64 ((i : Int) + (j : Int)) = ((i + j : Nat) : Int) := by rw [wi64_small (by omega) (by omega)]; omega
  have hj1 : IntKind.wrap .i64 ((j : Int) + 1) = ((j + 1 : Nat) : Int) := by rw [wi64_small (by omega) (by omega)]; omega
  rw [hij, hj1]
  have hSk := hS ((i + j) % 5) (Nat.mod_lt _ (by decide))
  by_cases h : i + j < 5
  · have hm : (i + j) % 5 = i + j := Nat.mod_eq_of_lt h
    rw [hm] at hSk ⊢
    have hp := mul_bd hx hyj
    rw [br_tt (by simp; omega), chk_t (inB_t (by omega) (by omega)), opt_some (wadd_row (S := S) (k := ((i + j : Nat) : Int).toNat) (by omega) (by rw [Int.toNat_natCast]; exact hSk.1) (by omega) (by omega) (by rw [Int.toNat_natCast]; omega))]
    simp only [Int.toNat_natCast, mterm, if_pos h]
  · have hm : (i + j) % 5 = i + j - 5 := by omega
    rw [hm] at hSk ⊢
    have h5 : IntKind.wrap .i64 (((i + j : Nat) : Int) - 5) = ((i + j - 5 : Nat) : Int) := by rw [wi64_small (by omega) (by omega)]; omega
    have h19 : IntKind.wrap .u64 (19 * y.getD j 0) = 19 * y.getD j 0 := wu64_small (by omega) (by omega)
    rw [h5, h19]
    have hp := mul_bd (b := 19 * y.getD j 0) (B := 42784196465000448) hx (by omega)
    rw [br_ff (by simp; omega), chk_t (inB_t (by omega) (by omega)), opt_some (wadd_row (S := S) (k := ((i + j - 5 : Nat) : Int).toNat) (by omega) (by rw [Int.toNat_natCast]; exact hSk.1) (by omega) (by omega) (by rw [Int.toNat_natCast]; omega))]
    simp only [Int.toNat_natCast, mterm, if_neg h]
theorem mul_exit {y : List Int} {i : Nat} {kk : List Int → Option (List Int)} {k' : Int → List Int → Option (List Int)} {x : Int} {a : List Int} (hi : i < 5) : field_Mul_b2 y (i : Int) x kk k' 5 a = kk a := by
  rw [field_Mul_b2, br_ff (by decide)]
theorem mterm_bd {x : Int} {y : List Int} {i j : Nat} (hj : j < 5) (hx : 0 ≤ x ∧ x ≤ 2251799813947392) (hy : ∀ j, j < 5 → 0 ≤ y.getD j 0 ∧ y.getD j 0 ≤ 2251799813947392) : 0 ≤ mterm x y i j ∧ mterm x y i j ≤ 96341445639776675308685928431616 := by
  have hyj := hy j hj
  unfold mterm
  split
  · have := mul_bd hx hyj; omega
  · have := mul_bd (b := 19 * y.getD j 0) (B := 42784196465000448) hx (by omega); omega
theorem upd_bd {S : Nat → Int} {T v : Int} {k : Nat} (hS : ∀ k, k < 5 → 0 ≤ S k ∧ S k ≤ T) (hv : 0 ≤ v ∧ v ≤ T + 96341445639776675308685928431616) : ∀ j, j < 5 → 0 ≤ updN S k v j ∧ updN S k v j ≤ T + 96341445639776675308685928431616 := by
  intro j hj
  have := hS j hj
  unfold updN
  split <;> omega
/-- The inner loop. -/
def inn (S : Nat → Int) (x : Int) (y : List Int) (i : Nat) : Nat → Int := fun k => S k + x * (if i ≤ k then y.getD (k - i) 0 else 19 * y.getD (k + 5 - i) 0)
theorem mul_inner {y : List Int} {i : Nat} {kk : List Int → Option (List Int)} {x : Int} {S : Nat → Int} {T : Int} (hi : i < 5) (hx : 0 ≤ x ∧ x ≤ 2251799813947392) (hy : ∀ j, j < 5 → 0 ≤ y.getD j 0 ∧ y.getD j 0 ≤ 2251799813947392)
    (hS : ∀ k, k < 5 → 0 ≤ S k ∧ S k ≤ T) (hT : T ≤ 10000000000000000000000000000000000) :
    field_Mul_l2 y (i : Int) x kk big 0 (srow S) = kk (srow (inn S x y i)) := by
  obtain ⟨n, hn⟩ : ∃ n, big = n + 6 := ⟨18446744073709551610, big_eq⟩
  rw [hn]
  have step : ∀ (n j : Nat) (S : Nat → Int) (T : Int), j < 5 → (∀ k, k < 5 → 0 ≤ S k ∧ S k ≤ T) → T ≤ 100000000000000000000000000000000000 →
      field_Mul_l2 y (i : Int) x kk (n + 1) (j : Int) (srow S) = field_Mul_l2 y (i : Int) x kk n ((j + 1 : Nat) : Int) (srow (updN S ((i + j) % 5) (S ((i + j) % 5) + mterm x y i j))) :=
    fun n j S T hj hS hT => mul_round hi hj hx hy hS hT
  have bd : ∀ (j : Nat) (S : Nat → Int) (T : Int), j < 5 → (∀ k, k < 5 → 0 ≤ S k ∧ S k ≤ T) → ∀ k, k < 5 → 0 ≤ updN S ((i + j) % 5) (S ((i + j) % 5) + mterm x y i j) k ∧ updN S ((i + j) % 5) (S ((i + j) % 5) + mterm x y i j) k ≤ T + 96341445639776675308685928431616 :=
    fun j S T hj hS => upd_bd hS (by have := mterm_bd (i := i) hj hx hy; have := hS ((i + j) % 5) (Nat.mod_lt _ (by decide)); omega)
  have s0 := step (n + 5) 0 S T (by decide) hS (by omega)
  have b0 := bd 0 S T (by decide) hS
  have s1 := step (n + 4) 1 _ _ (by decide) b0 (by omega)
  have b1 := bd 1 _ _ (by decide) b0
  have s2 := step (n + 3) 2 _ _ (by decide) b1 (by omega)
  have b2 := bd 2 _ _ (by decide) b1
  have s3 := step (n + 2) 3 _ _ (by decide) b2 (by omega)
  have b3 := bd 3 _ _ (by decide) b2
  have s4 := step (n + 1) 4 _ _ (by decide) b3 (by omega)
  refine (s0.trans (s1.trans (s2.trans (s3.trans (s4.trans ((mul_exit hi).trans ?_))))))
  congr 1
  apply srow_congr
  intro k hk
  clear s0 s1 s2 s3 s4 b0 b1 b2 b3 bd step hS hy hx hn
  match i, hi, k, hk with
  | 0, _, 0, _ | 0, _, 1, _ | 0, _, 2, _ | 0, _, 3, _ | 0, _, 4, _ | 1, _, 0, _ | 1, _, 1, _ | 1, _, 2, _ | 1, _, 3, _ | 1, _, 4, _ | 2, _, 0, _ | 2, _, 1, _ | 2, _, 2, _ | 2, _, 3, _ | 2, _, 4, _
  | 3, _, 0, _ | 3, _, 1, _ | 3, _, 2, _ | 3, _, 3, _ | 3, _, 4, _ | 4, _, 0, _ | 4, _, 1, _ | 4, _, 2, _ | 4, _, 3, _ | 4, _, 4, _ => rfl

theorem inn_bd {S : Nat → Int} {x T : Int} {y : List Int} {i : Nat} (hi : i < 5) (hx : 0 ≤ x ∧ x ≤ 2251799813947392) (hy : ∀ j, j < 5 → 0 ≤ y.getD j 0 ∧ y.getD j 0 ≤ 2251799813947392) (hS : ∀ k, k < 5 → 0 ≤ S k ∧ S k ≤ T) :
    ∀ k, k < 5 → 0 ≤ inn S x y i k ∧ inn S x y i k ≤ T + 96341445639776675308685928431616 := by
  intro k hk
  have h1 := hS k hk
  unfold inn
  split
  · have := mul_bd hx (hy (k - i) (by omega)); omega
  · have := mul_bd (b := 19 * y.getD (k + 5 - i) 0) (B := 42784196465000448) hx (by have := hy (k + 5 - i) (by omega); omega); omega
/-- The sums of the products. -/
def msum (x y : List Int) : Nat → Int := inn (inn (inn (inn (inn (fun _ => 0) (x.getD 0 0) y 0) (x.getD 1 0) y 1) (x.getD 2 0) y 2) (x.getD 3 0) y 3) (x.getD 4 0) y 4
theorem msum_bd {x y : List Int} (hx : ∀ j, j < 5 → 0 ≤ x.getD j 0 ∧ x.getD j 0 ≤ 2251799813947392) (hy : ∀ j, j < 5 → 0 ≤ y.getD j 0 ∧ y.getD j 0 ≤ 2251799813947392) : ∀ k, k < 5 → 0 ≤ msum x y k ∧ msum x y k ≤ 481707228198883376543429642158080 := by
  have b0 := inn_bd (S := fun _ => 0) (T := 0) (i := 0) (by decide) (hx 0 (by decide)) hy (fun _ _ => by simp)
  have b1 := inn_bd (i := 1) (by decide) (hx 1 (by decide)) hy b0
  have b2 := inn_bd (i := 2) (by decide) (hx 2 (by decide)) hy b1
  have b3 := inn_bd (i := 3) (by decide) (hx 3 (by decide)) hy b2
  have b4 := inn_bd (i := 4) (by decide) (hx 4 (by decide)) hy b3
  intro k hk
  have := b4 k hk
  unfold msum
  omega
theorem outer_step {x y : List Int} (hx : ∀ j, j < 5 → 0 ≤ x.getD j 0 ∧ x.getD j 0 ≤ 2251799813947392) (hy : ∀ j, j < 5 → 0 ≤ y.getD j 0 ∧ y.getD j 0 ≤ 2251799813947392) (n i : Nat) (S : Nat → Int) (T : Int) (hi : i < 5) (hS : ∀ k, k < 5 → 0 ≤ S k ∧ S k ≤ T) (hT : T ≤ 10000000000000000000000000000000000) (kk : List Int → Option (List Int)) :
      field_Mul_l1 x y kk (n + 1) (i : Int) (srow S) = field_Mul_l1 x y kk n ((i + 1 : Nat) : Int) (srow (inn S (x.getD i 0) y i)) := by
  rw [field_Mul_l1, field_Mul_b1, br_tt (by simp; omega), chk_t (inB_t (by omega) (by omega))]
  simp only [bnd_eq, jn_eq, Int.toNat_natCast]
  rw [mul_inner hi (hx i hi) hy hS hT, wi64_small (by omega) (by omega)]
  rfl
theorem outer_last {x y : List Int} (n : Nat) (a : List Int) (kk : List Int → Option (List Int)) : field_Mul_l1 x y kk (n + 1) ((5 : Nat) : Int) a = kk a := by
  rw [field_Mul_l1, field_Mul_b1, br_ff (by decide)]
theorem srow0 : (List.replicate 10 0 : List Int) = srow (fun _ => 0) := by decide
theorem mul_outer {x y : List Int} (hx : ∀ j, j < 5 → 0 ≤ x.getD j 0 ∧ x.getD j 0 ≤ 2251799813947392) (hy : ∀ j, j < 5 → 0 ≤ y.getD j 0 ∧ y.getD j 0 ≤ 2251799813947392) (kk : List Int → Option (List Int)) :
    field_Mul_l1 x y kk big 0 (List.replicate 10 0) = kk (srow (msum x y)) := by
  obtain ⟨n, hn⟩ : ∃ n, big = n + 1 + 1 + 1 + 1 + 1 + 1 := ⟨18446744073709551610, big_eq⟩
  have b0 := inn_bd (S := fun _ => 0) (T := 0) (i := 0) (by decide) (hx 0 (by decide)) hy (fun _ _ => by simp)
  have b1 := inn_bd (i := 1) (by decide) (hx 1 (by decide)) hy b0
  have b2 := inn_bd (i := 2) (by decide) (hx 2 (by decide)) hy b1
  have b3 := inn_bd (i := 3) (by decide) (hx 3 (by decide)) hy b2
  have s0 := outer_step (kk := kk) hx hy (n + 1 + 1 + 1 + 1 + 1) 0 (fun _ => 0) 0 (by decide) (fun _ _ => by simp) (by omega)
  have s1 := outer_step (kk := kk) hx hy (n + 1 + 1 + 1 + 1) 1 _ _ (by decide) b0 (by omega)
  have s2 := outer_step (kk := kk) hx hy (n + 1 + 1 + 1) 2 _ _ (by decide) b1 (by omega)
  have s3 := outer_step (kk := kk) hx hy (n + 1 + 1) 3 _ _ (by decide) b2 (by omega)
  have s4 := outer_step (kk := kk) hx hy (n + 1) 4 _ _ (by decide) b3 (by omega)
  have s5 := outer_last (x := x) (y := y) n (srow (msum x y)) kk
  unfold msum at s5 ⊢
  rw [← hn] at s0
  rw [srow0]
  exact s0.trans (s1.trans (s2.trans (s3.trans (s4.trans s5))))
/-- The sums, carried. -/
theorem mul_carry {S : Nat → Int} {kk : Int → List Int → Option (List Int)} {k' : Int → Int → List Int → Option (List Int)} {i : Nat} {c : Int} {out : List Int} (hi : i < 5) (hS : 0 ≤ S i ∧ S i ≤ 481707228198883376543429642158080) (hc : 0 ≤ c ∧ c < 18446744073709551616) :
    field_Mul_b3 (srow S) kk k' (i : Int) c out = k' ((i + 1 : Nat) : Int) ((S i + c) / 2251799813685248) (setD out i ((S i + c) % 2251799813685248)) := by
  have ht : tk (srow S) (i * 2) 2 = [hi64 (S i), lo64 (S i)] := by
    match i, hi with
    | 0, _ => rfl
    | 1, _ => rfl
    | 2, _ => rfl
    | 3, _ => rfl
    | 4, _ => rfl
  rw [field_Mul_b3, br_tt (by simp; omega), chk_t (inB_t (by omega) (by omega))]
  simp only [bnd_eq, Int.toNat_natCast, ht, List.getD_cons_zero, List.getD_cons_succ]
  generalize S i = s at *
  have hl : 0 ≤ lo64 s ∧ lo64 s < 18446744073709551616 := by unfold lo64; omega
  rw [chk_t (by simp [addOk]; omega), chk_t (inB_t (by omega) (by omega))]
  simp only [addLo_eq, addHi_eq, Int.add_zero]
  rw [wi64_small (by omega) (by omega), shr51, shl13, and51 (by omega) (by omega)]
  have hh : 0 ≤ hi64 s ∧ hi64 s < 1000000000000000 := by unfold hi64; omega
  have hcar : 0 ≤ (lo64 s + c) / 18446744073709551616 ∧ (lo64 s + c) / 18446744073709551616 ≤ 1 := by omega
  rw [wu64_small (x := hi64 s + (lo64 s + c) / 18446744073709551616) (by omega) (by omega)]
  have hm : (hi64 s + (lo64 s + c) / 18446744073709551616) * 8192 % 18446744073709551616 = (hi64 s + (lo64 s + c) / 18446744073709551616) * 8192 := by omega
  rw [hm, or_add 13 (x := (hi64 s + (lo64 s + c) / 18446744073709551616) * 8192) (a := hi64 s + (lo64 s + c) / 18446744073709551616) rfl (by omega) (by omega) (by omega) (by omega)]
  have e1 : (lo64 s + c) % 18446744073709551616 % 2251799813685248 = (s + c) % 2251799813685248 := by unfold lo64; omega
  have e2 : (hi64 s + (lo64 s + c) / 18446744073709551616) * 8192 + (lo64 s + c) % 18446744073709551616 / 2251799813685248 = (s + c) / 2251799813685248 := by unfold hi64 lo64; omega
  rw [e1, e2]
  rfl
theorem alg5 (x0 x1 x2 x3 x4 y0 y1 y2 y3 y4 m : Int) : (x0 + x1 * m + x2 * (m * m) + x3 * (m * m * m) + x4 * (m * m * m * m)) * (y0 + y1 * m + y2 * (m * m) + y3 * (m * m * m) + y4 * (m * m * m * m)) =
    x0 * y0 + (x0 * y1 + x1 * y0) * m + (x0 * y2 + x1 * y1 + x2 * y0) * (m * m) + (x0 * y3 + x1 * y2 + x2 * y1 + x3 * y0) * (m * m * m) + (x0 * y4 + x1 * y3 + x2 * y2 + x3 * y1 + x4 * y0) * (m * m * m * m)
     + ((x1 * y4 + x2 * y3 + x3 * y2 + x4 * y1) + (x2 * y4 + x3 * y3 + x4 * y2) * m + (x3 * y4 + x4 * y3) * (m * m) + x4 * y4 * (m * m * m)) * (m * m * m * m * m) := by grind
theorem msum_val (x y : List Int) : ∃ q, fval x * fval y = msum x y 0 + msum x y 1 * 2251799813685248 + msum x y 2 * 5070602400912917605986812821504 + msum x y 3 * 11417981541647679048466287755595961091061972992 + msum x y 4 * 25711008708143844408671393477458601640355247900524685364822016 + q * PP := by
  have h := alg5 (x.getD 0 0) (x.getD 1 0) (x.getD 2 0) (x.getD 3 0) (x.getD 4 0) (y.getD 0 0) (y.getD 1 0) (y.getD 2 0) (y.getD 3 0) (y.getD 4 0) 2251799813685248
  have e0 : msum x y 0 = x.getD 0 0 * y.getD 0 0 + 19 * (x.getD 1 0 * y.getD 4 0 + x.getD 2 0 * y.getD 3 0 + x.getD 3 0 * y.getD 2 0 + x.getD 4 0 * y.getD 1 0) := by simp [msum, inn] <;> grind
  have e1 : msum x y 1 = x.getD 0 0 * y.getD 1 0 + x.getD 1 0 * y.getD 0 0 + 19 * (x.getD 2 0 * y.getD 4 0 + x.getD 3 0 * y.getD 3 0 + x.getD 4 0 * y.getD 2 0) := by simp [msum, inn] <;> grind
  have e2 : msum x y 2 = x.getD 0 0 * y.getD 2 0 + x.getD 1 0 * y.getD 1 0 + x.getD 2 0 * y.getD 0 0 + 19 * (x.getD 3 0 * y.getD 4 0 + x.getD 4 0 * y.getD 3 0) := by simp [msum, inn] <;> grind
  have e3 : msum x y 3 = x.getD 0 0 * y.getD 3 0 + x.getD 1 0 * y.getD 2 0 + x.getD 2 0 * y.getD 1 0 + x.getD 3 0 * y.getD 0 0 + 19 * (x.getD 4 0 * y.getD 4 0) := by simp [msum, inn] <;> grind
  have e4 : msum x y 4 = x.getD 0 0 * y.getD 4 0 + x.getD 1 0 * y.getD 3 0 + x.getD 2 0 * y.getD 2 0 + x.getD 3 0 * y.getD 1 0 + x.getD 4 0 * y.getD 0 0 := by simp [msum, inn] <;> grind
  refine ⟨(x.getD 1 0 * y.getD 4 0 + x.getD 2 0 * y.getD 3 0 + x.getD 3 0 * y.getD 2 0 + x.getD 4 0 * y.getD 1 0) + (x.getD 2 0 * y.getD 4 0 + x.getD 3 0 * y.getD 3 0 + x.getD 4 0 * y.getD 2 0) * 2251799813685248 + (x.getD 3 0 * y.getD 4 0 + x.getD 4 0 * y.getD 3 0) * 5070602400912917605986812821504 + x.getD 4 0 * y.getD 4 0 * 11417981541647679048466287755595961091061972992, ?_⟩
  rw [e0, e1, e2, e3, e4]
  simp only [fval, PP]
  simp only [Int.reduceMul] at h
  rw [h]
  omega
end Go.Proofs.YtiflckckekjbnaaDoor
