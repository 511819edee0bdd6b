/- The plain law of LedgerCarnets: what open carnets cost. -/
import Derived.Test.YtdelljcdaepgiaaDoorP1
namespace Go.Proofs.YtdelljcdaepgiaaDoor
open Go Go.Sx
set_option linter.all false

theorem into_in {x lo hi : Int} (h1 : -1000000000000 ≤ lo) (h2 : hi ≤ 1000000000000) (h3 : lo ≤ hi) (hx : I64 x) : lo ≤ intoV x lo hi ∧ intoV x lo hi ≤ hi := by
  unfold intoV
  by_cases ho : intoOut x lo hi = true
  · rw [if_pos ho]
    have e1 : w64 (hi - lo) = hi - lo := w64_in ⟨by omega, by omega⟩
    have e2 : w64 (w64 (hi - lo) + 1) = hi - lo + 1 := by rw [e1]; exact w64_in ⟨by omega, by omega⟩
    have hm : intoM x lo hi = x.tmod (hi - lo + 1) := by unfold intoM; rw [e2]
    have hb : -(hi - lo + 1) < x.tmod (hi - lo + 1) ∧ x.tmod (hi - lo + 1) < hi - lo + 1 := by
      constructor
      · exact Int.lt_tmod_of_pos x (by omega)
      · exact Int.tmod_lt_of_pos x (by omega)
    rw [hm]
    split
    · rename_i h
      have h' : x.tmod (hi - lo + 1) < 0 := by simpa using h
      rw [show (0 : Int) - x.tmod (hi - lo + 1) = -(x.tmod (hi - lo + 1)) by omega, w64_in (x := -(x.tmod (hi - lo + 1))) ⟨by omega, by omega⟩, w64_in ⟨by omega, by omega⟩]
      omega
    · rename_i h
      have h' : ¬ x.tmod (hi - lo + 1) < 0 := by simpa using h
      rw [w64_in ⟨by omega, by omega⟩]
      omega
  · rw [if_neg ho]
    simp [intoOut] at ho
    omega

structure SaleIn (s : LSale) : Prop where
  rides : I64 s.rides
  price : I64 s.price
  back : I64 s.back
  at_ : I64 s.at_
structure PrOk (s : LSale) (j : Int) (most : Int) : Prop where
  r1 : 1 ≤ s.rides
  r2 : s.rides ≤ 4096
  p1 : 0 ≤ s.price
  p2 : s.price ≤ 1000000000
  b1 : 0 ≤ s.back
  b2 : s.back ≤ s.rides
  a1 : j ≤ s.at_
  a2 : s.at_ ≤ most
theorem proper_ok {s : LSale} (h : SaleIn s) {j most : Int} (h0 : 0 ≤ j) (h1 : j ≤ most) (h2 : most ≤ 1000) : PrOk (properV s j most) j most ∧
    w64 (w64 (intoV s.rides 1 4096 - 0) + 1) ≠ 0 ∧ w64 (w64 (most - j) + 1) ≠ 0 := by
  have r := into_in (by decide) (by decide) (by decide : (1 : Int) ≤ 4096) h.rides
  have p := into_in (by decide) (by decide) (by decide : (0 : Int) ≤ 1000000000) h.price
  have b := into_in (lo := 0) (hi := intoV s.rides 1 4096) (by decide) (by omega) (by omega) h.back
  have a := into_in (by omega) (by omega) h1 h.at_
  refine ⟨⟨r.1, r.2, p.1, p.2, b.1, b.2, a.1, a.2⟩, ?_, ?_⟩
  · rw [w64_in (x := intoV s.rides 1 4096 - 0) ⟨by omega, by omega⟩, w64_in ⟨by omega, by omega⟩]; omega
  · rw [w64_in (x := most - j) ⟨by omega, by omega⟩, w64_in ⟨by omega, by omega⟩]; omega

def skipV (s : LSale) (t : Int) : Bool := (s.at_ != t) || decide (s.fin < 1) || decide (s.fin > 2)
def costV (s : LSale) : Int := s.rides * s.price
def ended (s : LSale) (j : Nat) (t : Int) (k : Nat) : Bool := !(decide (s.fin < 1) || decide (s.fin > 2)) && (decide (s.at_ < t) || (s.at_ == t && decide (j < k)))
def osum (pr : Nat → LSale) (t : Int) (k : Nat) : Nat → Int
  | 0 => 0
  | m + 1 => osum pr t k m + (if ended (pr m) m t k = true then 0 else costV (pr m))

theorem osum_congr {pr : Nat → LSale} {t t' : Int} {k k' : Nat} : ∀ {m : Nat}, (∀ j, j < m → ended (pr j) j t k = ended (pr j) j t' k') → osum pr t k m = osum pr t' k' m
  | 0, _ => rfl
  | m + 1, h => by
    unfold osum
    rw [osum_congr (fun j hj => h j (by omega)), h m (by omega)]
theorem cost_in {s : LSale} {j most : Int} (h : PrOk s j most) : 0 ≤ costV s ∧ costV s ≤ 4096000000000 := mul_range (by have := h.r1; omega) h.r2 h.p1 h.p2
where mul_range {r p : Int} (h1 : 0 ≤ r) (h2 : r ≤ 4096) (h3 : 0 ≤ p) (h4 : p ≤ 1000000000) : 0 ≤ r * p ∧ r * p ≤ 4096000000000 :=
  ⟨Int.mul_nonneg h1 h3, by have := Int.mul_le_mul h2 h4 h3 (by decide : (0 : Int) ≤ 4096); simpa using this⟩
theorem osum_nn {pr : Nat → LSale} {t : Int} {k : Nat} : ∀ {m : Nat}, (∀ j, j < m → 0 ≤ costV (pr j)) → 0 ≤ osum pr t k m
  | 0, _ => by simp [osum]
  | m + 1, h => by
    unfold osum
    have := osum_nn (pr := pr) (t := t) (k := k) (m := m) fun j hj => h j (by omega)
    have := h m (by omega)
    split <;> omega
theorem osum_step {pr : Nat → LSale} {t : Int} {k k' j0 : Nat} : ∀ {m : Nat}, (∀ j, j < m → 0 ≤ costV (pr j)) → j0 < m → (∀ j, j < m → j ≠ j0 → ended (pr j) j t k' = ended (pr j) j t k) → ended (pr j0) j0 t k = false → ended (pr j0) j0 t k' = true →
    osum pr t k' m = osum pr t k m - costV (pr j0) ∧ costV (pr j0) ≤ osum pr t k m
  | 0, _, h, _, _, _ => by omega
  | m + 1, hc, hj, he, h1, h2 => by
    unfold osum
    by_cases hm : j0 = m
    · subst hm
      rw [osum_congr (k' := k) (t' := t) fun j hj => he j (by omega) (by omega), h1, h2]
      have := osum_nn (pr := pr) (t := t) (k := k) (m := j0) fun j hj => hc j (by omega)
      simp; omega
    · obtain ⟨i1, i2⟩ := osum_step (pr := pr) (t := t) (k := k) (k' := k') (j0 := j0) (m := m) (fun j hj => hc j (by omega)) (by omega) (fun j hj => he j (by omega)) h1 h2
      rw [he m (by omega) (by omega), i1]
      have := hc m (by omega)
      split <;> omega

/-- What holds between two calls: 'm' carnets sold; the ends up to time t, and at t those of the first k. -/
structure CI (pr : Nat → LSale) (m : Nat) (t : Int) (k : Nat) (b : List Int) (opn gone : Int) : Prop where
  book : b = [opn + gone, -opn, -gone]
  o : opn = osum pr t k m
  g0 : 0 ≤ gone
  o0 : 0 ≤ opn
  s : opn + gone ≤ m * 4096000000000

theorem post_exact {x y z d c m : Int} (hx : I64 x) (hy : I64 y) (hz : I64 z) (hm : I64 m) (ha : (0 ≤ d ∧ d < 3) ∧ (0 ≤ c ∧ c < 3) ∧ d ≠ c ∧ 0 ≤ m)
    (hr : (-9223372036854775808 < acc x y z d + m ∧ acc x y z d + m ≤ 9223372036854775807) ∧ (-9223372036854775808 < acc x y z c - m ∧ acc x y z c - m ≤ 9223372036854775807)) (hs : right d (acc x y z d + m) ∧ right c (acc x y z c - m)) :
    postV [x, y, z] d c m = ([if d = 0 then x + m else if c = 0 then x - m else x, if d = 1 then y + m else if c = 1 then y - m else y, if d = 2 then z + m else if c = 2 then z - m else z], 0) := by
  obtain ⟨h1, h2⟩ := post_of (d := d) (c := c) hx hy hz hm
  rw [if_neg (Classical.not_not.2 ha), if_neg (Classical.not_not.2 hr), if_neg (Classical.not_not.2 hs)] at h2
  generalize postV [x, y, z] d c m = p at h1 h2
  cases h1 with
  | bad e he => exact absurd h2 he
  | ok => rfl

section
variable {pr : Nat → LSale} {m : Nat} {t : Int} {k : Nat} {b : List Int} {opn gone : Int} {s : LSale} {j most : Int}

theorem car_ok (h : PrOk s j most) : carV s.rides s.price = (costV s, true) := by
  have := cost_in h
  unfold carV
  rw [if_neg (by have := h.r1; have := h.r2; have := h.p1; have := h.p2; simp [carBad]; omega)]
  have e : w64 (s.rides * s.price) = costV s := w64_in (x := s.rides * s.price) ⟨by unfold costV at this; omega, by unfold costV at this; omega⟩
  rw [e]
theorem cost_ok (h : PrOk s j most) : w64 (s.rides * s.price) = costV s := by
  have := cost_in h
  exact w64_in (x := s.rides * s.price) ⟨by unfold costV at this; omega, by unfold costV at this; omega⟩

theorem sell_ok (h : CI pr m t k b opn gone) (hm : m < 200) (hp : PrOk s j most) : sellV b s.rides s.price = ([opn + costV s + gone, -(opn + costV s), -gone], 0) := by
  obtain ⟨hc0, hc1⟩ := cost_in hp
  have h1 := h.g0; have h2 := h.o0; have h3 := h.s
  have h4 : (m : Int) * 4096000000000 ≤ 200 * 4096000000000 := Int.mul_le_mul_of_nonneg_right (by omega) (by decide)
  unfold sellV
  rw [car_ok hp, h.book, if_neg (by simp)]
  rw [post_exact ⟨by omega, by omega⟩ ⟨by omega, by omega⟩ ⟨by omega, by omega⟩ ⟨by omega, by omega⟩ ⟨by decide, by decide, by decide, hc0⟩ ⟨by show _ < opn + gone + costV s ∧ opn + gone + costV s ≤ _; omega, by show _ < -opn - costV s ∧ -opn - costV s ≤ _; omega⟩
    ⟨by show 0 ≤ opn + gone + costV s; omega, by show -opn - costV s ≤ 0; omega⟩]
  simp
  omega
theorem retire_ok (h : CI pr m t k b opn gone) (hm : m ≤ 200) (hp : PrOk s j most) (hle : costV s ≤ opn) : retireV b s.rides s.price = ([(opn - costV s) + (gone + costV s), -(opn - costV s), -(gone + costV s)], 0) := by
  obtain ⟨hc0, hc1⟩ := cost_in hp
  have h1 := h.g0; have h2 := h.o0; have h3 := h.s
  have h4 : (m : Int) * 4096000000000 ≤ 200 * 4096000000000 := Int.mul_le_mul_of_nonneg_right (by omega) (by decide)
  unfold retireV
  rw [car_ok hp, h.book, if_neg (by simp)]
  rw [post_exact ⟨by omega, by omega⟩ ⟨by omega, by omega⟩ ⟨by omega, by omega⟩ ⟨by omega, by omega⟩ ⟨by decide, by decide, by decide, hc0⟩ ⟨by show _ < -opn + costV s ∧ -opn + costV s ≤ _; omega, by show _ < -gone - costV s ∧ -gone - costV s ≤ _; omega⟩
    ⟨by show -opn + costV s ≤ 0; omega, by show -gone - costV s ≤ 0; omega⟩]
  simp
  omega
def backV (s : LSale) : Int := s.back * s.price
theorem back_in (hp : PrOk s j most) : 0 ≤ backV s ∧ backV s ≤ costV s :=
  ⟨Int.mul_nonneg hp.b1 hp.p1, Int.mul_le_mul_of_nonneg_right hp.b2 hp.p1⟩
theorem refund_ok (h : CI pr m t k b opn gone) (hm : m ≤ 200) (hp : PrOk s j most) (hle : costV s ≤ opn) :
    refundV b s.rides s.back s.price = ([(opn - costV s) + (gone + (costV s - backV s)), -(opn - costV s), -(gone + (costV s - backV s))], 0) := by
  obtain ⟨hc0, hc1⟩ := cost_in hp
  obtain ⟨hb0, hb1⟩ := back_in hp
  have h1 := h.g0; have h2 := h.o0; have h3 := h.s
  have h4 : (m : Int) * 4096000000000 ≤ 200 * 4096000000000 := Int.mul_le_mul_of_nonneg_right (by omega) (by decide)
  have eb : w64 (s.back * s.price) = backV s := w64_in (x := s.back * s.price) ⟨by unfold backV at hb0 hb1; omega, by unfold backV at hb0 hb1; omega⟩
  have ea : w64 ((carV s.rides s.price).1 - w64 (s.back * s.price)) = costV s - backV s := by
    rw [eb, car_ok hp]; exact w64_in ⟨by simp only; omega, by simp only; omega⟩
  have e1 : ref1 b s.rides s.back s.price = ([opn + gone, -opn + (costV s - backV s), -gone - (costV s - backV s)], 0) := by
    unfold ref1
    rw [ea, h.book]
    rw [post_exact ⟨by omega, by omega⟩ ⟨by omega, by omega⟩ ⟨by omega, by omega⟩ ⟨by omega, by omega⟩ ⟨by decide, by decide, by decide, by omega⟩ ⟨by show _ < -opn + (costV s - backV s) ∧ -opn + (costV s - backV s) ≤ _; omega, by show _ < -gone - (costV s - backV s) ∧ -gone - (costV s - backV s) ≤ _; omega⟩
      ⟨by show -opn + (costV s - backV s) ≤ 0; omega, by show -gone - (costV s - backV s) ≤ 0; omega⟩]
    rfl
  have e2 : ref2 b s.rides s.back s.price = ([opn + gone - backV s, -opn + (costV s - backV s) + backV s, -gone - (costV s - backV s)], 0) := by
    unfold ref2
    rw [e1, eb]
    rw [post_exact ⟨by omega, by omega⟩ ⟨by omega, by omega⟩ ⟨by omega, by omega⟩ ⟨by omega, by omega⟩ ⟨by decide, by decide, by decide, by omega⟩ ⟨by show _ < -opn + (costV s - backV s) + backV s ∧ -opn + (costV s - backV s) + backV s ≤ _; omega, by show _ < opn + gone - backV s ∧ opn + gone - backV s ≤ _; omega⟩
      ⟨by show -opn + (costV s - backV s) + backV s ≤ 0; omega, by show 0 ≤ opn + gone - backV s; omega⟩]
    rfl
  unfold refundV
  rw [e1, e2, if_neg (by have := hp.b1; have := hp.b2; simp [refBad, car_ok hp]; omega), if_neg (by simp), if_neg (by simp)]
  simp
  omega

theorem ci_sell {i : Nat} (h : CI pr i i 0 b opn gone) (hi : i < 200) (hp : PrOk (pr i) i most) :
    CI pr (i + 1) i 0 (sellV b (pr i).rides (pr i).price).1 (w64 (opn + w64 ((pr i).rides * (pr i).price))) gone ∧ (sellV b (pr i).rides (pr i).price).2 = 0 := by
  obtain ⟨hc0, hc1⟩ := cost_in hp
  have h1 := h.g0; have h2 := h.o0; have h3 := h.s
  rw [sell_ok h hi hp, cost_ok hp, w64_in ⟨by omega, by omega⟩]
  refine ⟨⟨rfl, ?_, h1, by omega, ?_⟩, rfl⟩
  · unfold osum
    have : ended (pr i) i i 0 = false := by have := hp.a1; simp [ended]; omega
    rw [this, ← h.o]
    simp
  · have : ((i + 1 : Nat) : Int) * 4096000000000 = i * 4096000000000 + 4096000000000 := by rw [Int.natCast_add, Int.add_mul]; rfl
    omega
theorem ended_next {s : LSale} {j i k : Nat} (hjk : j ≠ k) : ended s j i (k + 1) = ended s j i k := by
  unfold ended
  rw [show decide (j < k + 1) = decide (j < k) by rw [decide_eq_decide]; omega]
theorem ci_skip {i : Nat} (h : CI pr m i k b opn gone) (hs : skipV (pr k) i = true) : CI pr m i (k + 1) b opn gone := by
  refine ⟨h.book, ?_, h.g0, h.o0, h.s⟩
  rw [h.o]
  refine osum_congr fun j hj => ?_
  by_cases hjk : j = k
  · subst hjk
    simp only [skipV, Bool.or_eq_true, bne_iff_ne, decide_eq_true_eq] at hs
    unfold ended
    rcases hs with (hs | hs) | hs
    · have : ((pr j).at_ == (i : Int)) = false := by simpa using hs
      rw [this]; simp
    · simp [hs]
    · simp [hs]
  · exact (ended_next hjk).symm
theorem ci_le {i : Nat} (h : CI pr m i k b opn gone) (hk : k < m) (hC : ∀ j, j < m → 0 ≤ costV (pr j)) (hs : skipV (pr k) i = false) : osum pr i (k + 1) m = opn - costV (pr k) ∧ costV (pr k) ≤ opn := by
  simp only [skipV, Bool.or_eq_false_iff, bne_eq_false_iff_eq, decide_eq_false_iff_not] at hs
  rw [h.o]
  refine osum_step hC hk (fun j hj hne => ended_next hne) ?_ ?_
  · simp [ended, hs.1.1]
  · simp [ended, hs.1.1]; omega
theorem ci_retire {i : Nat} (h : CI pr m i k b opn gone) (hm : m ≤ 200) (hk : k < m) (hC : ∀ j, j < m → 0 ≤ costV (pr j)) (hp : PrOk (pr k) k most) (hs : skipV (pr k) i = false) :
    CI pr m i (k + 1) (retireV b (pr k).rides (pr k).price).1 (w64 (opn - w64 ((pr k).rides * (pr k).price))) (w64 (gone + w64 ((pr k).rides * (pr k).price))) ∧ (retireV b (pr k).rides (pr k).price).2 = 0 := by
  obtain ⟨hc0, hc1⟩ := cost_in hp
  obtain ⟨e1, e2⟩ := ci_le h hk hC hs
  have h1 := h.g0; have h2 := h.o0; have h3 := h.s
  have h4 : (m : Int) * 4096000000000 ≤ 200 * 4096000000000 := Int.mul_le_mul_of_nonneg_right (by omega) (by decide)
  rw [retire_ok h hm hp e2, cost_ok hp, w64_in ⟨by omega, by omega⟩, w64_in ⟨by omega, by omega⟩]
  exact ⟨⟨rfl, e1.symm, by omega, by omega, by omega⟩, rfl⟩
theorem ci_refund {i : Nat} (h : CI pr m i k b opn gone) (hm : m ≤ 200) (hk : k < m) (hC : ∀ j, j < m → 0 ≤ costV (pr j)) (hp : PrOk (pr k) k most) (hs : skipV (pr k) i = false) :
    CI pr m i (k + 1) (refundV b (pr k).rides (pr k).back (pr k).price).1 (w64 (opn - w64 ((pr k).rides * (pr k).price))) (w64 (gone + w64 (w64 ((pr k).rides - (pr k).back) * (pr k).price))) ∧ (refundV b (pr k).rides (pr k).back (pr k).price).2 = 0 := by
  obtain ⟨hc0, hc1⟩ := cost_in hp
  obtain ⟨hb0, hb1⟩ := back_in hp
  obtain ⟨e1, e2⟩ := ci_le h hk hC hs
  have h1 := h.g0; have h2 := h.o0; have h3 := h.s
  have h4 : (m : Int) * 4096000000000 ≤ 200 * 4096000000000 := Int.mul_le_mul_of_nonneg_right (by omega) (by decide)
  have eb : w64 (w64 ((pr k).rides - (pr k).back) * (pr k).price) = costV (pr k) - backV (pr k) := by
    have := hp.r2; have := hp.b2; have := hp.b1
    rw [w64_in (x := (pr k).rides - (pr k).back) ⟨by omega, by omega⟩, Int.sub_mul]
    exact w64_in (x := costV (pr k) - backV (pr k)) ⟨by omega, by omega⟩
  rw [refund_ok h hm hp e2, cost_ok hp, eb, w64_in ⟨by omega, by omega⟩, w64_in ⟨by omega, by omega⟩]
  exact ⟨⟨rfl, e1.symm, by omega, by omega, by omega⟩, rfl⟩
theorem ci_next {i : Nat} (h : CI pr (i + 1) i (i + 1) b opn gone) : CI pr (i + 1) (i + 1 : Nat) 0 b opn gone := by
  refine ⟨h.book, ?_, h.g0, h.o0, h.s⟩
  rw [h.o]
  refine osum_congr fun j hj => ?_
  unfold ended
  congr 1
  rw [Bool.eq_iff_iff]
  simp
  omega
theorem ci_even (h : CI pr m t k b opn gone) (hm : m ≤ 200) : evenV b = true := by
  have h1 := h.g0; have h2 := h.o0; have h3 := h.s
  have h4 : (m : Int) * 4096000000000 ≤ 200 * 4096000000000 := Int.mul_le_mul_of_nonneg_right (by omega) (by decide)
  exact even_of ⟨_, _, _, h.book, by omega, by omega, by omega, by omega, by omega⟩
theorem ci_bal (h : CI pr m t k b opn gone) (hm : m ≤ 200) : balV b 1 = (opn, 0) ∧ balV b 2 = (gone, 0) ∧ balV b 0 = (w64 (opn + gone), 0) := by
  have h1 := h.g0; have h2 := h.o0; have h3 := h.s
  have h4 : (m : Int) * 4096000000000 ≤ 200 * 4096000000000 := Int.mul_le_mul_of_nonneg_right (by omega) (by decide)
  rw [h.book]
  have hn : ∀ n : Int, 0 ≤ n → n ≤ 1000000000000000 → (-n == -9223372036854775808) = false ∧ w64 (-1 * -n) = n := by
    intro n a b
    refine ⟨by simp; omega, ?_⟩
    rw [mulSide (-n) ⟨by omega, by omega⟩ (by omega)]; omega
  refine ⟨?_, ?_, ?_⟩
  · obtain ⟨e1, e2⟩ := hn opn h2 (by omega)
    unfold balV
    rw [if_neg (by decide)]
    show (if (-opn == -9223372036854775808) = true then ((0 : Int), (3 : Int)) else (w64 (-1 * -opn), 0)) = _
    rw [e1, e2]; rfl
  · obtain ⟨e1, e2⟩ := hn gone h1 (by omega)
    unfold balV
    rw [if_neg (by decide)]
    show (if (-gone == -9223372036854775808) = true then ((0 : Int), (3 : Int)) else (w64 (-1 * -gone), 0)) = _
    rw [e1, e2]; rfl
  · unfold balV
    rw [if_neg (by decide)]
    show (if (opn + gone == -9223372036854775808) = true then ((0 : Int), (3 : Int)) else (w64 (1 * (opn + gone)), 0)) = _
    rw [show (opn + gone == -9223372036854775808) = false by simp; omega, Int.one_mul]; rfl
def carBadV (b : List Int) (opn gone : Int) : Bool := ((balV b 1).2 != 0) || ((balV b 2).2 != 0) || ((balV b 0).2 != 0) || ((balV b 1).1 != opn) || ((balV b 2).1 != gone) || ((balV b 0).1 != w64 (opn + gone)) || !evenV b
theorem ci_good (h : CI pr m t k b opn gone) (hm : m ≤ 200) : carBadV b opn gone = false := by
  obtain ⟨e1, e2, e3⟩ := ci_bal h hm
  unfold carBadV
  rw [e1, e2, e3, ci_even h hm]
  simp
end
end Go.Proofs.YtdelljcdaepgiaaDoor
