/- The plain laws of the ledger: sums, even books. -/
import Derived.Test.YtdelljcdaepgiaaDoorI3
import Derived.OpenShut
namespace Go.Proofs.YtdelljcdaepgiaaDoor
open Go Go.Sx
set_option linter.all false

def I64 (x : Int) : Prop := -9223372036854775808 ≤ x ∧ x ≤ 9223372036854775807
theorem w64_in {x : Int} (h : I64 x) : w64 x = x := w64_small h.1 (by have := h.2; omega)
theorem w64_I64 (x : Int) : I64 (w64 x) := by unfold w64 I64; rw [IntKind.wrap_i64]; omega
theorem i64_of_wf {x : Int} (h : (Lit.int .i64 x).wf = true) : I64 x := bounds_i64 h

theorem lsum_ok {n a : Int} (hn : I64 n) (ha : I64 a) : (lsumV n a).2 = true ↔ (-9223372036854775808 < n + a ∧ n + a ≤ 9223372036854775807) := by
  unfold lsumV lsumBad w64
  rw [IntKind.wrap_i64]
  obtain ⟨h1, h2⟩ := hn
  obtain ⟨h3, h4⟩ := ha
  by_cases hc : ((decide (a > 0) && decide ((n + a + 9223372036854775808) % 18446744073709551616 - 9223372036854775808 < n) || decide (a < 0) && decide ((n + a + 9223372036854775808) % 18446744073709551616 - 9223372036854775808 > n) || ((n + a + 9223372036854775808) % 18446744073709551616 - 9223372036854775808 == -9223372036854775808)) = true)
  · rw [if_pos hc]
    simp only [Bool.or_eq_true, Bool.and_eq_true, decide_eq_true_eq, beq_iff_eq] at hc
    simp only [Bool.false_eq_true, false_iff]
    omega
  · rw [if_neg hc]
    simp only [Bool.or_eq_true, Bool.and_eq_true, decide_eq_true_eq, beq_iff_eq, not_or, not_and] at hc
    simp only [true_iff]
    omega
theorem lsum_val {n a : Int} (h : (lsumV n a).2 = true) (hn : I64 n) (ha : I64 a) : (lsumV n a).1 = n + a := by
  have h2 := (lsum_ok hn ha).1 h
  unfold lsumV at h ⊢
  split
  · rename_i hb; rw [if_pos hb] at h; cases h
  · exact w64_in ⟨by omega, by omega⟩

theorem mulSide (x : Int) (h : I64 x) (hx : x ≠ -9223372036854775808) : w64 (-1 * x) = -x := by
  rw [show -1 * x = -x by omega]
  exact w64_in ⟨by have := h.2; omega, by have := h.1; omega⟩
theorem mulOne (x : Int) (h : I64 x) : w64 (1 * x) = x := by rw [Int.one_mul]; exact w64_in h

/-- The account's own number. -/
def acc (x y z : Int) (a : Int) : Int := if a = 0 then x else if a = 1 then y else z
def right (a net : Int) : Prop := if a = 0 then 0 ≤ net else net ≤ 0
def putA (x y z a v : Int) : List Int := if a = 0 then [v, y, z] else if a = 1 then [x, v, z] else [x, y, v]

instance (a net : Int) : Decidable (right a net) := by unfold right; infer_instance

theorem acc3 {a : Int} (h : 0 ≤ a ∧ a < 3) : a = 0 ∨ a = 1 ∨ a = 2 := by omega
theorem getD_acc (x y z : Int) {a : Int} (h : 0 ≤ a ∧ a < 3) : [x, y, z].getD a.toNat 0 = acc x y z a := by
  rcases acc3 h with rfl | rfl | rfl <;> rfl
theorem side_wrong {a net : Int} (h : 0 ≤ a ∧ a < 3) (hn : I64 net) (hm : net ≠ -9223372036854775808) : decide (w64 (sideT.getD a.toNat 0 * net) < 0) = !decide (right a net) := by
  rcases acc3 h with rfl | rfl | rfl
  · show decide (w64 (1 * net) < 0) = _
    rw [mulOne _ hn]; simp [right]; rw [← decide_not]; congr 1; simp
  · show decide (w64 (-1 * net) < 0) = _
    rw [mulSide _ hn hm]; simp [right]; rw [← decide_not]; congr 1; simp
  · show decide (w64 (-1 * net) < 0) = _
    rw [mulSide _ hn hm]; simp [right]; rw [← decide_not]; congr 1; simp

/-- What Post does, in numbers. -/
inductive PostR (x y z d c m : Int) : List Int × Int → Prop
  | bad (e : Int) (he : e ≠ 0) : PostR x y z d c m ([x, y, z], e)
  | ok (hd : 0 ≤ d ∧ d < 3) (hc : 0 ≤ c ∧ c < 3) (hne : d ≠ c) (hm : 0 ≤ m)
      (r1 : -9223372036854775808 < acc x y z d + m ∧ acc x y z d + m ≤ 9223372036854775807) (r2 : -9223372036854775808 < acc x y z c - m ∧ acc x y z c - m ≤ 9223372036854775807)
      (s1 : right d (acc x y z d + m)) (s2 : right c (acc x y z c - m)) :
      PostR x y z d c m ([if d = 0 then x + m else if c = 0 then x - m else x, if d = 1 then y + m else if c = 1 then y - m else y, if d = 2 then z + m else if c = 2 then z - m else z], 0)

theorem postBad_iff {d c m : Int} : postBad d c m = true ↔ ¬ ((0 ≤ d ∧ d < 3) ∧ (0 ≤ c ∧ c < 3) ∧ d ≠ c ∧ 0 ≤ m) := by
  simp [postBad, isAcc]; omega

theorem postOut_eq {x y z d c p q : Int} (hd : 0 ≤ d ∧ d < 3) (hc : 0 ≤ c ∧ c < 3) (hne : d ≠ c) :
    setD (setD [x, y, z] d.toNat p) c.toNat q = [if d = 0 then p else if c = 0 then q else x, if d = 1 then p else if c = 1 then q else y, if d = 2 then p else if c = 2 then q else z] := by
  rcases acc3 hd with rfl | rfl | rfl <;> rcases acc3 hc with rfl | rfl | rfl <;> first | (exact absurd rfl hne) | rfl

theorem post_of {x y z d c m : Int} (hx : I64 x) (hy : I64 y) (hz : I64 z) (hm : I64 m) : PostR x y z d c m (postV [x, y, z] d c m) ∧
    ((postV [x, y, z] d c m).2 = if ¬ ((0 ≤ d ∧ d < 3) ∧ (0 ≤ c ∧ c < 3) ∧ d ≠ c ∧ 0 ≤ m) then 2 else
      if ¬ ((-9223372036854775808 < acc x y z d + m ∧ acc x y z d + m ≤ 9223372036854775807) ∧ (-9223372036854775808 < acc x y z c - m ∧ acc x y z c - m ≤ 9223372036854775807)) then 3 else
      if ¬ (right d (acc x y z d + m) ∧ right c (acc x y z c - m)) then 220 else 0) := by
  unfold postV
  by_cases hb : postBad d c m = true
  · rw [if_pos hb, if_pos (postBad_iff.1 hb)]
    exact ⟨.bad 2 (by decide), rfl⟩
  · have hb2 := Classical.not_not.1 (fun h => hb (postBad_iff.2 h))
    rw [if_neg hb, if_neg (Classical.not_not.2 hb2)]
    obtain ⟨hd, hc, hne, h0⟩ := hb2
    have hacc : ∀ a, I64 (acc x y z a) := fun a => by unfold acc; split; exact hx; split; exact hy; exact hz
    have hneg : w64 (0 - m) = -m := by rw [show (0:Int) - m = -m by omega]; exact w64_in ⟨by have := hm.2; omega, by omega⟩
    have hmn : I64 (-m) := ⟨by have := hm.2; omega, by omega⟩
    have hmiss : postMiss [x, y, z] d c m = true ↔ ¬ ((-9223372036854775808 < acc x y z d + m ∧ acc x y z d + m ≤ 9223372036854775807) ∧ (-9223372036854775808 < acc x y z c - m ∧ acc x y z c - m ≤ 9223372036854775807)) := by
      unfold postMiss
      rw [getD_acc x y z hd, getD_acc x y z hc, hneg]
      have e1 := lsum_ok (hacc d) hm
      have e2 := lsum_ok (hacc c) hmn
      rw [show acc x y z c + -m = acc x y z c - m by omega] at e2
      rw [← e1, ← e2]
      cases (lsumV (acc x y z d) m).2 <;> cases (lsumV (acc x y z c) (-m)).2 <;> simp
    by_cases hms : postMiss [x, y, z] d c m = true
    · rw [if_pos hms, if_pos (hmiss.1 hms)]
      exact ⟨.bad 3 (by decide), rfl⟩
    · have hr := Classical.not_not.1 (fun h => hms (hmiss.2 h))
      rw [if_neg hms, if_neg (Classical.not_not.2 hr)]
      have v1 : (lsumV (acc x y z d) m).1 = acc x y z d + m := lsum_val ((lsum_ok (hacc d) hm).2 hr.1) (hacc d) hm
      have v2 : (lsumV (acc x y z c) (-m)).1 = acc x y z c - m := by
        rw [lsum_val ((lsum_ok (hacc c) hmn).2 (by have := hr.2; omega)) (hacc c) hmn]; omega
      have hout : postOut [x, y, z] d c m = [if d = 0 then acc x y z d + m else if c = 0 then acc x y z c - m else x, if d = 1 then acc x y z d + m else if c = 1 then acc x y z c - m else y, if d = 2 then acc x y z d + m else if c = 2 then acc x y z c - m else z] := by
        unfold postOut
        rw [getD_acc x y z hd, getD_acc x y z hc, hneg, v1, v2, postOut_eq hd hc hne]
      have hout2 : postOut [x, y, z] d c m = [if d = 0 then x + m else if c = 0 then x - m else x, if d = 1 then y + m else if c = 1 then y - m else y, if d = 2 then z + m else if c = 2 then z - m else z] := by
        rw [hout]
        rcases acc3 hd with rfl | rfl | rfl <;> rcases acc3 hc with rfl | rfl | rfl <;> first | (exact absurd rfl hne) | rfl
      have hwr : postWrong [x, y, z] d c m = true ↔ ¬ (right d (acc x y z d + m) ∧ right c (acc x y z c - m)) := by
        unfold postWrong
        have g1 : (postOut [x, y, z] d c m).getD d.toNat 0 = acc x y z d + m := by
          rw [hout]
          rcases acc3 hd with rfl | rfl | rfl <;> rfl
        have g2 : (postOut [x, y, z] d c m).getD c.toNat 0 = acc x y z c - m := by
          rw [hout]
          rcases acc3 hd with rfl | rfl | rfl <;> rcases acc3 hc with rfl | rfl | rfl <;> first | (exact absurd rfl hne) | rfl
        rw [g1, g2, side_wrong hd ⟨by omega, by omega⟩ (by omega), side_wrong hc ⟨by omega, by omega⟩ (by omega)]
        simp only [Bool.or_eq_true, Bool.not_eq_true', decide_eq_false_iff_not]
        exact Decidable.not_and_iff_not_or_not.symm
      by_cases hw : postWrong [x, y, z] d c m = true
      · rw [if_pos hw, if_pos (hwr.1 hw)]
        exact ⟨.bad 220 (by decide), rfl⟩
      · have hs := Classical.not_not.1 (fun h => hw (hwr.2 h))
        rw [if_neg hw, if_neg (Classical.not_not.2 hs), hout2]
        exact ⟨.ok hd hc hne h0 hr.1 hr.2 hs.1 hs.2, rfl⟩

/-- An even book. -/
structure EvB (b : List Int) : Prop where
  ex : ∃ c u e, b = [c, u, e] ∧ 0 ≤ c ∧ c ≤ 9223372036854775807 ∧ u ≤ 0 ∧ e ≤ 0 ∧ c + u + e = 0

theorem even_of {b : List Int} (h : EvB b) : evenV b = true := by
  obtain ⟨c, u, e, rfl, h1, h2, h3, h4, h5⟩ := h.ex
  have hb : ∀ a v, 0 ≤ a ∧ a < 3 → I64 v → v ≠ -9223372036854775808 → right a v → [c, u, e].getD a.toNat 0 = v → evenBad [c, u, e] a = false := by
    intro a v ha hv hm hr hg
    unfold evenBad balV
    have e1 : (!isAcc a) = false := by simp [isAcc]; omega
    rw [if_neg (by rw [e1]; decide), hg]
    have e2 : (v == -9223372036854775808) = false := by simpa using hm
    rw [if_neg (by rw [e2]; decide)]
    have := side_wrong ha hv hm
    simp only [this, hr, decide_true]
    rfl
  unfold evenV
  rw [if_neg (by rw [hb 0 c (by decide) ⟨by omega, by omega⟩ (by omega) (by simp [right]; omega) rfl]; decide),
    if_neg (by rw [hb 1 u (by decide) ⟨by omega, by omega⟩ (by omega) (by simp [right]; omega) rfl]; decide),
    if_neg (by rw [hb 2 e (by decide) ⟨by omega, by omega⟩ (by omega) (by simp [right]; omega) rfl]; decide)]
  show (w64 (c + u) == w64 (0 - e)) = true
  rw [show c + u = 0 - e by omega]
  simp

theorem post_even {b : List Int} (h : EvB b) {d c m : Int} (hm : I64 m) : EvB (postV b d c m).1 ∧ ((postV b d c m).2 ≠ 0 → (postV b d c m).1 = b) := by
  obtain ⟨x, y, z, rfl, h1, h2, h3, h4, h5⟩ := h.ex
  obtain ⟨hr, _⟩ := post_of (x := x) (y := y) (z := z) (d := d) (c := c) (m := m) ⟨by omega, by omega⟩ ⟨by omega, by omega⟩ ⟨by omega, by omega⟩ hm
  generalize hp : postV [x, y, z] d c m = p at hr
  cases hr with
  | bad e he => exact ⟨h, fun _ => rfl⟩
  | ok hd hc hne hm0 r1 r2 s1 s2 =>
    refine ⟨⟨⟨_, _, _, rfl, ?_⟩⟩, fun h => absurd rfl h⟩
    rcases acc3 hd with rfl | rfl | rfl <;> rcases acc3 hc with rfl | rfl | rfl <;> simp [acc, right] at * <;> omega

theorem carV_I64 (r p : Int) : I64 (carV r p).1 := by
  unfold carV
  split
  · exact ⟨by decide, by decide⟩
  · exact w64_I64 _
theorem sell_even {b : List Int} (h : EvB b) (r p : Int) : EvB (sellV b r p).1 ∧ ((sellV b r p).2 ≠ 0 → (sellV b r p).1 = b) := by
  unfold sellV; split
  · exact ⟨h, fun _ => rfl⟩
  · exact post_even h (carV_I64 r p)
theorem retire_even {b : List Int} (h : EvB b) (r p : Int) : EvB (retireV b r p).1 ∧ ((retireV b r p).2 ≠ 0 → (retireV b r p).1 = b) := by
  unfold retireV; split
  · exact ⟨h, fun _ => rfl⟩
  · exact post_even h (carV_I64 r p)
theorem refund_even {b : List Int} (h : EvB b) (r k p : Int) : EvB (refundV b r k p).1 ∧ ((refundV b r k p).2 ≠ 0 → (refundV b r k p).1 = b) := by
  unfold refundV; split
  · exact ⟨h, fun _ => rfl⟩
  · split
    · exact ⟨h, fun _ => rfl⟩
    · split
      · exact ⟨h, fun _ => rfl⟩
      · exact ⟨(post_even (post_even h (w64_I64 _)).1 (w64_I64 _)).1, fun h => absurd rfl h⟩
theorem mine_even {b : List Int} (h : EvB b) (o : LOp) (hm : I64 o.amount) : EvB (mineV b o).1 ∧ ((mineV b o).2 ≠ 0 → (mineV b o).1 = b) := by
  unfold mineV
  split
  · exact post_even h hm
  · split
    · exact sell_even h _ _
    · split
      · exact refund_even h _ _ _
      · split
        · exact retire_even h _ _
        · exact ⟨h, fun h => absurd rfl h⟩
theorem listEq_rfl (b : List Int) : listEq b b = true := by simp [listEq]

theorem lev_true {cash earned : Int} {o : LOp} (hc : I64 cash) (he : I64 earned) (hm : I64 o.amount) : levV cash earned o = true := by
  unfold levV
  split
  · exact even_of ⟨0, 0, 0, rfl, by decide, by decide, by decide, by decide, by decide⟩
  · rename_i hout
    simp only [levOut, Bool.or_eq_true, decide_eq_true_eq, not_or] at hout
    have e1 : levB cash earned = [cash, earned - cash, -earned] := by
      unfold levB
      rw [w64_in ⟨by have := hc.2; omega, by have := he.2; omega⟩, show (0 : Int) - earned = -earned by omega, w64_in ⟨by have := he.2; omega, by omega⟩]
    have hb : EvB (levB cash earned) := ⟨cash, earned - cash, -earned, e1, by omega, hc.2, by omega, by omega, by omega⟩
    rw [if_neg (by rw [even_of hb]; decide)]
    obtain ⟨m1, m2⟩ := mine_even hb o hm
    split
    · rename_i h2
      rw [m2 (by simpa using h2)]
      exact listEq_rfl _
    · rename_i h2
      have h2' : (mineV (levB cash earned) o).2 = 0 := by simpa using h2
      by_cases hk : (o.kind == 1) = true
      · have hmv : mineV (levB cash earned) o = postV (levB cash earned) o.debit o.credit o.amount := by unfold mineV; rw [if_pos hk]
        rw [hmv] at h2' m1 ⊢
        obtain ⟨hr, _⟩ := post_of (x := cash) (y := earned - cash) (z := -earned) (d := o.debit) (c := o.credit) (m := o.amount) hc ⟨by have := hc.2; omega, by have := he.2; omega⟩ ⟨by have := he.2; omega, by omega⟩ hm
        have hev := even_of m1
        rw [e1] at h2' hev ⊢
        generalize hp : postV [cash, earned - cash, -earned] o.debit o.credit o.amount = p at hr h2' hev ⊢
        cases hr with
        | bad e he => exact absurd h2' he
        | ok hd hc' hne hm0 r1 r2 s1 s2 =>
          rw [if_neg (by simp [levArg, hk]; omega)]
          have hmv2 : levMove [cash, earned - cash, -earned] [if o.debit = 0 then cash + o.amount else if o.credit = 0 then cash - o.amount else cash, if o.debit = 1 then (earned - cash) + o.amount else if o.credit = 1 then (earned - cash) - o.amount else earned - cash, if o.debit = 2 then -earned + o.amount else if o.credit = 2 then -earned - o.amount else -earned] o = false := by
            unfold levMove
            simp only [hk, Bool.true_and, Bool.or_eq_false_iff, bne_eq_false_iff_eq]
            generalize o.debit = d at *
            generalize o.credit = c at *
            generalize o.amount = m at *
            have hw1 : ∀ x : Int, w64 (x + m - x) = m := fun x => by rw [show x + m - x = m by omega]; exact w64_in hm
            have hw2 : ∀ x : Int, w64 (x - (x - m)) = m := fun x => by rw [show x - (x - m) = m by omega]; exact w64_in hm
            rcases acc3 hd with rfl | rfl | rfl <;> rcases acc3 hc' with rfl | rfl | rfl <;> first
              | (exact absurd rfl hne)
              | exact ⟨⟨hw1 _, hw2 _⟩, rfl⟩
          rw [if_neg (by rw [hmv2]; decide)]
          exact hev
      · rw [if_neg (by simp only [levArg, hk]; simp), if_neg (by simp only [levMove, hk]; simp)]
        exact even_of m1
end Go.Proofs.YtdelljcdaepgiaaDoor
