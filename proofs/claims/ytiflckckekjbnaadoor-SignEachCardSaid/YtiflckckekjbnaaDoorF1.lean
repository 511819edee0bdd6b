/- The field: what the mirrors of its functions come to. -/
import Derived.Test.YtiflckckekjbnaaDoorF0
namespace Go.Proofs.YtiflckckekjbnaaDoor
open Go Go.Sx Go.RowKit
set_option linter.all false
set_option maxRecDepth 100000

def carL (x : List Int) : List Int :=
  [x.getD 0 0 % 2251799813685248 + x.getD 4 0 / 2251799813685248 * 19, x.getD 1 0 % 2251799813685248 + x.getD 0 0 / 2251799813685248, x.getD 2 0 % 2251799813685248 + x.getD 1 0 / 2251799813685248,
   x.getD 3 0 % 2251799813685248 + x.getD 2 0 / 2251799813685248, x.getD 4 0 % 2251799813685248 + x.getD 3 0 / 2251799813685248]
theorem carry_eq {x : List Int} (h : U5 x) : field_carry x = some (carL x) := by
  have ⟨a0, a1, a2, a3, a4, b0, b1, b2, b3, b4⟩ := h
  simp only [field_carry, bnd_eq, shr51, wu64_eq, and51 a0 b0, and51 a1 b1, and51 a2 b2, and51 a3 b3, and51 a4 b4, carL]
  simp only [Option.some.injEq, List.cons.injEq, and_true]
  refine ⟨?_, ?_, ?_, ?_, ?_⟩ <;> omega
/-- Behind a carrying: limbs that are hardly above 51 bits. -/
structure C5 (x : List Int) (e : Int) : Prop where
  a0 : 0 ≤ x.getD 0 0
  a1 : 0 ≤ x.getD 1 0
  a2 : 0 ≤ x.getD 2 0
  a3 : 0 ≤ x.getD 3 0
  a4 : 0 ≤ x.getD 4 0
  b0 : x.getD 0 0 < 2251799813685248 + e
  b1 : x.getD 1 0 < 2251799813685248 + e
  b2 : x.getD 2 0 < 2251799813685248 + e
  b3 : x.getD 3 0 < 2251799813685248 + e
  b4 : x.getD 4 0 < 2251799813685248 + e
theorem C5.u {x : List Int} {e : Int} (h : C5 x e) (he : e ≤ 1125899906842624) : U5 x := by
  have ⟨a0, a1, a2, a3, a4, b0, b1, b2, b3, b4⟩ := h
  constructor <;> omega
theorem car_C {x : List Int} (h : U5 x) : C5 (carL x) 262144 := by
  have ⟨a0, a1, a2, a3, a4, b0, b1, b2, b3, b4⟩ := h
  constructor <;> simp only [carL, List.getD_cons_zero, List.getD_cons_succ] <;> omega
theorem car_C2 {x : List Int} (h : C5 x 262144) : C5 (carL x) 20 := by
  have ⟨a0, a1, a2, a3, a4, b0, b1, b2, b3, b4⟩ := h
  constructor <;> simp only [carL, List.getD_cons_zero, List.getD_cons_succ] <;> omega
theorem car_val {x : List Int} : ∃ q, fval x = fval (carL x) + q * PP := by
  refine ⟨x.getD 4 0 / 2251799813685248, ?_⟩
  simp only [fval, carL, PP, List.getD_cons_zero, List.getD_cons_succ]
  omega
theorem car_mod {x : List Int} : fval (carL x) % PP = fval x % PP := by
  obtain ⟨q, hq⟩ := car_val (x := x)
  rw [hq, Int.add_mul_emod_self_right]
/-- The reduced digits. -/
def fred (x : List Int) : List Int := fdig (fval x % PP)
theorem tk1 (y : List Int) : tk y 1 (5 - 1) = [y.getD 1 0, y.getD 2 0, y.getD 3 0, y.getD 4 0] := rfl
abbrev shw (x : Int) : Int := shrV .u64 x 51
abbrev wuu (x : Int) : Int := IntKind.wrap .u64 x
abbrev low (x : Int) : Int := bitsV .and .u64 x 2251799813685247
def rQ (y1 y2 y3 y4 q : Int) : Int := shw (wuu (y4 + shw (wuu (y3 + shw (wuu (y2 + shw (wuu (y1 + q))))))))
def rr0 (y0 Q : Int) : Int := wuu (y0 + wuu (19 * Q))
theorem red_run (y0 y1 y2 y3 y4 q : Int) : field_reduce_l1 [y0, y1, y2, y3, y4] (fun i46 => field_reduce_l2 (fun a149 => some (setD a149 4 (bitsV .and .u64 (a149.getD 4 0) 2251799813685247))) big 0 (setD [y0, y1, y2, y3, y4] 0 (IntKind.wrap .u64 (y0 + IntKind.wrap .u64 (19 * i46))))) big 0 q =
    some [low (rr0 y0 (rQ y1 y2 y3 y4 q)), low (wuu (y1 + shw (rr0 y0 (rQ y1 y2 y3 y4 q)))), low (wuu (y2 + shw (wuu (y1 + shw (rr0 y0 (rQ y1 y2 y3 y4 q)))))),
      low (wuu (y3 + shw (wuu (y2 + shw (wuu (y1 + shw (rr0 y0 (rQ y1 y2 y3 y4 q)))))))), low (wuu (y4 + shw (wuu (y3 + shw (wuu (y2 + shw (wuu (y1 + shw (rr0 y0 (rQ y1 y2 y3 y4 q)))))))))) ] := by kernel_rfl
theorem list5 {x : List Int} (h : x = [x.getD 0 0, x.getD 1 0, x.getD 2 0, x.getD 3 0, x.getD 4 0]) : True := trivial
theorem q_step {y q : Int} (hy : 0 ≤ y ∧ y < 2251799813685268) (hq : 0 ≤ q ∧ q ≤ 1) : ∃ q' s, shw (wuu (y + q)) = q' ∧ y + q = 2251799813685248 * q' + s ∧ (0 ≤ s ∧ s < 2251799813685248) ∧ (0 ≤ q' ∧ q' ≤ 1) := by
  refine ⟨(y + q) / 2251799813685248, (y + q) % 2251799813685248, ?_, by omega, by omega, by omega⟩
  rw [shw, shr51, wuu, wu64_small (by omega) (by omega)]
theorem r_step {y r : Int} (hy : 0 ≤ y ∧ y < 2251799813685268) (hr : 0 ≤ r ∧ r < 4503599627370496) : ∃ c d r', shw r = c ∧ low r = d ∧ r = 2251799813685248 * c + d ∧ (0 ≤ d ∧ d < 2251799813685248) ∧ wuu (y + c) = r' ∧ r' = y + c ∧ (0 ≤ r' ∧ r' < 4503599627370496) := by
  refine ⟨r / 2251799813685248, r % 2251799813685248, y + r / 2251799813685248, shr51 _, and51 hr.1 (by omega), by omega, by omega, wu64_small (by omega) (by omega), rfl, by omega⟩
theorem red_core {y0 y1 y2 y3 y4 q0 q1 q2 q3 q4 s0 s1 s2 s3 s4 c0 c1 c2 c3 c4 d0 d1 d2 d3 d4 : Int}
    (h0 : y0 + 19 = 2251799813685248 * q0 + s0) (h1 : y1 + q0 = 2251799813685248 * q1 + s1) (h2 : y2 + q1 = 2251799813685248 * q2 + s2) (h3 : y3 + q2 = 2251799813685248 * q3 + s3) (h4 : y4 + q3 = 2251799813685248 * q4 + s4)
    (k0 : y0 + 19 * q4 = 2251799813685248 * c0 + d0) (k1 : y1 + c0 = 2251799813685248 * c1 + d1) (k2 : y2 + c1 = 2251799813685248 * c2 + d2) (k3 : y3 + c2 = 2251799813685248 * c3 + d3) (k4 : y4 + c3 = 2251799813685248 * c4 + d4)
    (t0 : 0 ≤ s0 ∧ s0 < 2251799813685248) (t1 : 0 ≤ s1 ∧ s1 < 2251799813685248) (t2 : 0 ≤ s2 ∧ s2 < 2251799813685248) (t3 : 0 ≤ s3 ∧ s3 < 2251799813685248) (t4 : 0 ≤ s4 ∧ s4 < 2251799813685248)
    (u0 : 0 ≤ d0 ∧ d0 < 2251799813685248) (u1 : 0 ≤ d1 ∧ d1 < 2251799813685248) (u2 : 0 ≤ d2 ∧ d2 < 2251799813685248) (u3 : 0 ≤ d3 ∧ d3 < 2251799813685248) (u4 : 0 ≤ d4 ∧ d4 < 2251799813685248) (hq : 0 ≤ q4 ∧ q4 ≤ 1) (hy : 0 ≤ (y0 + y1 * 2251799813685248 + y2 * 5070602400912917605986812821504 + y3 * 11417981541647679048466287755595961091061972992 + y4 * 25711008708143844408671393477458601640355247900524685364822016) ∧ (y0 + y1 * 2251799813685248 + y2 * 5070602400912917605986812821504 + y3 * 11417981541647679048466287755595961091061972992 + y4 * 25711008708143844408671393477458601640355247900524685364822016) < 115792089237316195423570985008687907853269984665640564039457584007913129639836) :
    (y0 + y1 * 2251799813685248 + y2 * 5070602400912917605986812821504 + y3 * 11417981541647679048466287755595961091061972992 + y4 * 25711008708143844408671393477458601640355247900524685364822016) - q4 * PP = (d0 + d1 * 2251799813685248 + d2 * 5070602400912917605986812821504 + d3 * 11417981541647679048466287755595961091061972992 + d4 * 25711008708143844408671393477458601640355247900524685364822016) ∧ 0 ≤ (d0 + d1 * 2251799813685248 + d2 * 5070602400912917605986812821504 + d3 * 11417981541647679048466287755595961091061972992 + d4 * 25711008708143844408671393477458601640355247900524685364822016) ∧ (d0 + d1 * 2251799813685248 + d2 * 5070602400912917605986812821504 + d3 * 11417981541647679048466287755595961091061972992 + d4 * 25711008708143844408671393477458601640355247900524685364822016) < PP := by
  have e1 : (y0 + y1 * 2251799813685248 + y2 * 5070602400912917605986812821504 + y3 * 11417981541647679048466287755595961091061972992 + y4 * 25711008708143844408671393477458601640355247900524685364822016) + 19 = q4 * 57896044618658097711785492504343953926634992332820282019728792003956564819968 + (s0 + s1 * 2251799813685248 + s2 * 5070602400912917605986812821504 + s3 * 11417981541647679048466287755595961091061972992 + s4 * 25711008708143844408671393477458601640355247900524685364822016) := by omega
  have e2 : (y0 + y1 * 2251799813685248 + y2 * 5070602400912917605986812821504 + y3 * 11417981541647679048466287755595961091061972992 + y4 * 25711008708143844408671393477458601640355247900524685364822016) + 19 * q4 = c4 * 57896044618658097711785492504343953926634992332820282019728792003956564819968 + (d0 + d1 * 2251799813685248 + d2 * 5070602400912917605986812821504 + d3 * 11417981541647679048466287755595961091061972992 + d4 * 25711008708143844408671393477458601640355247900524685364822016) := by omega
  have b1 : 0 ≤ (s0 + s1 * 2251799813685248 + s2 * 5070602400912917605986812821504 + s3 * 11417981541647679048466287755595961091061972992 + s4 * 25711008708143844408671393477458601640355247900524685364822016) ∧ (s0 + s1 * 2251799813685248 + s2 * 5070602400912917605986812821504 + s3 * 11417981541647679048466287755595961091061972992 + s4 * 25711008708143844408671393477458601640355247900524685364822016) < 57896044618658097711785492504343953926634992332820282019728792003956564819968 := by omega
  have b2 : 0 ≤ (d0 + d1 * 2251799813685248 + d2 * 5070602400912917605986812821504 + d3 * 11417981541647679048466287755595961091061972992 + d4 * 25711008708143844408671393477458601640355247900524685364822016) ∧ (d0 + d1 * 2251799813685248 + d2 * 5070602400912917605986812821504 + d3 * 11417981541647679048466287755595961091061972992 + d4 * 25711008708143844408671393477458601640355247900524685364822016) < 57896044618658097711785492504343953926634992332820282019728792003956564819968 := by omega
  generalize (y0 + y1 * 2251799813685248 + y2 * 5070602400912917605986812821504 + y3 * 11417981541647679048466287755595961091061972992 + y4 * 25711008708143844408671393477458601640355247900524685364822016) = V at *
  generalize (d0 + d1 * 2251799813685248 + d2 * 5070602400912917605986812821504 + d3 * 11417981541647679048466287755595961091061972992 + d4 * 25711008708143844408671393477458601640355247900524685364822016) = D at *
  generalize (s0 + s1 * 2251799813685248 + s2 * 5070602400912917605986812821504 + s3 * 11417981541647679048466287755595961091061972992 + s4 * 25711008708143844408671393477458601640355247900524685364822016) = S at *
  clear h0 h1 h2 h3 h4 k0 k1 k2 k3 k4 t0 t1 t2 t3 t4 u0 u1 u2 u3 u4
  simp only [PP]
  have hc : q4 = 0 ∨ q4 = 1 := by omega
  rcases hc with rfl | rfl
  · obtain rfl : c4 = 0 := by omega
    omega
  · obtain rfl : c4 = 1 := by omega
    omega
theorem reduce_eq {x : List Int} (h : U5 x) : field_reduce x = some (fred x) := by
  have h1 := car_C h
  have h2 := car_C2 h1
  have hm : fval (carL (carL x)) % PP = fval x % PP := by rw [car_mod, car_mod]
  rw [field_reduce, opt_some (carry_eq h), opt_some (carry_eq (h1.u (by decide)))]
  unfold fred
  rw [← hm]
  have hl : carL (carL x) = [(carL (carL x)).getD 0 0, (carL (carL x)).getD 1 0, (carL (carL x)).getD 2 0, (carL (carL x)).getD 3 0, (carL (carL x)).getD 4 0] := rfl
  generalize carL (carL x) = y at *
  have ⟨a0, a1, a2, a3, a4, b0, b1, b2, b3, b4⟩ := h2
  simp only [bnd_eq, jn_eq, fval]
  generalize y.getD 0 0 = y0 at *
  generalize y.getD 1 0 = y1 at *
  generalize y.getD 2 0 = y2 at *
  generalize y.getD 3 0 = y3 at *
  generalize y.getD 4 0 = y4 at *
  rw [hl, red_run]
  congr 1
  clear hl h1 h2 hm h
  have e0 : shrV .u64 (IntKind.wrap .u64 (y0 + 19)) 51 = (y0 + 19) / 2251799813685248 := by rw [shr51, wu64_small (by omega) (by omega)]
  obtain ⟨q0, s0, hq0, hs0, hs0', hq0'⟩ : ∃ q s, (y0 + 19) / 2251799813685248 = q ∧ y0 + 19 = 2251799813685248 * q + s ∧ (0 ≤ s ∧ s < 2251799813685248) ∧ (0 ≤ q ∧ q ≤ 1) := ⟨_, (y0 + 19) % 2251799813685248, rfl, by omega, by omega, by omega⟩
  rw [e0, hq0]
  obtain ⟨q1, s1, e1, hs1, hs1', hq1'⟩ := q_step (y := y1) (q := q0) (by omega) hq0'
  obtain ⟨q2, s2, e2, hs2, hs2', hq2'⟩ := q_step (y := y2) (q := q1) (by omega) hq1'
  obtain ⟨q3, s3, e3, hs3, hs3', hq3'⟩ := q_step (y := y3) (q := q2) (by omega) hq2'
  obtain ⟨q4, s4, e4, hs4, hs4', hq4'⟩ := q_step (y := y4) (q := q3) (by omega) hq3'
  have f0 : rr0 y0 q4 = y0 + 19 * q4 := by rw [rr0, wuu, wuu, wu64_small (x := 19 * q4) (by omega) (by omega), wu64_small (by omega) (by omega)]
  have hy : 0 ≤ (y0 + y1 * 2251799813685248 + y2 * 5070602400912917605986812821504 + y3 * 11417981541647679048466287755595961091061972992 + y4 * 25711008708143844408671393477458601640355247900524685364822016) ∧ (y0 + y1 * 2251799813685248 + y2 * 5070602400912917605986812821504 + y3 * 11417981541647679048466287755595961091061972992 + y4 * 25711008708143844408671393477458601640355247900524685364822016) < 115792089237316195423570985008687907853269984665640564039457584007913129639836 := by omega
  unfold rQ
  rw [e1, e2, e3, e4, f0]
  obtain ⟨c0, d0, r1, g0, l0, k0, u0, w1, v1, z1⟩ := r_step (y := y1) (r := y0 + 19 * q4) (by omega) (by omega)
  rw [g0, l0, w1]
  obtain ⟨c1, d1, r2, g1, l1, k1, u1, w2, v2, z2⟩ := r_step (y := y2) (r := r1) (by omega) z1
  rw [g1, l1, w2]
  obtain ⟨c2, d2, r3, g2, l2, k2, u2, w3, v3, z3⟩ := r_step (y := y3) (r := r2) (by omega) z2
  rw [g2, l2, w3]
  obtain ⟨c3, d3, r4, g3, l3, k3, u3, w4, v4, z4⟩ := r_step (y := y4) (r := r3) (by omega) z3
  rw [g3, l3, w4]
  obtain ⟨c4, d4, r5, g4, l4, k4, u4, w5, v5, z5⟩ := r_step (y := y4) (r := r4) (by omega) z4
  rw [l4]
  subst v1 v2 v3 v4
  obtain ⟨hv, hlo⟩ := red_core hs0 hs1 hs2 hs3 hs4 k0 k1 k2 k3 k4 hs0' hs1' hs2' hs3' hs4' u0 u1 u2 u3 u4 hq4' hy
  refine fdig_unique ?_ u0 u1 u2 u3 u4
  rw [← hv] at hlo ⊢
  rw [← Int.emod_eq_of_lt hlo.1 hlo.2, Int.sub_mul_emod_self_right]
end Go.Proofs.YtiflckckekjbnaaDoor
